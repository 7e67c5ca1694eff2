/-L-/
import Derived.Test.YtjnooagaghdkdaaGreatDoorZ38
set_option maxHeartbeats 10000000
set_option maxRecDepth 100000
set_option linter.all false
namespace Go.Proofs.YtjnooagaghdkdaaGreatDoor
section
open Go.RowKit Go.ChangeShapes Go.WideShapes Go.ChangeAt
def cNat (n:Nat):List Value:=[.int .i64 (n:Int)]
structure CoF (p1:Nat->Prop) (b:Nat) (w:World) (x:Txn) (cv:Nat->ClV) (dv hvv:Value) (hv:List Nat) (wr:World) (nv:Value) (σ:Wd) (sv:Nat->SrvV) (ns:List Note):Prop where
 win:WIn (fun q=>(p1 q\/q=w.heap.size\/q=w.heap.size+1)\/nv.ownBlock=some q) b wr σ sv cv dv
 nts:Ow JbZ 3 80 wr (w.heap.size+2) nv ns
 hav:SlA (pW (fun q=>(p1 q\/q=w.heap.size\/q=w.heap.size+1)\/nv.ownBlock=some q) b dv) cNat 1 wr hvv hv
 keep:Keeps (fun q=>q=b\/dv.ownBlock=some q\/w.heap.size<=q) w wr
 xbx:Bk wr w.heap.size (cTxn x) 39
 box:Bk wr (w.heap.size+1) rpZ 35
section
variable {p0:Nat->Prop} {b:Nat} {w:World} {x:Txn} {cv:Nat->ClV} {dv hvv:Value} {hv:List Nat} {wr W W':World} {nv:Value} {σ σ':Wd} {sv sv':Nat->SrvV} {ns:List Note}
theorem CoF.below (h:CoF p0 b w x cv dv hvv hv wr nv σ sv ns) (hb:Below wr.heap.size wr W):CoF p0 b w x cv dv hvv hv W nv σ sv ns:=
 ⟨h.win.below hb,h.nts.below hb,h.hav.below hb,h.keep.trans (zC3 hb (p:=fun q=>q=b)) (fun _ _ e=>.inl e),h.xbx.below hb,h.box.below hb⟩
theorem CoF.setB (h:CoF p0 b w x cv dv hvv hv wr nv σ sv ns) (hb:b<w.heap.size) (hg:wr.grownBy W (some b)) (hw:WIn (fun q=>(p0 q\/q=w.heap.size\/q=w.heap.size+1)\/nv.ownBlock=some q) b W σ' sv' cv dv):CoF p0 b w x cv dv hvv hv W nv σ' sv' ns:=by
 have hr:∀ q,some b=some q->pW (fun q=>(p0 q\/q=w.heap.size\/q=w.heap.size+1)\/nv.ownBlock=some q) b dv q:=fun q e=>.inr (.inl qa0)
 refine ⟨hw,h.nts.kept hg (.inr (fun e=>by have:=(h.nts.own_in e).1; omega)),h.hav.grow hg hr (fun _=>.inl),?_,h.xbx.grown hg (fun e=>by injection e with e; omega),h.box.grown hg (fun e=>by injection e with e; omega)⟩
 exact h.keep.trans (zE8 (p:=fun q=>q=b) hg (fun q e=>by injection e with e; exact e.symm)) (fun _ _ e=>.inl e)
theorem CoF.push {v2:Value} {ns2:List Note} (h:CoF p0 b w x cv dv hvv hv wr nv σ sv ns) (hg:wr.grownBy W nv.ownBlock) (hat:v2.ownBlock=nv.ownBlock\/v2.ownBlock=some wr.heap.size) (ho:Ow JbZ 3 80 W (w.heap.size+2) v2 ns2):CoF p0 b w x cv dv hvv hv W v2 σ sv ns2:=by
 have hn:∀ q,nv.ownBlock=some q->pW (fun q=>(p0 q\/q=w.heap.size\/q=w.heap.size+1)\/nv.ownBlock=some q) b dv q:=fun q e=>.inl (.inr e)
 have hp:∀ q,pW (fun q=>(p0 q\/q=w.heap.size\/q=w.heap.size+1)\/v2.ownBlock=some q) b dv q->pW (fun q=>(p0 q\/q=w.heap.size\/q=w.heap.size+1)\/nv.ownBlock=some q) b dv q\/wr.heap.size<=q:=by
  rintro q ((e | e) | e)
  ·exact .inl (.inl (.inl e))
  ·rcases hat with a | a
   ·exact .inl (.inl (.inr (a▸e)))
   ·rw [a] at e
    injection e with e
    exact .inr (zH1 e)
  ·exact .inl (.inr e)
 refine ⟨h.win.push hg hat,ho,h.hav.push (v2:=v2) hn hg hp,?_,h.xbx.grown hg (fun e=>by have:=(h.nts.own_in e.symm).1; omega),h.box.grown hg (fun e=>by have:=(h.nts.own_in e.symm).1; omega)⟩
 exact h.keep.trans (zE8 (p:=fun q=>nv.ownBlock=some q) hg (fun q e=>e)) (fun k _ e=>.inr (.inr (by have:=(h.nts.own_in e).1; omega)))
end
structure CoL (p0:Nat->Prop) (b:Nat) (w:World) (Reg:List Txn) (E:Int) (K:Nat) (x:Txn) (cv:Nat->ClV) (dv hvv:Value) (hv:List Nat) (σ0:Wd) (k:Nat) (wr:World) (nv:Value) (σ:Wd) (sv:Nat->SrvV) (ns:List Note):Prop extends CoF p0 b w x cv dv hvv hv wr nv σ sv ns where
 eq:(hv.take k).foldl Jiw (σ0,[])=(σ,ns)
 com:ComIn Reg E K (hv.take k) σ0 σ
 wl:ns.length<=301*k
theorem nat_at {w:World} {A:Option Addr} {n c:Nat} {l:List Nat} (h:Sl cNat 1 w (.slice A n c) l) {i:Nat} {x:Nat} (hx:l[i]?=some x):∃ b off,A=some ⟨b,off,none⟩/\b<w.heap.size/\w.cell? ⟨b,off+i,none⟩=some (.int .i64 (x:Int)):=by
 obtain ⟨b,off,rfl,hb,hc⟩:=h.at_ hx;have:=hc 0 _ rfl;simp only [zK7,zH9] at this;exact ⟨b,off,rfl,hb,this⟩
theorem JoX {hv:List Nat} {k i:Nat} (hx:hv[k]?=some i) {σ0 σ:Wd} {ns:List Note} (h:(hv.take k).foldl Jiw (σ0,[])=(σ,ns)):(hv.take (k+1)).foldl Jiw (σ0,[])=(comW σ i (σ.s i),ns ++ Ja2 (σ.s i) (σ.s i).done_.toNat (σ.s i).log.length):=by
 rw [zF7,hx,zI2,h];rfl
theorem SrvIn.grow {p p1:Nat->Prop} {w w':World} {s:Srv} {v:SrvV} {r:Option Nat} (h:SrvIn p w s v) (hg:w.grownBy w' r) (hr:∀ q,r=some q->p q) (hp:∀ q,p1 q->p q\/w.heap.size<=q):SrvIn p1 w' s v:=
 ⟨h.disk.grow hg hr hp,h.log.grow hg hr hp,h.nodes.grow hg hr hp,h.sess.grow hg hr hp,h.watches.grow hg hr hp⟩
theorem WIn.pushDn {p0:Nat->Prop} {b:Nat} {w W1:World} {σ:Wd} {sv:Nat->SrvV} {cv:Nat->ClV} {dv dv':Value} (h:WIn p0 b w σ sv cv dv) (hp0:∀ q,p0 q->q<w.heap.size) {x:Txn} (hg:w.grownBy W1 dv.ownBlock) (ho:Ow cTxn 7 39 W1 (b+1) dv' (σ.dn ++ [x])) (hat:dv'.ownBlock=dv.ownBlock\/dv'.ownBlock=some w.heap.size) :
  WIn p0 b (W1.setCell ⟨b,82,none⟩ dv') { σ with dn:=σ.dn ++ [x] } sv cv dv':=by
 have hb:=h.lt;have hr1:∀ q,dv.ownBlock=some q->pW p0 b dv q:=fun q e=>.inr (.inr e)
 have hp1:∀ q,pW p0 b dv' q->pW p0 b dv q\/w.heap.size<=q:=by
  rintro q (e | e | e)
  ·exact .inl (.inl e)
  ·exact .inl (.inr (.inl e))
  ·rcases hat with a | a
   ·exact .inl (.inr (.inr (a▸e)))
   ·rw [a] at e
    injection e with e
    exact .inr (zH1 e)
 have hg2:=zD9 W1 b 82 dv';have hr2:∀ q,some b=some q->pW p0 b dv' q:=fun q e=>.inr (.inl qa0)
 have hne:some b≠dv.ownBlock:=fun e=>by
  have:=(h.dn.own_in e.symm).1;omega
 obtain ⟨cs,k⟩:=h.box;refine ⟨h.n3,h.f3,h.c16,⟨cs.set (78+4) dv',(k.bk.grown hg hne).put _ _,by rw [zF4,k.len],?_,?_,?_⟩,?_,?_,ho.kept hg2 (.inr (fun e=>by have:=(ho.own_in e).1; omega)),h.bp,?_⟩
 ·intro i hi
  refine (k.srv i hi).far ?_ _;show 78+4<i*10\/i*10+10<=78+4;omega
 ·intro i hi
  refine (k.cl i hi).far ?_ _;show 78+4<30+i*3\/30+i*3+3<=78+4;omega
 ·exact k.rest.put (j:=4) (by show 4<6; decide) dv'
 ·intro i hi
  exact ((h.srv i hi).grow hg hr1 hp1).own hg2 hr2
 ·intro i hi
  exact ((h.cl i hi).grow hg hr1 hp1).grow hg2 hr2 (fun _=>.inl)
 ·intro q e e2
  rcases hat with a | a
  ·exact h.dp q e (a▸e2)
  ·rw [a] at e2
   injection e2 with e2
   have:=hp0 q e;omega
theorem Jbz {w w':World} {r:Option Nat} (hg:w.grownBy w' r) {b:Nat} (hb:b<w.heap.size) (hne:some b≠r) (o:Nat):w'.cell? ⟨b,o,none⟩=w.cell? ⟨b,o,none⟩:=World.cell?_of_block (hg.block b hb hne)
theorem JjE {w w':World} {r:Option Nat} (hg:w.grownBy w' r) {b:Nat} (hb:b<w.heap.size) (hne:some b≠r) (o:Nat):w'.frozen? ⟨b,o,none⟩=w.frozen? ⟨b,o,none⟩:=by
 unfold World.frozen?;simp only;rw [hg.block b hb hne]
def SeeRes (s z:Int) (l:List Entry) (w:World) (e:Ending) (w':World):Prop:=∃ A k,e=.returned (.tuple #[.agg #[.int .i64 s,.int .i64 z,.slice A l.length k],.int .i64 0])/\Ow Jae 3 83 w' w.heap.size (.slice A l.length k) l/\Below w.heap.size w w'
theorem wSee (s n z:Int) (v:Value) (l:List Entry) (w:World) (h:Sl Jae 3 w v l) (hn:l.length*40<=140737488355328) (hm:l.length<=maxLen) (hzn:¬ z<n) :
  Calls Tryz.prog 76 #[.agg #[.int .i64 s,.int .i64 n,v],.int .i64 z] w (SeeRes s z l w):=by
 obtain ⟨A,c,rfl,h1,h2⟩:=h.form;have H:=zA0 h;clear h;go_enter Tryz.func76,Tryz.ntmps76
 go_wp2_with (go_at_call 106; refine (Jd3 _ _ _ _ _ ((H.out.alloc _).alloc _) hn hm).mono ?_; rintro e w1 ⟨A',c',rfl,hown,hb⟩; obtain ⟨ext,d,rfl⟩:=zA2 _ hb);refine zA1 (v:=.tuple #[.agg #[.int .i64 s,.int .i64 z,.slice A' l.length c'],.int .i64 0]) (by simp [results,Tryz.results76,go_sem]) rfl ⟨A',c',rfl,?_,?_⟩
 ·exact (hown.regrow (zA3 _) qI1).mono qB1
 ·exact zL
theorem Jjh {Reg:List Txn} {E:Int} {K:Nat} {σ:Wd} (h:Inv0 Reg E K σ) {i:Nat} (hi:i<3):(σ.s i).nodes.length<=400:=by
 rcases h.srv i hi with u | u
 ·have:=(JaP u.com.2.2.1).1.len
  exact this
 ·rw [u.eq]
  show 1<=400;omega
theorem JoY {σ τ:Wd} {who l:Nat} {x:Txn} {hv:List Nat} {ns:List Note} (h:hv.foldl Jiw (σ,[])=(τ,ns)) (hl:τ.lead=(l:Int)) :
  JaM σ who x hv=({ Jb1 { τ with dn:=τ.dn ++ [x] } ns with cl:=(Jb1 { τ with dn:=τ.dn ++ [x] } ns).cl.set who { (Jb1 { τ with dn:=τ.dn ++ [x] } ns).c who with seen:=x.zxid } },⟨0,x.zxid,x.path,noB,stOf (getN (τ.s l).nodes x.path),ns⟩):=by
 unfold JaM;rw [h];have:(Jb1 { τ with dn:=τ.dn ++ [x] } ns).lead=(l:Int):=hl
 simp only [this,zG9];rfl
theorem DoRes.sub {p0 p1:Nat->Prop} {b:Nat} {dv:Value} {τ:Wd} {r:Rp} {w w':World} {e:Ending} (h:DoRes p1 b dv τ r w e w') (hp:∀ q,p0 q->p1 q):DoRes p0 b dv τ r w e w':=by
 obtain ⟨sv,cv,dv',A,c,h1,h2,h3,h4,h5⟩:=h;exact ⟨sv,cv,dv',A,c,h1,h2.more (fun q e=>.inl (hp q e)),h3.more (fun q e=>.inl (e.imp (hp q) id)),h4,h5⟩
theorem Jlk:∀ {hv:List Nat},hv.Nodup->(∀ i∈hv,i<3)->hv.length<=3
 | [],_,_=>by simp
 | [_],_,_=>by simp
 | [_,_],_,_=>by simp
 | [_,_,_],_,_=>by simp
 | a :: b :: c :: d :: r,h,h3=>by
  exfalso;have a3:=h3 a qI1;have b3:=h3 b qI1;have c3:=h3 c qI1;have d3:=h3 d qI1;simp only [zK6,zE2,not_or] at h;omega
theorem SrvIn.to {p p1:Nat->Prop} {w1 wx:World} {s:Srv} {v:SrvV} (h:SrvIn p w1 s v) (hs:∃ w2,Swap p w1 w2/\Below w2.heap.size w2 wx) (hp:∀ q,p1 q->p q):SrvIn p1 wx s v:=by
 obtain ⟨w2,h1,h2⟩:=hs;exact ((h.swap h1).below h2).more (fun q e=>.inl (hp q e))
theorem SlA.to {α:Type} {f:α->List Value} {n:Nat} {l:List α} {u:Value} {p p1:Nat->Prop} {w1 wx:World} (h:SlA p f n w1 u l) (hs:∃ w2,Swap p w1 w2/\Below w2.heap.size w2 wx) (hp:∀ q,p1 q->p q):SlA p1 f n wx u l:=by
 obtain ⟨w2,h1,h2⟩:=hs;exact ((h.swap h1).below h2).more (fun q e=>.inl (hp q e))
theorem wCommit (p0:Nat->Prop) (b:Nat) (w:World) (σ:Wd) (sv:Nat->SrvV) (cv:Nat->ClV) (dv:Value) (Reg:List Txn) (E:Int) (K:Nat) (h:WIn p0 b w σ sv cv dv) (hp0:∀ q,p0 q->q<w.heap.size) (hI:Inv0 Reg E K σ) (who:Nat) (hwho:who<16) (x:Txn) (hx:Jao Reg=x.zxid) (A:Option Addr) (c:Nat) (hv:List Nat) (hh:SlA (pW p0 b dv) cNat 1 w (.slice A hv.length c) hv) (hnd:hv.Nodup) (hv3:∀ i∈hv,i<3/\(σ.s i).up=true) (l:Nat) (hl:σ.lead=(l:Int)) (hl3:l<3) :
  Calls Tryz.prog 75 #[.pointer (some ⟨b,0,none⟩),.int .i64 (who:Int),txnV x,.slice A hv.length c] w (DoRes p0 b dv (JaM σ who x hv).1 (JaM σ who x hv).2 w):=by
 have hltb:b<w.heap.size:=h.lt;have H:=zA0 (h.more (p1:=fun q=>(p0 q\/q=w.heap.size\/q=w.heap.size+1)\/(Value.slice none 0 0).ownBlock=some q) (fun q e=>by
  rcases e with (e | e | e) | e
  ·exact .inl e
  ·exact .inr qH1
  ·exact .inr qH1
  ·cases e))
 have HH:=zA0 (hh.more (p':=pW (fun q=>(p0 q\/q=w.heap.size\/q=w.heap.size+1)\/(Value.slice none 0 0).ownBlock=some q) b dv) (fun q e=>by
  rcases e with ((e | e | e) | e) | e
  ·exact .inl (.inl e)
  ·exact .inr qH1
  ·exact .inr qH1
  ·cases e
  ·exact .inl (.inr e)))
 have HP0:=zA0 hp0;have HI:=zA0 hI;have HV3:=zA0 hv3;have HND:=zA0 hnd;clear h hp0 hI hh hv3 hnd;obtain ⟨xz,xo,xs,xp,xd,xv,xw⟩:=x;simp only at hx;go_enter Tryz.func75,Tryz.ntmps75
 go_upto_region 2 with fail
 refine Jax (fun W0 hW0=>?_)
 have hB0:Below w.heap.size w W0:=qaE;have HC0:Hid (CoL p0 b w Reg E K ⟨xz,xo,xs,xp,xd,xv,xw⟩ cv dv (.slice A hv.length c) hv σ 0 W0 (.slice none 0 0) σ sv []):=zA0
  ⟨⟨H.out.below hB0,Ow.nil _ _ _ _ _,HH.out.below hB0,zC3 hB0,by rw [hW0.out]; exact Bk.below (Bk.new _ _ _ rfl) zR,by rw [hW0.out]; exact Bk.new _ _ _ qI1⟩,rfl,⟨HI.out,rfl,rfl,rfl,rfl,rfl,fun _=>by simp⟩,zA3 _⟩
 clear hW0 H HH;go_wp2_with fail;go_loopw [9,21] (fun nv i wr=>∃ (m:Nat) (τ:Wd) (tv:Nat->SrvV) (ns:List Note),m<=hv.length/\i=.int .i64 m/\Hid (CoL p0 b w Reg E K ⟨xz,xo,xs,xp,xd,xv,xw⟩ cv dv (.slice A hv.length c) hv σ m wr nv τ tv ns)) (fun _ i _=>hv.length - (intOf i).toNat)
 case atStart=>exact ⟨0,_,_,_,zB9 _,rfl,HC0⟩
 case round=>
  obtain ⟨m,τ,tv,ns,hm,rfl,hx2⟩:=hrel;obtain ⟨An,kn,rfl,_⟩:=hx2.out.nts.form
  by_cases hlt:m<hv.length
  ·have hix:hv[m]?=some (hv[m]'hlt):=zA8 _
   obtain ⟨bh,oh,hA,hbh,y0⟩:=nat_at hx2.out.hav.1 hix;subst hA;generalize hv[m]'hlt=i at hix y0;have hi3:=(HV3.out i (zD3 hix)).1;have hnot:i∉hv.take m:=fun e=>by
    obtain ⟨q,hq,hq2⟩:=List.getElem_of_mem e;rw [List.getElem_take] at hq2;have hqm:q<m:=by simp at hq; omega
    exact zJ4.1 HND.out q m qH1 hlt hqm (hq2.trans (zB3.1 hix).2.symm)
   have hsi:=hx2.out.com.s i;rw [if_neg hnot] at hsi;have hu:(τ.s i).up=true:=by rw [hsi]; exact (HV3.out i (zD3 hix)).2
   have hU:=hx2.out.com.inv.up hi3 hu;obtain ⟨m1,m2,m3,m4,m5⟩:=hU.com;have HTK:=zA0 (JoX hix hx2.out.eq);have hll:(τ.s i).log.length<=301:=by have h1:=hU.lg.sub.length_le; have h2:=hx2.out.com.inv.small; omega
   have hlow:=hx2.out.win.low (fun q hq=>by
    have h1:=hx2.out.keep.size;have h2:=hx2.out.box.lt;rcases hq with (hq | hq | hq) | hq
    ·have:=HP0.out q hq; omega
    ·omega
    ·omega
    ·exact (hx2.out.nts.own_in hq).2)
   have HCM:=zA0 (fun (W:World) (hb:Below wr.heap.size wr W)=>JiR (fun q=>((pW (fun q=>(p0 q\/q=w.heap.size\/q=w.heap.size+1)\/(Value.slice An ns.length kn).ownBlock=some q) b dv) q\/q=wr.heap.size)/\q<W.heap.size) (τ.s i) (tv i) (τ.s i).done_.toNat (τ.s i).log.length W (((hx2.out.win.srv i hi3).more (fun q e=>e.1.imp id (fun e=>by omega))).below hb) (fun q e=>e.2) m1 m2 (zA3 _) qH1 (by have:=hU.wl; have:=hx2.out.com.inv.k300; omega) m3 m4 (JjA hx2.out.com.inv.reg hU.lg.sub))
   unfold Jea at HCM;have hvs:vSrv (τ.s i) (tv i)=.agg #[.bool true,.slice (tv i).da (τ.s i).disk.length (tv i).dc,.int .i64 (τ.s i).id,.int .i64 (τ.s i).epoch,.slice (tv i).la (τ.s i).log.length (tv i).lc,.int .i64 (τ.s i).done_,.int .i64 (τ.s i).tz,.slice (tv i).na (τ.s i).nodes.length (tv i).nc,.slice (tv i).sa (τ.s i).sess.length (tv i).sc,.slice (tv i).wa (τ.s i).watches.length (tv i).wc]:=by unfold vSrv; rw [hu]
   rw [hvs] at HCM;have HTL:=zA0 (show (Ja2 (τ.s i) (τ.s i).done_.toNat (τ.s i).log.length).length<=300 from zB5 (JfA _ _ _) (zB5 hU.wl hx2.out.com.inv.k300))
   obtain ⟨c0,c1,c2,c3,c4,c5,c6,c7,c8,c9⟩:=hx2.out.win.srvCells hi3;rw [hu] at c0;have hltr:b<wr.heap.size:=hx2.out.win.lt;have g0:(0:Int)<=(i:Int):=qCE;have g1:(i:Int)<3:=qCE;have hwy:comW τ i (τ.s i)={ τ with srv:=τ.srv.set i (JbJ (τ.s i) (τ.s i).done_.toNat (τ.s i).log.length) }:=rfl
   rw [hwy] at HTK;clear hU m1 m2 m3 m4 m5 hvs hnot hwy hsi;generalize Ja2 (τ.s i) (τ.s i).done_.toNat (τ.s i).log.length=told at *;generalize JbJ (τ.s i) (τ.s i).done_.toNat (τ.s i).log.length=S2 at *;obtain ⟨yu,yd,yi,ye,yl,yn,yt,yo,ys,yw⟩:=S2;have HLO:=zA0 hlow;clear hlow;go_upto_region 5 with fail
   go_cut [12,13,14] from 25 to 44 (fun s12 s13 s14 wx=>∃ (g:Nat) (ea:Option Addr) (ec:Nat) (ga:Option Addr) (gc:Nat) (ia:Option Addr) (ic:Nat) (ja:Option Addr) (jc:Nat) (ka:Option Addr) (kc:Nat) (ta:Option Addr) (tc:Nat),s12=.pointer (some ⟨g,0,none⟩)/\s13=.slice ta told.length tc/\s14=.int .i64 0/\Below wr.heap.size wr wx/\Hid (Bk wx g [.bool yu,.slice ea yd.length ec,.int .i64 yi,.int .i64 ye,.slice ga yl.length gc,.int .i64 yn,.int .i64 yt,.slice ia yo.length ic,.slice ja ys.length jc,.slice ka yw.length kc] 71)/\Hid (SrvIn (pW (fun q=>(p0 q\/q=w.heap.size\/q=w.heap.size+1)\/(Value.slice An ns.length kn).ownBlock=some q) b dv) wx ⟨yu,yd,yi,ye,yl,yn,yt,yo,ys,yw⟩ ⟨ea,ec,ga,gc,ia,ic,ja,jc,ka,kc⟩)/\Hid (SlA (pW (fun q=>(p0 q\/q=w.heap.size\/q=w.heap.size+1)\/(Value.slice An ns.length kn).ownBlock=some q) b dv) JbZ 3 wx (.slice ta told.length tc) told))
   case first=>
    refine wp_region_noPanic ?_;refine zD8 qE1 (fun W hW=>?_)
    have cl0:W.cell? ⟨b,i*10,none⟩=some (.bool true):=qAE;have cl1:W.cell? ⟨b,i*10+1,none⟩=some (.slice (tv i).da (τ.s i).disk.length (tv i).dc):=qAE;have cl2:W.cell? ⟨b,i*10+2,none⟩=some (.int .i64 (τ.s i).id):=qAE;have cl3:W.cell? ⟨b,i*10+3,none⟩=some (.int .i64 (τ.s i).epoch):=qAE;have cl4:W.cell? ⟨b,i*10+4,none⟩=some (.slice (tv i).la (τ.s i).log.length (tv i).lc):=qAE;have cl5:W.cell? ⟨b,i*10+5,none⟩=some (.int .i64 (τ.s i).done_):=qAE;have cl6:W.cell? ⟨b,i*10+6,none⟩=some (.int .i64 (τ.s i).tz):=qAE;have cl7:W.cell? ⟨b,i*10+7,none⟩=some (.slice (tv i).na (τ.s i).nodes.length (tv i).nc):=qAE;have cl8:W.cell? ⟨b,i*10+8,none⟩=some (.slice (tv i).sa (τ.s i).sess.length (tv i).sc):=qAE;have cl9:W.cell? ⟨b,i*10+9,none⟩=some (.slice (tv i).wa (τ.s i).watches.length (tv i).wc):=qAE;have hWs1:W.heap.size=wr.heap.size:=qWE;have hW1W:Below wr.heap.size wr W:=qIE;have hbW:b<W.heap.size:=qCE;refine JaD (fun w'=>w'.cell? ⟨b,i*10,none⟩=some (.bool true)/\w'.cell? ⟨b,i*10+1,none⟩=some (.slice (tv i).da (τ.s i).disk.length (tv i).dc)/\w'.cell? ⟨b,i*10+2,none⟩=some (.int .i64 (τ.s i).id)/\w'.cell? ⟨b,i*10+3,none⟩=some (.int .i64 (τ.s i).epoch)/\w'.cell? ⟨b,i*10+4,none⟩=some (.slice (tv i).la (τ.s i).log.length (tv i).lc)/\w'.cell? ⟨b,i*10+5,none⟩=some (.int .i64 (τ.s i).done_)/\w'.cell? ⟨b,i*10+6,none⟩=some (.int .i64 (τ.s i).tz)/\w'.cell? ⟨b,i*10+7,none⟩=some (.slice (tv i).na (τ.s i).nodes.length (tv i).nc)/\w'.cell? ⟨b,i*10+8,none⟩=some (.slice (tv i).sa (τ.s i).sess.length (tv i).sc)/\w'.cell? ⟨b,i*10+9,none⟩=some (.slice (tv i).wa (τ.s i).watches.length (tv i).wc)) (fun i=>i == 21) (by (try dsimp only); (refine ⟨?_,?_,?_,?_,?_,?_,?_,?_,?_,?_⟩ <;> go_simp)) (fun hHeld=>?_)
    refine tpP 0 ?_;refine tpP 1 ?_;refine tpP 2 ?_;refine tpP 3 ?_;refine tpP 4 ?_;refine tpA 5 ?_;refine tpP 6 ?_;refine tpP 7 ?_;refine tpP 8 ?_;refine tpP 9 ?_;refine tpP 10 ?_;refine tpP 11 ?_;refine tpP 12 ?_;refine tpA 13 ?_;refine tpP 14 ?_;refine zB1 (rs:=[15,20]) qE1 qI1 ?_;refine zB4 qQ0 (fun K hK=>?gO1_16) ?gL1_16
    case gO1_16=>
     go_simp
     (go_at_call 82; (with_reducible refine (HCM.out _ (zB8 hW1W zR)).mono ?_); rintro e w3 ⟨⟨ea,ec,ga,gc,ia,ic,ja,jc,ka,kc⟩,ta,tc,rfl,hin,htold,hb3⟩; obtain ⟨ext3,d3,rfl⟩:=zA2 _ hb3; have HS3:=zA0 hin; have HT3:=zA0 htold; clear hin htold hb3)
     refine hK.out _ _ ?gT1_16 (fun hHeld=>?_)
     case gT1_16=>((try dsimp only); (refine ⟨?_,?_,?_,?_,?_,?_,?_,?_,?_,?_⟩ <;> go_simp))
     clear hK K
     try simp only [Act.put,zA6,zA4,zA5]
     refine tpP 16 ?_;refine tpP 17 ?_;refine tpP 18 ?_;refine tpP 19 ?_;refine zB1 (rs:=[20]) qE1 qI1 ?_;refine zB4 qQ0 (fun K hK=>?_) zB2
     go_simp;refine hK.out _ _ ?gT1_21 (fun hHeld=>?_)
     case gT1_21=>((try dsimp only); (refine ⟨?_,?_,?_,?_,?_,?_,?_,?_,?_,?_⟩ <;> go_simp))
     clear hK K
     try simp only [Act.put,zA6,zA4,zA5]
     refine zB1 (rs:=[21]) qE1 qI1 ?_;refine zC8 qQ0 qE1 (fun K hK=>?_) zB2
     go_simp;refine hK.out _ _ ?_;clear hK K
     try simp only [Act.put,zA6,zA4,zA5]
     refine tpQ 22 ?_;refine tpQ 23 ?_;refine zC4 qE1 ?_ _;refine NoPanic.normal ?_;go_wp2_with fail;go_meet;refine ⟨_,ea,ec,ga,gc,ia,ic,ja,jc,ka,kc,ta,tc,rfl,rfl,rfl,?_,zA0 ?b1_24,zA0 ?s1_24,zA0 ?t1_24⟩
     ·exact zB8 hW1W zR
     case b1_24=>first | exact Bk.new _ _ _ qC1 | exact (Bk.new W _ _ hWs1.symm).below zR | exact (Bk.new (grow W ext3 d3) _ _ qC1).below zR
     case s1_24=>exact HS3.out.to (by first | (refine ⟨_,?_,zB6 _ _⟩; (repeat (first | with_reducible exact Swap.refl _ _ | with_reducible refine Swap.drew1 ?_ | with_reducible refine Swap.drew2 ?_ | with_reducible refine Swap.drewN1 ?_ | with_reducible refine Swap.drewN2 ?_ | with_reducible refine Swap.grow ?_ _ _ _ | with_reducible refine Swap.new ?_ _ _ ?_ | exact ⟨.inr hWs1,by simp⟩)); done) | (refine ⟨_,Swap.refl _ _,?_⟩; exact zR)) (fun q hq=>⟨.inl hq,by have:=HLO.out q hq; simp <;> omega⟩)
     case t1_24=>exact HT3.out.to (by first | (refine ⟨_,?_,zB6 _ _⟩; (repeat (first | with_reducible exact Swap.refl _ _ | with_reducible refine Swap.drew1 ?_ | with_reducible refine Swap.drew2 ?_ | with_reducible refine Swap.drewN1 ?_ | with_reducible refine Swap.drewN2 ?_ | with_reducible refine Swap.grow ?_ _ _ _ | with_reducible refine Swap.new ?_ _ _ ?_ | exact ⟨.inr hWs1,by simp⟩)); done) | (refine ⟨_,Swap.refl _ _,?_⟩; exact zR)) (fun q hq=>⟨.inl hq,by have:=HLO.out q hq; simp <;> omega⟩)
    refine zB4 qQ0 (fun K hK=>?gO1_25) ?gL1_25
    case gO1_25=>
     go_simp;refine hK.out _ _ ?gT1_25 (fun hHeld=>?_)
     case gT1_25=>((try dsimp only); (refine ⟨?_,?_,?_,?_,?_,?_,?_,?_,?_,?_⟩ <;> go_simp))
     clear hK K
     try simp only [Act.put,zA6,zA4,zA5]
     refine zB1 (rs:=[15]) qE1 qI1 ?_;refine zB4 qQ0 (fun K hK=>?_) zB2
     go_simp
     (go_at_call 82; (with_reducible refine (HCM.out _ (zB8 hW1W zR)).mono ?_); rintro e w3 ⟨⟨ea,ec,ga,gc,ia,ic,ja,jc,ka,kc⟩,ta,tc,rfl,hin,htold,hb3⟩; obtain ⟨ext3,d3,rfl⟩:=zA2 _ hb3; have HS3:=zA0 hin; have HT3:=zA0 htold; clear hin htold hb3)
     refine hK.out _ _ ?gT1_26 (fun hHeld=>?_)
     case gT1_26=>((try dsimp only); (refine ⟨?_,?_,?_,?_,?_,?_,?_,?_,?_,?_⟩ <;> go_simp))
     clear hK K
     try simp only [Act.put,zA6,zA4,zA5]
     refine tpP 16 ?_;refine tpP 17 ?_;refine tpP 18 ?_;refine tpP 19 ?_;refine zB1 (rs:=[21]) qE1 qI1 ?_;refine zC8 qQ0 qE1 (fun K hK=>?_) zB2
     go_simp;refine hK.out _ _ ?_;clear hK K
     try simp only [Act.put,zA6,zA4,zA5]
     refine tpQ 22 ?_;refine tpQ 23 ?_;refine zC4 qE1 ?_ _;refine NoPanic.normal ?_;go_wp2_with fail;go_meet;refine ⟨_,ea,ec,ga,gc,ia,ic,ja,jc,ka,kc,ta,tc,rfl,rfl,rfl,?_,zA0 ?b1_33,zA0 ?s1_33,zA0 ?t1_33⟩
     ·exact zB8 hW1W zR
     case b1_33=>first | exact Bk.new _ _ _ qC1 | exact (Bk.new W _ _ hWs1.symm).below zR | exact (Bk.new (grow W ext3 d3) _ _ qC1).below zR
     case s1_33=>exact HS3.out.to (by first | (refine ⟨_,?_,zB6 _ _⟩; (repeat (first | with_reducible exact Swap.refl _ _ | with_reducible refine Swap.drew1 ?_ | with_reducible refine Swap.drew2 ?_ | with_reducible refine Swap.drewN1 ?_ | with_reducible refine Swap.drewN2 ?_ | with_reducible refine Swap.grow ?_ _ _ _ | with_reducible refine Swap.new ?_ _ _ ?_ | exact ⟨.inr hWs1,by simp⟩)); done) | (refine ⟨_,Swap.refl _ _,?_⟩; exact zR)) (fun q hq=>⟨.inl hq,by have:=HLO.out q hq; simp <;> omega⟩)
     case t1_33=>exact HT3.out.to (by first | (refine ⟨_,?_,zB6 _ _⟩; (repeat (first | with_reducible exact Swap.refl _ _ | with_reducible refine Swap.drew1 ?_ | with_reducible refine Swap.drew2 ?_ | with_reducible refine Swap.drewN1 ?_ | with_reducible refine Swap.drewN2 ?_ | with_reducible refine Swap.grow ?_ _ _ _ | with_reducible refine Swap.new ?_ _ _ ?_ | exact ⟨.inr hWs1,by simp⟩)); done) | (refine ⟨_,Swap.refl _ _,?_⟩; exact zR)) (fun q hq=>⟨.inl hq,by have:=HLO.out q hq; simp <;> omega⟩)
    exact zB2
   case rest=>
    obtain ⟨g,ea,ec,ga,gc,ia,ic,ja,jc,ka,kc,ta,tc,rfl,rfl,rfl,hb3,HBX,HIN3,HTO3⟩:=hcut;obtain ⟨W3,rfl⟩:∃ W,W=wc:=⟨_,rfl⟩;have HF3:=zA0 (hx2.out.toCoF.below hb3);clear HCM c0 c1 c2 c3 c4 c5 c6 c7 c8 c9 hb3 hltr y0 hbh;have d0:W3.cell? ⟨g,0,none⟩=some (.bool yu):=HBX.out.cell 0;have d1:W3.cell? ⟨g,1,none⟩=some (.slice ea yd.length ec):=HBX.out.cell 1;have d2:W3.cell? ⟨g,2,none⟩=some (.int .i64 yi):=HBX.out.cell 2;have d3:W3.cell? ⟨g,3,none⟩=some (.int .i64 ye):=HBX.out.cell 3;have d4:W3.cell? ⟨g,4,none⟩=some (.slice ga yl.length gc):=HBX.out.cell 4;have d5:W3.cell? ⟨g,5,none⟩=some (.int .i64 yn):=HBX.out.cell 5;have d6:W3.cell? ⟨g,6,none⟩=some (.int .i64 yt):=HBX.out.cell 6;have d7:W3.cell? ⟨g,7,none⟩=some (.slice ia yo.length ic):=HBX.out.cell 7;have d8:W3.cell? ⟨g,8,none⟩=some (.slice ja ys.length jc):=HBX.out.cell 8;have d9:W3.cell? ⟨g,9,none⟩=some (.slice ka yw.length kc):=HBX.out.cell 9;have hgW:g<W3.heap.size:=HBX.out.lt;obtain ⟨c0,c1,c2,c3,c4,c5,c6,c7,c8,c9⟩:=HF3.out.win.srvCells hi3;have hfb:∀ j,W3.frozen? ⟨b,j,none⟩=false:=fun j=>HF3.out.win.frozen j
    have hlt3:b<W3.heap.size:=HF3.out.win.lt;go_upto_region 8 with fail
    go_region;refine Ja3 (fun W6 hW6=>?_)
    obtain ⟨hp1,hp2⟩:=HF3.out.win.putSrvC hi3 HIN3.out;have hp3:W3.grownBy W6 (some b):=hW6.out▸hp2.trans (zH6 (Below.drew (zB6 _ _)) b);have HF6:=zA0 (HF3.out.setB hltb hp3 (hW6.out▸hp1.below (Below.drew (zB6 _ _))));have HTO6:=zA0 (HTO3.out.grow hp3 (p':=(pW (fun q=>(p0 q\/q=w.heap.size\/q=w.heap.size+1)\/(Value.slice An ns.length kn).ownBlock=some q) b dv)) (fun q e=>by injection e with e; exact .inr (.inl e.symm)) (fun _=>.inl))
    clear hW6 hp1 hp2 hp3 HBX HF3 HIN3 HTO3 d0 d1 d2 d3 d4 d5 d6 d7 d8 d9 c0 c1 c2 c3 c4 c5 c6 c7 c8 c9 hfb hlt3 hgW;have hwl6:=hx2.out.wl;have h62:=HTL.out;have hm4:m<=3:=by
     have:=Jlk HND.out (fun i hi=>(HV3.out i hi).1)
     omega
    have hsz6:w.heap.size+2<=W6.heap.size:=by have:=HF6.out.box.lt; omega
    go_wp2_with (at_builtin; refine Jaf _ rfl (.tmp 55) (.tmp 56) _ rfl JlE (B:=w.heap.size+2) (l:=ns) (m:=told) rfl rfl HF6.out.nts HTO6.out.1 Jfc qs0 qH1 hsz6 ?_; intro v2 w8 hown8 hg8 hat8; obtain ⟨A8,c8,rfl,_⟩:=hown8.form; have HO8:=zA0 hown8; have HG8:=zA0 hg8; have HA8:=zA0 hat8; clear hown8 hg8 hat8);have HF8:=zA0 (HF6.out.push (v2:=.slice A8 (ns ++ told).length c8) HG8.out HA8.out HO8.out);rw [zA9] at HF8;have hcm:=Jiv (hv.take (m+1)) σ [] HI.out (HND.out.sublist (List.take_sublist _ _)) (fun q hq=>HV3.out q (zH7 hq))
    rw [HTK.out] at hcm;have HCI:=zA0 hcm;clear hcm;go_roundw
    case rel=>exact ⟨m+1,_,_,ns ++ told,by omega,by go_num,zA0 ⟨HF8.out,HTK.out,HCI.out,by rw [zA9]; omega⟩⟩
    case measure=>simp [intOf]; omega
  ·have hme:m=hv.length:=by omega
   subst hme;have HEQ:Hid (hv.foldl Jiw (σ,[])=(τ,ns)):=zA0 (by have:=hx2.out.eq; rw [zG1] at this; exact this)
   have HCM:Hid (ComIn Reg E K hv σ τ):=zA0 (by have:=hx2.out.com; rw [zG1] at this; exact this)
   obtain ⟨Ad,kd,rfl,hd1,hd2,_⟩:=hx2.out.win.dn.form;have e0:wr.cell? ⟨b,82,none⟩=some (.slice Ad τ.dn.length kd):=hx2.out.win.restAt (j:=4) rfl;have x0:wr.cell? ⟨w.heap.size,0,none⟩=some (.int .i64 xz):=hx2.out.xbx.cell 0;have x1:wr.cell? ⟨w.heap.size,1,none⟩=some (.int .i64 xo):=hx2.out.xbx.cell 1;have x2:wr.cell? ⟨w.heap.size,2,none⟩=some (.int .i64 xs):=hx2.out.xbx.cell 2;have x3:wr.cell? ⟨w.heap.size,3,none⟩=some (.string xp):=hx2.out.xbx.cell 3;have x4:wr.cell? ⟨w.heap.size,4,none⟩=some (.string xd):=hx2.out.xbx.cell 4;have x5:wr.cell? ⟨w.heap.size,5,none⟩=some (.int .i64 xv):=hx2.out.xbx.cell 5;have x6:wr.cell? ⟨w.heap.size,6,none⟩=some (.int .i64 xw):=hx2.out.xbx.cell 6;have hltr:b<wr.heap.size:=hx2.out.win.lt;have hltx:w.heap.size<wr.heap.size:=hx2.out.xbx.lt;go_upto_region 11 with fail
   have hdl:τ.dn.length<=300:=zB5 hx2.out.com.inv.dn.length_le (zB5 hx2.out.com.inv.len hx2.out.com.inv.k300);have hdne:some b≠(Value.slice Ad τ.dn.length kd).ownBlock:=fun e=>by
    have:=(hx2.out.win.dn.own_in e.symm).1;omega
   have hdne2:some w.heap.size≠(Value.slice Ad τ.dn.length kd).ownBlock:=fun e=>hx2.out.win.dp w.heap.size (.inl (.inr (.inl rfl))) e.symm
   have hfb:∀ j,wr.frozen? ⟨b,j,none⟩=false:=fun j=>hx2.out.win.frozen j
   go_cut [] from 59 to 68 (fun wx=>∃ (w1 w2:World) (A4:Option Addr) (c4:Nat),Below wr.heap.size wr w1/\Hid (w1.grownBy w2 (Value.slice Ad τ.dn.length kd).ownBlock)/\Hid (Ow cTxn 7 39 w2 (b+1) (.slice A4 (τ.dn.length+1) c4) (τ.dn ++ [⟨xz,xo,xs,xp,xd,xv,xw⟩]))/\Hid ((Value.slice A4 (τ.dn.length+1) c4).ownBlock=(Value.slice Ad τ.dn.length kd).ownBlock\/(Value.slice A4 (τ.dn.length+1) c4).ownBlock=some w1.heap.size)/\wx=w2.setCell ⟨b,82,none⟩ (.slice A4 (τ.dn.length+1) c4))
   case first=>
    refine wp_region_noPanic ?_;refine zD8 qE1 (fun W hW=>?_)
    have cl0:W.cell? ⟨b,82,none⟩=some (.slice Ad τ.dn.length kd):=qAE;have cl1:W.cell? ⟨w.heap.size,0,none⟩=some (.int .i64 xz):=qAE;have cl2:W.cell? ⟨w.heap.size,1,none⟩=some (.int .i64 xo):=qAE;have cl3:W.cell? ⟨w.heap.size,2,none⟩=some (.int .i64 xs):=qAE;have cl4:W.cell? ⟨w.heap.size,3,none⟩=some (.string xp):=qAE;have cl5:W.cell? ⟨w.heap.size,4,none⟩=some (.string xd):=qAE;have cl6:W.cell? ⟨w.heap.size,5,none⟩=some (.int .i64 xv):=qAE;have cl7:W.cell? ⟨w.heap.size,6,none⟩=some (.int .i64 xw):=qAE;have hfW:W.frozen? ⟨b,82,none⟩=false:=by rw [hW.out]; exact hfb 82
    refine JaD (fun w'=>w'.cell? ⟨b,82,none⟩=some (.slice Ad τ.dn.length kd)/\w'.cell? ⟨w.heap.size,0,none⟩=some (.int .i64 xz)/\w'.cell? ⟨w.heap.size,1,none⟩=some (.int .i64 xo)/\w'.cell? ⟨w.heap.size,2,none⟩=some (.int .i64 xs)/\w'.cell? ⟨w.heap.size,3,none⟩=some (.string xp)/\w'.cell? ⟨w.heap.size,4,none⟩=some (.string xd)/\w'.cell? ⟨w.heap.size,5,none⟩=some (.int .i64 xv)/\w'.cell? ⟨w.heap.size,6,none⟩=some (.int .i64 xw)) (fun i=>i == 10) (by (try dsimp only); (refine ⟨?_,?_,?_,?_,?_,?_,?_,?_⟩ <;> go_simp)) (fun hHeld=>?_)
    refine tpP 0 ?_;refine tpP 1 ?_;refine tpP 2 ?_;refine tpP 3 ?_;refine tpA 4 ?_;refine tpA 5 ?_;refine zB1 (rs:=[6]) qE1 qI1 ?_;refine zB4 qQ0 (fun K hK=>?_) zB2
    go_simp;refine hK.out _ _ ?gT2_7 (fun hHeld=>?_)
    case gT2_7=>((try dsimp only); (refine ⟨?_,?_,?_,?_,?_,?_,?_,?_⟩ <;> go_simp))
    clear hK K
    try simp only [Act.put,zA6,zA4,zA5]
    refine zB1 (rs:=[7]) qE1 qI1 ?_;refine zB4 qQ0 (fun K hK=>?_) zB2
    (refine JbV qJ1 (.tmp 63) (.tmp 65) _ rfl Jfr (B:=b+1) (l:=τ.dn) (m:=[⟨xz,xo,xs,xp,xd,xv,xw⟩]) rfl rfl (hx2.out.win.dn.below qr0) (Sl.one_at cTxn 7 _ _ _ rfl _ rfl qH1 qI1) JbY qs0 qB1 qj0 ?_; intro v2 w2 hown2 hg2 hat2; obtain ⟨A4,c4,rfl,_⟩:=hown2.form; have y82:w2.cell? ⟨b,82,none⟩=some (.slice Ad τ.dn.length kd):=(Jbz hg2 (b:=b) qj0 hdne 82).trans qF1; have yf:w2.frozen? ⟨b,82,none⟩=false:=(JjE hg2 (b:=b) qj0 hdne 82).trans qF1; have hlt2:b<w2.heap.size:=World.block_lt_of_cell? w2 ⟨b,82,none⟩ y82; have z0:w2.cell? ⟨w.heap.size,0,none⟩=some (.int .i64 xz):=(Jbz hg2 (b:=w.heap.size) qj0 hdne2 0).trans qF1; have z1:w2.cell? ⟨w.heap.size,1,none⟩=some (.int .i64 xo):=(Jbz hg2 (b:=w.heap.size) qj0 hdne2 1).trans qF1; have z2:w2.cell? ⟨w.heap.size,2,none⟩=some (.int .i64 xs):=(Jbz hg2 (b:=w.heap.size) qj0 hdne2 2).trans qF1; have z3:w2.cell? ⟨w.heap.size,3,none⟩=some (.string xp):=(Jbz hg2 (b:=w.heap.size) qj0 hdne2 3).trans qF1; have z4:w2.cell? ⟨w.heap.size,4,none⟩=some (.string xd):=(Jbz hg2 (b:=w.heap.size) qj0 hdne2 4).trans qF1; have z5:w2.cell? ⟨w.heap.size,5,none⟩=some (.int .i64 xv):=(Jbz hg2 (b:=w.heap.size) qj0 hdne2 5).trans qF1; have z6:w2.cell? ⟨w.heap.size,6,none⟩=some (.int .i64 xw):=(Jbz hg2 (b:=w.heap.size) qj0 hdne2 6).trans qF1)
    refine hK.out _ _ ?gT2_8 (fun hHeld=>?_)
    case gT2_8=>((try dsimp only); (refine ⟨?_,?_,?_,?_,?_,?_,?_,?_⟩ <;> go_simp))
    clear hK K
    try simp only [Act.put,zA6,zA4,zA5]
    refine tpP 8 ?_;refine tpP 9 ?_;refine zB1 (rs:=[10]) qE1 qI1 ?_;refine zC8 qQ0 qE1 (fun K hK=>?_) zB2
    go_simp;refine hK.out _ _ ?_;clear hK K
    try simp only [Act.put,zA6,zA4,zA5]
    refine zC4 qE1 ?_ _;refine NoPanic.normal ?_;go_wp2_with fail;go_meet;exact ⟨_,w2,A4,c4,zB8 (show Below wr.heap.size wr W by rw [hW.out]; exact zR) zR,zA0 hg2,zA0 (by have:=hown2; rw [zA9] at this; exact this),zA0 (by have:=hat2; rw [zA9] at this; exact this),rfl⟩
   case rest=>
    obtain ⟨w1,w2,A4,c4,hb1,hg2,ho2,ha2,rfl⟩:=hcut;have hp0r:∀ q,((p0 q\/q=w.heap.size\/q=w.heap.size+1)\/(Value.slice An ns.length kn).ownBlock=some q)->q<w1.heap.size:=fun q hq=>by
     have h1:=hx2.out.keep.size;have h2:=hx2.out.box.lt;have h3:=hb1.size;rcases hq with (hq | hq | hq) | hq
     ·have:=HP0.out q hq; omega
     ·omega
     ·omega
     ·have:=(hx2.out.nts.own_in hq).2; omega
    have hpush:=(hx2.out.win.below hb1).pushDn hp0r hg2.out ho2.out ha2.out;have H4:=zA0 (hpush.more (p1:=fun q=>p0 q\/q=w.heap.size\/q=w.heap.size+1) (fun q e=>.inl (.inl e)))
    have hgb:=zD9 w2 b 82 (.slice A4 (τ.dn.length+1) c4);have hndn:∀ q,(Value.slice An ns.length kn).ownBlock=some q->some q≠(Value.slice Ad τ.dn.length kd).ownBlock:=fun q e e2=>hx2.out.win.dp q (.inr e) e2.symm
    have hnt4:=zA0 (show Ow JbZ 3 80 (w2.setCell ⟨b,82,none⟩ (.slice A4 (τ.dn.length+1) c4)) (w.heap.size+2) (.slice An ns.length kn) ns from ((hx2.out.nts.below hb1).kept hg2.out (by
     cases e:(Value.slice An ns.length kn).ownBlock with
     | none=>exact .inl rfl
     | some q=>exact .inr (hndn q e))).kept hgb (.inr (fun e=>by have:=(hx2.out.nts.own_in e).1; omega)))
    have hsn4:=zA0 (show SlA (pW (fun q=>p0 q\/q=w.heap.size\/q=w.heap.size+1) b (.slice A4 (τ.dn.length+1) c4)) JbZ 3 (w2.setCell ⟨b,82,none⟩ (.slice A4 (τ.dn.length+1) c4)) (.slice An ns.length kn) ns from ⟨hnt4.out.sl,.inr (fun q hq e=>by
     have h1:=(hnt4.out.own_in e).1;rcases hq with (hq | hq | hq) | hq | hq
     ·have:=HP0.out q hq; omega
     ·omega
     ·omega
     ·omega
     ·rcases ha2.out with a | a
      ·exact hndn q e (by rw [<-a,hq])
      ·rw [a] at hq
       injection hq with hq
       have h2:=(hx2.out.nts.own_in e).2;have h3:=hb1.size;omega)⟩)
    have hxb4:=zA0 (((hx2.out.xbx.below hb1).grown hg2.out hdne2).grown hgb (fun e=>by injection e with e; omega))
    have hdne3:some (w.heap.size+1)≠(Value.slice Ad τ.dn.length kd).ownBlock:=fun e=>hx2.out.win.dp (w.heap.size+1) (.inl (.inr (.inr rfl))) e.symm
    have hbx4:=zA0 (((hx2.out.box.below hb1).grown hg2.out hdne3).grown hgb (fun e=>by injection e with e; omega))
    have hK4:=zA0 (((hx2.out.keep.trans (zC3 hb1 (p:=fun q=>q=b)) (fun _ _ e=>.inl e)).trans (zE8 (p:=fun q=>(Value.slice Ad τ.dn.length kd).ownBlock=some q) hg2.out (fun q e=>e)) (fun _ _ e=>.inr (.inl e))).trans (zE8 (p:=fun q=>q=b) hgb (fun q e=>by injection e with e; exact e.symm)) (fun _ _ e=>.inl e))
    have hmv:Hid (JkL w (.slice Ad τ.dn.length kd) (.slice A4 (τ.dn.length+1) c4)):=zA0 (ha2.out.imp id (fun a=>⟨_,a,zB5 hx2.out.keep.size hb1.size⟩))
    have hwl4:=hx2.out.wl;have hv3l:=Jlk HND.out (fun i hi=>(HV3.out i hi).1)
    obtain ⟨W4,hW4⟩:∃ W4,W4=w2.setCell ⟨b,82,none⟩ (.slice A4 (τ.dn.length+1) c4):=⟨_,rfl⟩;rw [<-hW4] at H4 hsn4 hxb4 hbx4 hK4 ⊢;clear hW4 hnt4 hgb hpush hp0r hg2 ho2 ha2 hb1 hx2 e0 x0 x1 x2 x3 x4 x5 x6 hltr hltx hdne hdne2 hdne3 hndn hfb hd1 hd2;generalize (Value.slice A4 (τ.dn.length+1) c4)=dv4 at *;have hlo4:∀ q,(p0 q\/q=w.heap.size\/q=w.heap.size+1)->q<W4.heap.size:=fun q hq=>by
     have h1:=hK4.out.size;have h2:=hbx4.out.lt;rcases hq with hq | hq | hq
     ·have:=HP0.out q hq; omega
     ·omega
     ·omega
    have HWT:=zA0 (wTell (fun q=>p0 q\/q=w.heap.size\/q=w.heap.size+1) b W4 { τ with dn:=τ.dn ++ [⟨xz,xo,xs,xp,xd,xv,xw⟩] } tv cv dv4 H4.out hlo4 An kn ns hsn4.out (fun i hi=>by
     have h1:=(HCM.out.inv.cl i hi).len;have h2:=HCM.out.inv.k300;show (τ.c i).cache.length<=300;omega) qH1)
    go_upto_region 13 with ((go_at_call 83; refine (HWT.out).mono ?_; rintro e w5 ⟨cv5,rfl,hin5,hk5⟩; skip))
    have hr5:∀ q,q=b->pW (fun q=>p0 q\/q=w.heap.size\/q=w.heap.size+1) b dv4 q:=fun q e=>.inr (.inl e)
    have H5:=zA0 hin5;have hsn5:=zA0 (hsn4.out.keeps hk5 hr5);have hxb5:=zA0 (hxb4.out.keeps hk5 (fun e=>by omega))
    have hbx5:=zA0 (hbx4.out.keeps hk5 (fun e=>by omega))
    have hK5:=zA0 (hK4.out.trans hk5 (fun _ _ e=>.inl e))
    have hlo5:=zA0 (hin5.low (fun q hq=>zD0 (hlo4 q hq) hk5.size))
    have HIS:=zA0 (JoY (who:=who) HEQ.out (HCM.out.lead.trans hl) (x:=⟨xz,xo,xs,xp,xd,xv,xw⟩));have hcq:(Jb1 { τ with dn:=τ.dn ++ [⟨xz,xo,xs,xp,xd,xv,xw⟩] } ns).c who=Jf2 ns (τ.c who):=c_map HCM.out.inv.c16 (Jf2 ns) hwho
    have hseen:¬ xz<(τ.c who).seen:=by
     have:=(HCM.out.inv.cl who hwho).s1;omega
    have hlen:=zB5 (HCM.out.inv.cl who hwho).len HCM.out.inv.k300;have hlen2:=zB5 (Jf0 (τ.c who).session (τ.c who).cache ns) hlen;have hld5:(Jb1 { τ with dn:=τ.dn ++ [⟨xz,xo,xs,xp,xd,xv,xw⟩] } ns).lead=(l:Int):=HCM.out.lead.trans hl
    have hsl5:(Jb1 { τ with dn:=τ.dn ++ [⟨xz,xo,xs,xp,xd,xv,xw⟩] } ns).s l=τ.s l:=rfl
    have hnl5:=Jjh HCM.out.inv hl3;clear hin5 hk5 hsn4 hxb4 hbx4 hK4 H4 HWT hlo4 hr5 HEQ;generalize Jb1 { τ with dn:=τ.dn ++ [⟨xz,xo,xs,xp,xd,xv,xw⟩] } ns=υ at *
    obtain ⟨c0,c1,c2⟩:=H5.out.clCells hwho;rw [hcq] at c0 c1 c2;have hcl5:=H5.out.cl who hwho;rw [hcq] at hcl5 HIS;simp only [Jf2] at c0 c1 c2 hcl5 HIS;generalize JeI (τ.c who).session (τ.c who).cache ns=TL at *;have hln5:TL.length<=300:=hlen2;have HSE:=zA0 (fun (W:World) (h:Sl Jae 3 W (.slice (cv5 who).a TL.length (cv5 who).c) TL)=>wSee (τ.c who).session (τ.c who).seen xz _ TL W h qH1 qs0 hseen)
    have HCL5:=zA0 hcl5;clear hcl5;have x0:w5.cell? ⟨w.heap.size,0,none⟩=some (.int .i64 xz):=hxb5.out.cell 0;have hlt5:b<w5.heap.size:=H5.out.lt;have hltx5:w.heap.size<w5.heap.size:=hxb5.out.lt;have g0:(0:Int)<=(who:Int):=qCE;have g1:(who:Int)<16:=qCE;generalize (τ.c who).session=cse at *;generalize (τ.c who).seen=csn at *;generalize (cv5 who).a=ca5 at *;generalize (cv5 who).c=cc5 at *;go_cut [15,16] from 72 to 83 (fun s15 s16 wx=>∃ (g:Nat) (A6:Option Addr) (k6:Nat),s15=.pointer (some ⟨g,0,none⟩)/\s16=.int .i64 0/\Below w5.heap.size w5 wx/\Hid (Bk wx g [.int .i64 cse,.int .i64 xz,.slice A6 TL.length k6] 51)/\Hid (SlA (pW (fun q=>p0 q\/q=w.heap.size\/q=w.heap.size+1) b dv4) Jae 3 wx (.slice A6 TL.length k6) TL))
    case first=>
     refine wp_region_noPanic ?_;refine zD8 qE1 (fun W hW=>?_)
     have cl0:W.cell? ⟨b,30+who*3,none⟩=some (.int .i64 cse):=qAE;have cl1:W.cell? ⟨b,30+who*3+1,none⟩=some (.int .i64 csn):=qAE;have cl2:W.cell? ⟨b,30+who*3+2,none⟩=some (.slice ca5 TL.length cc5):=qAE;have cl3:W.cell? ⟨w.heap.size,0,none⟩=some (.int .i64 xz):=qAE;have hWs1:W.heap.size=w5.heap.size:=qWE;have hW1W:Below w5.heap.size w5 W:=qIE;have hbW:b<W.heap.size:=qCE;have HCW:=zA0 (HCL5.out.1.below hW1W);refine JaD (fun w'=>w'.cell? ⟨b,30+who*3,none⟩=some (.int .i64 cse)/\w'.cell? ⟨b,30+who*3+1,none⟩=some (.int .i64 csn)/\w'.cell? ⟨b,30+who*3+2,none⟩=some (.slice ca5 TL.length cc5)/\w'.cell? ⟨w.heap.size,0,none⟩=some (.int .i64 xz)) (fun i=>i == 13) (by (try dsimp only); (refine ⟨?_,?_,?_,?_⟩ <;> go_simp)) (fun hHeld=>?_)
     refine tpP 0 ?_;refine tpP 1 ?_;refine tpP 2 ?_;refine tpP 3 ?_;refine tpP 4 ?_;refine tpA 5 ?_;refine tpP 6 ?_;refine tpA 7 ?_;refine zB1 (rs:=[8,12]) qE1 qI1 ?_;refine zB4 qQ0 (fun K hK=>?gO3_9) ?gL3_9
     case gO3_9=>
      go_simp
      (go_at_call 76; (with_reducible refine (HSE.out _ (HCW.out.below zR)).mono ?_); rintro e w3 ⟨A6,k6,rfl,ho3,hb3⟩; obtain ⟨ext3,d3,rfl⟩:=zA2 _ hb3; have HO3:=zA0 ho3; clear ho3 hb3)
      refine hK.out _ _ ?gT3_9 (fun hHeld=>?_)
      case gT3_9=>((try dsimp only); (refine ⟨?_,?_,?_,?_⟩ <;> go_simp))
      clear hK K
      try simp only [Act.put,zA6,zA4,zA5]
      refine tpP 9 ?_;refine tpP 10 ?_;refine tpP 11 ?_;refine zB1 (rs:=[12]) qE1 qI1 ?_;refine zB4 qQ0 (fun K hK=>?_) zB2
      go_simp;refine hK.out _ _ ?gT3_13 (fun hHeld=>?_)
      case gT3_13=>((try dsimp only); (refine ⟨?_,?_,?_,?_⟩ <;> go_simp))
      clear hK K
      try simp only [Act.put,zA6,zA4,zA5]
      refine zB1 (rs:=[13]) qE1 qI1 ?_;refine zC8 qQ0 qE1 (fun K hK=>?_) zB2
      go_simp;refine hK.out _ _ ?_;clear hK K
      try simp only [Act.put,zA6,zA4,zA5]
      refine tpQ 14 ?_;refine zC4 qE1 ?_ _;refine NoPanic.normal ?_;go_wp2_with fail;go_meet;refine ⟨_,A6,k6,rfl,rfl,?_,zA0 ?b3_15,zA0 ?n3_15⟩
      ·exact zB8 hW1W zR
      case b3_15=>first | exact Bk.new _ _ _ qC1 | exact (Bk.new W _ _ hWs1.symm).below zR | exact (Bk.new (grow W ext3 d3) _ _ qC1).below zR
      case n3_15=>
       refine (Ow.moved (W':=?w93_15) (d':=?x93_15) HO3.out (zA3 _) ?b93_15 ?z93_15).sla (fun q hq=>by have:=hlo5.out q hq; simp <;> omega)
       case b93_15=>exact zR
       case z93_15=>simp
     refine zB4 qQ0 (fun K hK=>?gO3_16) ?gL3_16
     case gO3_16=>
      go_simp;refine hK.out _ _ ?gT3_16 (fun hHeld=>?_)
      case gT3_16=>((try dsimp only); (refine ⟨?_,?_,?_,?_⟩ <;> go_simp))
      clear hK K
      try simp only [Act.put,zA6,zA4,zA5]
      refine zB1 (rs:=[8]) qE1 qI1 ?_;refine zB4 qQ0 (fun K hK=>?_) zB2
      go_simp
      (go_at_call 76; (with_reducible refine (HSE.out _ (HCW.out.below zR)).mono ?_); rintro e w3 ⟨A6,k6,rfl,ho3,hb3⟩; obtain ⟨ext3,d3,rfl⟩:=zA2 _ hb3; have HO3:=zA0 ho3; clear ho3 hb3)
      refine hK.out _ _ ?gT3_17 (fun hHeld=>?_)
      case gT3_17=>((try dsimp only); (refine ⟨?_,?_,?_,?_⟩ <;> go_simp))
      clear hK K
      try simp only [Act.put,zA6,zA4,zA5]
      refine tpP 9 ?_;refine tpP 10 ?_;refine tpP 11 ?_;refine zB1 (rs:=[13]) qE1 qI1 ?_;refine zC8 qQ0 qE1 (fun K hK=>?_) zB2
      go_simp;refine hK.out _ _ ?_;clear hK K
      try simp only [Act.put,zA6,zA4,zA5]
      refine tpQ 14 ?_;refine zC4 qE1 ?_ _;refine NoPanic.normal ?_;go_wp2_with fail;go_meet;refine ⟨_,A6,k6,rfl,rfl,?_,zA0 ?b3_22,zA0 ?n3_22⟩
      ·exact zB8 hW1W zR
      case b3_22=>first | exact Bk.new _ _ _ qC1 | exact (Bk.new W _ _ hWs1.symm).below zR | exact (Bk.new (grow W ext3 d3) _ _ qC1).below zR
      case n3_22=>
       refine (Ow.moved (W':=?w93_22) (d':=?x93_22) HO3.out (zA3 _) ?b93_22 ?z93_22).sla (fun q hq=>by have:=hlo5.out q hq; simp <;> omega)
       case b93_22=>exact zR
       case z93_22=>simp
     exact zB2
    case rest=>
     obtain ⟨g,A6,k6,rfl,rfl,hb6,HBX6,HSL6⟩:=hcut;obtain ⟨W6,rfl⟩:∃ W,W=wc:=⟨_,rfl⟩;have H6:=zA0 (H5.out.below hb6);have hsn6:=zA0 (hsn5.out.below hb6);have hxb6:=zA0 (hxb5.out.below hb6);have hbx6:=zA0 (hbx5.out.below hb6);have hK6:=zA0 (hK5.out.trans (zC3 hb6 (p:=fun q=>q=b)) (fun _ _ e=>.inl e))
     have hlo6:=zA0 (fun q hq=>zD0 (hlo5.out q hq) hb6.size)
     clear hb6 H5 hsn5 hxb5 hbx5 hK5 hlo5 c0 c1 c2 x0 HSE HCL5 hlt5 hltx5;have d0:W6.cell? ⟨g,0,none⟩=some (.int .i64 cse):=HBX6.out.cell 0;have d1:W6.cell? ⟨g,1,none⟩=some (.int .i64 xz):=HBX6.out.cell 1;have d2:W6.cell? ⟨g,2,none⟩=some (.slice A6 TL.length k6):=HBX6.out.cell 2;have hgW:g<W6.heap.size:=HBX6.out.lt;obtain ⟨c0,c1,c2⟩:=H6.out.clCells hwho;have hfb:∀ j,W6.frozen? ⟨b,j,none⟩=false:=fun j=>H6.out.frozen j
     have hlt6:b<W6.heap.size:=H6.out.lt;go_upto_region 16 with fail
     go_region;refine Ja3 (fun W7 hW7=>?_)
     obtain ⟨hp1,hp2⟩:=H6.out.putClC hwho (c:=⟨cse,xz,TL⟩) (v:=⟨A6,k6⟩) HSL6.out;have hp3:W6.grownBy W7 (some b):=hW7.out▸hp2.trans (zH6 (Below.drew (zB6 _ _)) b);have H7:=zA0 (show WIn _ b W7 _ _ _ _ from hW7.out▸hp1.below (Below.drew (zB6 _ _)))
     have hsn7:=zA0 (hsn6.out.grow hp3 (p':=(pW (fun q=>p0 q\/q=w.heap.size\/q=w.heap.size+1) b dv4)) (fun q e=>by injection e with e; exact .inr (.inl e.symm)) (fun _=>.inl))
     have hxb7:=zA0 (hxb6.out.grown hp3 (fun e=>by injection e with e; omega))
     have hbx7:=zA0 (hbx6.out.grown hp3 (fun e=>by injection e with e; omega))
     have hK7:=zA0 (hK6.out.trans (zE8 (p:=fun q=>q=b) hp3 (fun q e=>by injection e with e; exact e.symm)) (fun _ _ e=>.inl e))
     clear hW7 hp1 hp2 hp3 H6 hsn6 hxb6 hbx6 hK6 HBX6 HSL6 d0 d1 d2 c0 c1 c2 hfb hlt6 hgW;have e78:W7.cell? ⟨b,78,none⟩=some (.int .i64 (l:Int)):=by rw [<-hld5]; exact H7.out.restAt (j:=0) rfl
     obtain ⟨_,_,_,_,_,_,c6,c7,c8,_⟩:=H7.out.srvCells hl3;have hs7:∀ v:List Cli,({ υ with cl:=v }:Wd).s l=τ.s l:=fun _=>hsl5
     rw [hs7] at c6 c7 c8;have hnd7:=(H7.out.srv l hl3).nodes.1;rw [hs7] at hnd7;have x3:W7.cell? ⟨w.heap.size,3,none⟩=some (.string xp):=hxb7.out.cell 3;have HGT:=zA0 (fun (W:World) (h:Sl Jab 9 W (.slice (tv l).na (τ.s l).nodes.length (tv l).nc) (τ.s l).nodes)=>Jl4 (τ.s l).tz _ (tv l).sa (τ.s l).sess.length (tv l).sc (τ.s l).nodes xp W h qH1)
     have HND7:=zA0 hnd7;have hlt7:b<W7.heap.size:=H7.out.lt;have hltx7:w.heap.size<W7.heap.size:=hxb7.out.lt;have l0:(0:Int)<=(l:Int):=qCE;have l1:(l:Int)<3:=qCE;clear hnd7 hs7 hsl5 hld5 hcq hseen hlen hlen2 hnl5 hln5;generalize getN (τ.s l).nodes xp=N at *;generalize getE (τ.s l).nodes xp=NE at *;obtain ⟨np,nd,n1,n2,n3,n4,n5,n6,n7⟩:=N;go_upto_region 17 with fail
     go_cut [17,18] from 94 to 109 (fun s17 s18 wx=>∃ g:Nat,s17=.pointer (some ⟨g,0,none⟩)/\s18=.int .i64 NE/\Below W7.heap.size W7 wx/\Hid (Bk wx g [.string np,.string nd,.int .i64 n1,.int .i64 n2,.int .i64 n3,.int .i64 n4,.int .i64 n5,.int .i64 n6,.int .i64 n7] 75))
     case first=>
      refine wp_region_noPanic ?_;refine zD8 qE1 (fun W hW=>?_)
      have cl0:W.cell? ⟨b,78,none⟩=some (.int .i64 (l:Int)):=qAE;have cl1:W.cell? ⟨b,l*10+6,none⟩=some (.int .i64 (τ.s l).tz):=qAE;have cl2:W.cell? ⟨b,l*10+7,none⟩=some (.slice (tv l).na (τ.s l).nodes.length (tv l).nc):=qAE;have cl3:W.cell? ⟨b,l*10+8,none⟩=some (.slice (tv l).sa (τ.s l).sess.length (tv l).sc):=qAE;have cl4:W.cell? ⟨w.heap.size,3,none⟩=some (.string xp):=qAE;have hWs1:W.heap.size=W7.heap.size:=qWE;have hW1W:Below W7.heap.size W7 W:=qIE;have hbW:b<W.heap.size:=qCE;have HNW:=zA0 (HND7.out.below hW1W);refine JaD (fun w'=>w'.cell? ⟨b,78,none⟩=some (.int .i64 (l:Int))/\w'.cell? ⟨b,l*10+6,none⟩=some (.int .i64 (τ.s l).tz)/\w'.cell? ⟨b,l*10+7,none⟩=some (.slice (tv l).na (τ.s l).nodes.length (tv l).nc)/\w'.cell? ⟨b,l*10+8,none⟩=some (.slice (tv l).sa (τ.s l).sess.length (tv l).sc)/\w'.cell? ⟨w.heap.size,3,none⟩=some (.string xp)) (fun i=>i == 17) (by (try dsimp only); (refine ⟨?_,?_,?_,?_,?_⟩ <;> go_simp)) (fun hHeld=>?_)
      refine tpP 0 ?_;refine tpP 1 ?_;refine tpP 2 ?_;refine tpP 3 ?_;refine tpA 4 ?_;refine tpP 5 ?_;refine tpP 6 ?_;refine tpP 7 ?_;refine tpP 8 ?_;refine tpA 9 ?_;refine tpP 10 ?_;refine tpA 11 ?_;refine zB1 (rs:=[12,16]) qE1 qI1 ?_;refine zB4 qQ0 (fun K hK=>?gO4_13) ?gL4_13
      case gO4_13=>
       go_simp
       (go_at_call 78; (with_reducible refine (HGT.out _ (HNW.out.below zR)).mono ?_); rintro e w3 ⟨rfl,hb3⟩; obtain ⟨ext3,d3,rfl⟩:=zA2 _ hb3; clear hb3)
       refine hK.out _ _ ?gT4_13 (fun hHeld=>?_)
       case gT4_13=>((try dsimp only); (refine ⟨?_,?_,?_,?_,?_⟩ <;> go_simp))
       clear hK K
       try simp only [Act.put,zA6,zA4,zA5]
       refine tpP 13 ?_;refine tpP 14 ?_;refine tpP 15 ?_;refine zB1 (rs:=[16]) qE1 qI1 ?_;refine zB4 qQ0 (fun K hK=>?_) zB2
       go_simp;refine hK.out _ _ ?gT4_17 (fun hHeld=>?_)
       case gT4_17=>((try dsimp only); (refine ⟨?_,?_,?_,?_,?_⟩ <;> go_simp))
       clear hK K
       try simp only [Act.put,zA6,zA4,zA5]
       refine zB1 (rs:=[17]) qE1 qI1 ?_;refine zC8 qQ0 qE1 (fun K hK=>?_) zB2
       go_simp;refine hK.out _ _ ?_;clear hK K
       try simp only [Act.put,zA6,zA4,zA5]
       refine tpQ 18 ?_;refine zC4 qE1 ?_ _;refine NoPanic.normal ?_;go_wp2_with fail;go_meet;refine ⟨_,rfl,rfl,?_,zA0 ?b4_19⟩
       ·exact zB8 hW1W zR
       case b4_19=>first | exact Bk.new _ _ _ qC1 | exact (Bk.new W _ _ hWs1.symm).below zR | exact (Bk.new (grow W ext3 d3) _ _ qC1).below zR
      refine zB4 qQ0 (fun K hK=>?gO4_20) ?gL4_20
      case gO4_20=>
       go_simp;refine hK.out _ _ ?gT4_20 (fun hHeld=>?_)
       case gT4_20=>((try dsimp only); (refine ⟨?_,?_,?_,?_,?_⟩ <;> go_simp))
       clear hK K
       try simp only [Act.put,zA6,zA4,zA5]
       refine zB1 (rs:=[12]) qE1 qI1 ?_;refine zB4 qQ0 (fun K hK=>?_) zB2
       go_simp
       (go_at_call 78; (with_reducible refine (HGT.out _ (HNW.out.below zR)).mono ?_); rintro e w3 ⟨rfl,hb3⟩; obtain ⟨ext3,d3,rfl⟩:=zA2 _ hb3; clear hb3)
       refine hK.out _ _ ?gT4_21 (fun hHeld=>?_)
       case gT4_21=>((try dsimp only); (refine ⟨?_,?_,?_,?_,?_⟩ <;> go_simp))
       clear hK K
       try simp only [Act.put,zA6,zA4,zA5]
       refine tpP 13 ?_;refine tpP 14 ?_;refine tpP 15 ?_;refine zB1 (rs:=[17]) qE1 qI1 ?_;refine zC8 qQ0 qE1 (fun K hK=>?_) zB2
       go_simp;refine hK.out _ _ ?_;clear hK K
       try simp only [Act.put,zA6,zA4,zA5]
       refine tpQ 18 ?_;refine zC4 qE1 ?_ _;refine NoPanic.normal ?_;go_wp2_with fail;go_meet;refine ⟨_,rfl,rfl,?_,zA0 ?b4_26⟩
       ·exact zB8 hW1W zR
       case b4_26=>first | exact Bk.new _ _ _ qC1 | exact (Bk.new W _ _ hWs1.symm).below zR | exact (Bk.new (grow W ext3 d3) _ _ qC1).below zR
      exact zB2
     case rest=>
      obtain ⟨g,rfl,rfl,hb8,HBX8⟩:=hcut;obtain ⟨W8,rfl⟩:∃ W,W=wc:=⟨_,rfl⟩;have H8:=zA0 (H7.out.below hb8);have hsn8:=zA0 (hsn7.out.below hb8);have hxb8:=zA0 (hxb7.out.below hb8);have hbx8:=zA0 (hbx7.out.below hb8);have hK8:=zA0 (hK7.out.trans (zC3 hb8 (p:=fun q=>q=b)) (fun _ _ e=>.inl e))
      clear hb8 H7 hsn7 hxb7 hbx7 hK7 c6 c7 c8 e78 x3 HGT HND7 hlt7 hltx7;have x0:W8.cell? ⟨w.heap.size,0,none⟩=some (.int .i64 xz):=hxb8.out.cell 0;have x3:W8.cell? ⟨w.heap.size,3,none⟩=some (.string xp):=hxb8.out.cell 3;have d2:W8.cell? ⟨g,2,none⟩=some (.int .i64 n1):=HBX8.out.cell 2;have d3:W8.cell? ⟨g,3,none⟩=some (.int .i64 n2):=HBX8.out.cell 3;have d4:W8.cell? ⟨g,4,none⟩=some (.int .i64 n3):=HBX8.out.cell 4;have d5:W8.cell? ⟨g,5,none⟩=some (.int .i64 n4):=HBX8.out.cell 5;have d6:W8.cell? ⟨g,6,none⟩=some (.int .i64 n5):=HBX8.out.cell 6;have d7:W8.cell? ⟨g,7,none⟩=some (.int .i64 n6):=HBX8.out.cell 7;have d8:W8.cell? ⟨g,8,none⟩=some (.int .i64 n7):=HBX8.out.cell 8;have hff:∀ j,W8.frozen? ⟨w.heap.size+1,j,none⟩=false:=fun j=>hbx8.out.frozen j
      obtain ⟨q0,q1,q2,q3,q4,q5,q6,q7,q8,q9,q10,q11⟩:=zD4 hbx8.out;go_wp2_with fail;refine zA1 (v:=rpV ⟨0,xz,xp,noB,⟨n1,n2,n3,n4,n5,n6,n7⟩,ns⟩ An kn) (by simp [results,Tryz.results75,go_sem,q0,q1,q2,q3,q4,q5,q6,q7,q8,q9,q10,q11]) rfl ?_
      rw [HIS.out];have h9:=H8.out.more (p1:=fun q=>(fun q=>p0 q\/q=w.heap.size) q\/q=w.heap.size+1) (fun q e=>.inl (by
       rcases e with (e | e) | e
       ·exact .inl e
       ·exact .inr (.inl e)
       ·exact .inr (.inr e)))
      have hs9:=hsn8.out.more (p':=pW (fun q=>(fun q=>p0 q\/q=w.heap.size) q\/q=w.heap.size+1) b dv4) (fun q e=>.inl (by
       rcases e with ((e | e) | e) | e
       ·exact .inl (.inl e)
       ·exact .inl (.inr (.inl e))
       ·exact .inl (.inr (.inr e))
       ·exact .inr e))
      exact DoRes.sub (WIn.reply h9 (zC6 _) hK8.out hmv.out ⟨0,xz,xp,noB,⟨n1,n2,n3,n4,n5,n6,n7⟩,ns⟩ An kn hs9 (zD2 _ _ _ _ _ _ _ _ _ _ _ _ _ _)) (fun q e=>.inl e)
end
end Go.Proofs.YtjnooagaghdkdaaGreatDoor
