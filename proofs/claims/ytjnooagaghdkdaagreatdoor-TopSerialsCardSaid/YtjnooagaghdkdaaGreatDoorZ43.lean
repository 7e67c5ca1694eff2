/-L-/
import Derived.BigRegion
import Derived.Test.YtjnooagaghdkdaaGreatDoorZ36
import Derived.Test.YtjnooagaghdkdaaGreatDoorZ41
import Derived.Test.YtjnooagaghdkdaaGreatDoorZ42
set_option maxHeartbeats 10000000
set_option maxRecDepth 100000
set_option linter.all false
namespace Go.Proofs.YtjnooagaghdkdaaGreatDoor
section
open Go.RowKit Go.ChangeShapes Go.WideShapes Go.ChangeAt
theorem bits_one (y:Int):bits BinOp.and IntKind.i64 y 1=y % 2:=by
 unfold bits;simp only;have h1:(BitVec.ofInt IntKind.i64.bits y &&& BitVec.ofInt IntKind.i64.bits 1).toNat=(y % 2).toNat:=by
  rw [BitVec.toNat_and,BitVec.toNat_ofInt,BitVec.toNat_ofInt];show (y % 18446744073709551616).toNat &&& ((1:Int) % 18446744073709551616).toNat=_;have:((1:Int) % 18446744073709551616).toNat=1:=by decide
  rw [this,Nat.and_one_is_mod];omega
 rw [h1,zP8];omega
theorem JlW (x:Int) (m:Nat):(bits BinOp.and IntKind.i64 (x / (2:Int) ^ m) 1 == 0)=!bitI x m:=by
 unfold bitI;rw [bits_one]
 by_cases h:x / (2:Int) ^ m % 2=0
 ·simp [h]
 ·simp [h]
theorem cNat_one (x:Nat):∀ v∈cNat x,v.oneCell'=true:=fun v hv=>by
 simp only [cNat,zE3] at hv;subst hv;rfl
structure TkF (p0:Nat->Prop) (b g:Nat) (w:World) (dcs:List Value) (x:Txn) (cv:Nat->ClV) (dv:Value) (wr:World) (nv:Value) (σ:Wd) (sv:Nat->SrvV) (hv:List Nat):Prop where
 win:WIn (fun q=>(p0 q\/q=w.heap.size\/q=w.heap.size+1\/q=g)\/nv.ownBlock=some q) b wr σ sv cv dv
 hav:Ow cNat 1 3 wr (g+1) nv hv
 keep:Keeps (fun q=>q=b\/dv.ownBlock=some q\/w.heap.size<=q) w wr
 gw:w.heap.size+2<=g
 dbx:Bk wr w.heap.size dcs 29
 rbx:Bk wr (w.heap.size+1) rpZ 35
 xbx:Bk wr g (cTxn x) 39
section
variable {p0:Nat->Prop} {b g:Nat} {w:World} {dcs:List Value} {x:Txn} {cv:Nat->ClV} {dv:Value} {wr W:World} {nv:Value} {σ σ':Wd} {sv sv':Nat->SrvV} {hv:List Nat}
theorem TkF.below (h:TkF p0 b g w dcs x cv dv wr nv σ sv hv) (hb:Below wr.heap.size wr W):TkF p0 b g w dcs x cv dv W nv σ sv hv:=
 ⟨h.win.below hb,h.hav.below hb,h.keep.trans (zC3 hb (p:=fun q=>q=b)) (fun _ _ e=>.inl e),h.gw,h.dbx.below hb,h.rbx.below hb,h.xbx.below hb⟩
theorem TkF.setB (h:TkF p0 b g w dcs x cv dv wr nv σ sv hv) (hb:b<w.heap.size) (hg:wr.grownBy W (some b)) (hw:WIn (fun q=>(p0 q\/q=w.heap.size\/q=w.heap.size+1\/q=g)\/nv.ownBlock=some q) b W σ' sv' cv dv):TkF p0 b g w dcs x cv dv W nv σ' sv' hv:=by
 have hgw:=h.gw;refine ⟨hw,h.hav.kept hg (.inr (fun e=>by have:=(h.hav.own_in e).1; omega)),?_,hgw,h.dbx.grown hg (fun e=>by injection e with e; omega),h.rbx.grown hg (fun e=>by injection e with e; omega),h.xbx.grown hg (fun e=>by injection e with e; omega)⟩
 exact h.keep.trans (zE8 (p:=fun q=>q=b) hg (fun q e=>by injection e with e; exact e.symm)) (fun _ _ e=>.inl e)
theorem TkF.push {v2:Value} {hv2:List Nat} (h:TkF p0 b g w dcs x cv dv wr nv σ sv hv) (hg:wr.grownBy W nv.ownBlock) (hat:v2.ownBlock=nv.ownBlock\/v2.ownBlock=some wr.heap.size) (ho:Ow cNat 1 3 W (g+1) v2 hv2):TkF p0 b g w dcs x cv dv W v2 σ sv hv2:=by
 have hgw:=h.gw;refine ⟨h.win.push hg hat,ho,?_,hgw,h.dbx.grown hg (fun e=>by have:=(h.hav.own_in e.symm).1; omega),h.rbx.grown hg (fun e=>by have:=(h.hav.own_in e.symm).1; omega),h.xbx.grown hg (fun e=>by have:=(h.hav.own_in e.symm).1; omega)⟩
 exact h.keep.trans (zE8 (p:=fun q=>nv.ownBlock=some q) hg (fun q e=>e)) (fun k _ e=>.inr (.inr (by have:=(h.hav.own_in e).1; omega)))
theorem TkF.low (h:TkF p0 b g w dcs x cv dv wr nv σ sv hv) (hp0:∀ q,p0 q->q<w.heap.size):∀ q,pW (fun q=>(p0 q\/q=w.heap.size\/q=w.heap.size+1\/q=g)\/nv.ownBlock=some q) b dv q->q<wr.heap.size:=h.win.low (fun q hq=>by
 have h1:=h.keep.size;have h2:=h.rbx.lt;have h3:=h.xbx.lt;rcases hq with (hq | hq | hq | hq) | hq
 ·have:=hp0 q hq; omega
 ·omega
 ·omega
 ·omega
 ·exact (h.hav.own_in hq).2)
theorem TkF.sla (h:TkF p0 b g w dcs x cv dv wr nv σ sv hv) (hb:b<w.heap.size) (hp0:∀ q,p0 q->q<w.heap.size):SlA (pW (fun q=>p0 q\/q=w.heap.size\/q=w.heap.size+1\/q=g) b dv) cNat 1 wr nv hv:=by
 have hgw:=h.gw;refine ⟨h.hav.sl,.inr (fun q hq e=>?_)⟩
 have h1:=(h.hav.own_in e).1;rcases hq with (hq | hq | hq | hq) | hq | hq
 ·have:=hp0 q hq; omega
 ·omega
 ·omega
 ·omega
 ·omega
 ·exact h.win.dp q (.inr e) hq
end
structure TkL (p0:Nat->Prop) (b g:Nat) (w:World) (Reg:List Txn) (E:Int) (K l:Nat) (d:Deed) (dcs:List Value) (x:Txn) (cv:Nat->ClV) (dv:Value) (σ0:Wd) (k:Nat) (wr:World) (nv:Value) (σ:Wd) (sv:Nat->SrvV) (hv:List Nat):Prop extends TkF p0 b g w dcs x cv dv wr nv σ sv hv where
 eq:([0,1,2].take k).foldl (Jcl d x) (σ0,[])=(σ,hv)
 tk:TakeIn Reg E K σ0 l x ([0,1,2].take k) σ hv
theorem take3 {k:Nat} (h:k<3):([0,1,2]:List Nat).take (k+1)=[0,1,2].take k ++ [k]/\k∉([0,1,2]:List Nat).take k:=by
 match k,h with
 | 0,_=>exact ⟨rfl,by decide⟩
 | 1,_=>exact ⟨rfl,by decide⟩
 | 2,_=>exact ⟨rfl,by decide⟩
theorem takes_eq {d:Deed} {x:Txn} {σ0 σ:Wd} {hv:List Nat} {k:Nat} (h:k<3) (e:([0,1,2].take k).foldl (Jcl d x) (σ0,[])=(σ,hv)):([0,1,2].take (k+1)).foldl (Jcl d x) (σ0,[])=Jcl d x (σ,hv) k:=by
 rw [(take3 h).1,zI2,e];rfl
theorem hv3 {Reg:List Txn} {E:Int} {K l:Nat} {σ τ:Wd} {x:Txn} {hv:List Nat} {k:Nat} (T:TakeIn Reg E K σ l x ([0,1,2].take k) τ hv):hv.length<=3:=Jlk T.nd (fun i hi=>by
 have:=zH7 (T.hvs i hi).1;simp at this;omega)
theorem TakeIn.ups {Reg:List Txn} {E:Int} {K l:Nat} {σ τ:Wd} {x:Txn} {P:List Nat} {hv:List Nat} (h:Inv0 Reg E K σ) (hK:K+1<=300) (li:LeadIn Reg E σ l) (hg:Jat x=0) (hz:Jao Reg<x.zxid) (hx:Jaz (runT newTr (σ.s l).log) x=0) (T:TakeIn Reg E K σ l x P τ hv) (hP:∀ i∈P,i<3):∀ i∈hv,i<3/\(τ.s i).up=true:=by
 intro i hi;obtain ⟨a,b⟩:=T.hvs i hi;have h3:=hP i a;obtain ⟨y1,sf,y2,_⟩:=T.yes i a b;obtain ⟨u1,u2,u3⟩:=li.same i h3 y1;have hn:Reg.length<=300:=qbE;obtain ⟨_,t2,t3,_⟩:=(h.up h3 u1).take h.reg hn hg hz (by rw [u3]; exact hx) sf
 rw [y2];exact ⟨h3,t3.up⟩
theorem take_no (d:Deed) (x:Txn) {τ:Wd} {hv:List Nat} {m:Nat} (h:τ.f m=false):Jcl d x (τ,hv) m=(τ,hv):=if_pos h
theorem Jnt (d:Deed) (x:Txn) {τ:Wd} {hv:List Nat} {m:Nat} (h:τ.f m=true) (h2:(decide ((m:Int)=τ.lead) || !bitI d.lost m)=false):Jcl d x (τ,hv) m=({ τ with fol:=τ.fol.set m false },hv):=by
 unfold Jcl;rw [if_neg (by rw [h]; decide),if_neg (by rw [h2]; decide)]
theorem take_yes (d:Deed) (x:Txn) {τ:Wd} {hv:List Nat} {m:Nat} (h:τ.f m=true) (h2:(decide ((m:Int)=τ.lead) || !bitI d.lost m)=true) {sf:Bool} (h3:(decide ((m:Int)=τ.lead) || !bitI d.slow m)=sf):Jcl d x (τ,hv) m=({ τ with fol:=τ.fol.set m true,srv:=τ.srv.set m (Jcm (τ.s m) x sf) },if sf=true then hv ++ [m] else hv):=by
 unfold Jcl;rw [if_neg (by rw [h]; decide),if_pos h2]
 simp only [h3]
theorem Jld:∀ (l:List Int) (lo hi:Int),l.Pairwise (·<·)->(∀ s∈l,lo<=s/\s<=hi)->lo<=hi+1->(l.length:Int)<=hi+1 - lo
 | [],lo,hi,_,_,h=>by simp; omega
 | a :: l,lo,hi,hp,hb,h=>by
  rw [zG7] at hp;have ha:=hb a qI1;have:=Jld l (a+1) hi hp.2 (fun s hs=>⟨hp.1 s hs,(hb s (by simp [hs])).2⟩) qH1
  rw [zD5];omega
theorem sess_len {Reg:List Txn} {E:Int} {K:Nat} {σ:Wd} (h:Inv0 Reg E K σ) {i:Nat} (hi:i<3):(σ.s i).sess.length<=2147483647:=by
 have g:=(JaP (h.owned hi)).1;have:=Jld (σ.s i).sess 1 2147483647 g.sess g.sessB qG1;omega
theorem Inv0.sized {Reg:List Txn} {E:Int} {K:Nat} {σ:Wd} (h:Inv0 Reg E K σ) {i:Nat} (hi:i<3):∀ x∈(σ.s i).disk,x.sized:=by
 rcases h.srv i hi with u | u
 ·obtain ⟨q,m1,m2,e,hl,hq⟩:=u.dk
  rw [e];exact Jb4 hq.size (zB5 (u.size h.reg h.small hl) qG1)
 ·obtain ⟨q,ep,m,rest,e,hq,_,hz,_⟩:=u.dk
  rw [e];refine Jb4 hq.size ?_;rw [JaN];show _+0<=_;omega
structure CpI (w:World) (W:World) (vs:List Value):Prop where
 hb:Below w.heap.size w W
 bx:Bk W w.heap.size vs 71
 rx:Bk W (w.heap.size+1) [.bool false,.slice none 0 0,.int .i64 0,.int .i64 0,.slice none 0 0,.int .i64 0,.int .i64 0,.slice none 0 0,.slice none 0 0,.slice none 0 0] 71
theorem CpI.step {w W W2:World} {vs:List Value} (h:CpI w W vs) (hb:Below W.heap.size W W2) (j:Nat) (v:Value):CpI w (W2.setCell ⟨w.heap.size,j,none⟩ v) (vs.set j v):=by
 have h2:=h.bx.below hb;exact ⟨Below.put (h.hb.trans (hb.mono (zG5 (Nat.lt_of_le_of_lt (zA3 _) h.bx.lt)))) (zA3 _),h2.put j v,(h.rx.below hb).far (fun e=>by omega)⟩
theorem Ow.step {α:Type} {f:α->List Value} {s:Nat} {e:TypeId} {w W W2:World} {v:Value} {l:List α} (h:Ow f s e W (w.heap.size+2) v l) (hb:Below W.heap.size W W2) (j:Nat) (u:Value):Ow f s e (W2.setCell ⟨w.heap.size,j,none⟩ u) (w.heap.size+2) v l:=
 (h.below hb).setBelow qv0 u
theorem wWrite (p0:Nat->Prop) (b:Nat) (w:World) (σ:Wd) (sv:Nat->SrvV) (cv:Nat->ClV) (dv:Value) (Reg:List Txn) (E:Int) (K:Nat) (h:WIn p0 b w σ sv cv dv) (hp0:∀ q,p0 q->q<w.heap.size) (hI:Inv Reg E K σ) (hK:K+1<=300) (d:Deed) (hpz:d.path.size<=4611686018427387904) :
  Calls Tryz.prog 50 #[.pointer (some ⟨b,0,none⟩),JoL d] w (DoRes p0 b dv (Jbg σ d).1 (Jbg σ d).2 w):=by
 have hltb:b<w.heap.size:=h.lt;have H:=zA0 (h.more (p1:=fun q=>((fun q=>p0 q\/q=w.heap.size) q\/q=w.heap.size+1)\/q=w.heap.size+2) (fun q e=>by
  rcases e with ((e | e) | e) | e
  ·exact .inl e
  ·exact .inr qH1
  ·exact .inr qH1
  ·exact .inr qH1))
 have HP0:=zA0 hp0;have HI:=zA0 hI;clear h hp0 hI;obtain ⟨dk,dc,ds,dop,dse,dp,dd,dve,dfl,dlo,dsl,dke,dw⟩:=d;simp only at hpz;go_enter Tryz.func50,Tryz.ntmps50
 go_upto_region 1 with fail
 refine Jax (fun W0 hW0=>?_)
 have hB0:Below w.heap.size w W0:=qaE;have hs0:W0.heap.size=w.heap.size+2:=by rw [hW0.out]; simp
 have H0:=zA0 (H.out.below hB0);have HD0:=zA0 (show Bk W0 w.heap.size [.int .i64 dk,.int .i64 dc,.int .i64 ds,.int .i64 dop,.int .i64 dse,.string dp,.string dd,.int .i64 dve,.int .i64 dfl,.int .i64 dlo,.int .i64 dsl,.int .i64 dke,.bool dw] 29 by rw [hW0.out]; exact Bk.below (Bk.new _ _ _ rfl) zR)
 have HR0:=zA0 (show Bk W0 (w.heap.size+1) rpZ 35 by rw [hW0.out]; exact Bk.new _ _ _ qI1)
 clear hW0 H;have x1:W0.cell? ⟨w.heap.size,1,none⟩=some (.int .i64 dc):=HD0.out.cell 1
 by_cases hr:dc<0\/16<=dc
 ·have HQ:=zA0 (show Jbg σ ⟨dk,dc,ds,dop,dse,dp,dd,dve,dfl,dlo,dsl,dke,dw⟩=(σ,rp 3) from if_pos hr)
  have hff:∀ j,W0.frozen? ⟨w.heap.size+1,j,none⟩=false:=fun j=>HR0.out.frozen j
  obtain ⟨q0,q1,q2,q3,q4,q5,q6,q7,q8,q9,q10,q11⟩:=zD4 HR0.out;rcases hr with hr | hr
  ·have hbt:decide (dc<0)=true:=zB0 hr
   go_wp2_with fail;refine zA1 (v:=rpV (rp 3) none 0) (by simp [results,Tryz.results50,go_sem,q0,q1,q2,q3,q4,q5,q6,q7,q8,q9,q10,q11]) rfl ?_
   rw [HQ.out];exact DoRes.sub (WIn.reply (H0.out.more (p1:=fun q=>(fun q=>p0 q\/q=w.heap.size) q\/q=w.heap.size+1) (fun q e=>.inl (.inl e))) (zC6 _) (zC3 hB0) (.inl rfl) (rp 3) none 0 (SlA.nil _ _ _ _) (zD2 _ _ _ _ _ _ _ _ _ _ _ _ _ _)) (fun q e=>.inl e)
  ·have hbf:decide (dc<0)=false:=zA7 qH1
   have hbt:decide (16<=dc)=true:=zB0 hr;go_wp2_with fail;refine zA1 (v:=rpV (rp 3) none 0) (by simp [results,Tryz.results50,go_sem,q0,q1,q2,q3,q4,q5,q6,q7,q8,q9,q10,q11]) rfl ?_
   rw [HQ.out];exact DoRes.sub (WIn.reply (H0.out.more (p1:=fun q=>(fun q=>p0 q\/q=w.heap.size) q\/q=w.heap.size+1) (fun q e=>.inl (.inl e))) (zC6 _) (zC3 hB0) (.inl rfl) (rp 3) none 0 (SlA.nil _ _ _ _) (zD2 _ _ _ _ _ _ _ _ _ _ _ _ _ _)) (fun q e=>.inl e)
 ·obtain ⟨k,hk,rfl⟩:∃ k:Nat,k<16/\dc=(k:Int):=⟨dc.toNat,by omega,by omega⟩
  have hb0:decide ((k:Int)<0)=false:=zA7 qH1;have hb1:decide (16<=(k:Int))=false:=zA7 qH1;have e78:W0.cell? ⟨b,78,none⟩=some (.int .i64 σ.lead):=H0.out.restAt (j:=0) rfl;have hlt0:b<W0.heap.size:=H0.out.lt
  by_cases hl:σ.lead<0
  ·have HQ:=zA0 (show Jbg σ ⟨dk,k,ds,dop,dse,dp,dd,dve,dfl,dlo,dsl,dke,dw⟩=(σ,rp 14) by
    unfold Jbg;rw [if_neg hr,if_pos hl])
   have hbl:decide (σ.lead<0)=true:=zB0 hl;clear hr hl;have hff:∀ j,W0.frozen? ⟨w.heap.size+1,j,none⟩=false:=fun j=>HR0.out.frozen j
   obtain ⟨q0,q1,q2,q3,q4,q5,q6,q7,q8,q9,q10,q11⟩:=zD4 HR0.out;go_wp2_with fail;refine zA1 (v:=rpV (rp 14) none 0) (by simp [results,Tryz.results50,go_sem,q0,q1,q2,q3,q4,q5,q6,q7,q8,q9,q10,q11]) rfl ?_
   rw [HQ.out];exact DoRes.sub (WIn.reply (H0.out.more (p1:=fun q=>(fun q=>p0 q\/q=w.heap.size) q\/q=w.heap.size+1) (fun q e=>.inl (.inl e))) (zC6 _) (zC3 hB0) (.inl rfl) (rp 14) none 0 (SlA.nil _ _ _ _) (zD2 _ _ _ _ _ _ _ _ _ _ _ _ _ _)) (fun q e=>.inl e)
  obtain ⟨l,hlead,hl3,hlu,hlid,hld,hlep,hli⟩:=HI.out.led hl;rw [hlead] at e78;have HLD:=zA0 hlead;have HLI:=zA0 hli;have HDN:=zA0 hld;have HE:Hid (Jbg σ ⟨dk,k,ds,dop,dse,dp,dd,dve,dfl,dlo,dsl,dke,dw⟩ =
   if (Jbj (Jar (σ.s l))).2≠0 then (σ,rp (Jbj (Jar (σ.s l))).2) else
   if Jbi (trOf (σ.s l)) (Jbj (Jar (σ.s l))).1 ⟨dop,(σ.c k).session,dp,dd,dve,dfl⟩≠0 then (σ,rp (Jbi (trOf (σ.s l)) (Jbj (Jar (σ.s l))).1 ⟨dop,(σ.c k).session,dp,dd,dve,dfl⟩)) else
   if ([0,1,2].foldl (Jcl ⟨dk,k,ds,dop,dse,dp,dd,dve,dfl,dlo,dsl,dke,dw⟩ (JaS (trOf (σ.s l)) (Jbj (Jar (σ.s l))).1 ⟨dop,(σ.c k).session,dp,dd,dve,dfl⟩)) (σ,[])).2.length<2
   then (Jay ([0,1,2].foldl (Jcl ⟨dk,k,ds,dop,dse,dp,dd,dve,dfl,dlo,dsl,dke,dw⟩ (JaS (trOf (σ.s l)) (Jbj (Jar (σ.s l))).1 ⟨dop,(σ.c k).session,dp,dd,dve,dfl⟩)) (σ,[])).1,{ rp 16 with zxid:=(JaS (trOf (σ.s l)) (Jbj (Jar (σ.s l))).1 ⟨dop,(σ.c k).session,dp,dd,dve,dfl⟩).zxid })
   else JaM ([0,1,2].foldl (Jcl ⟨dk,k,ds,dop,dse,dp,dd,dve,dfl,dlo,dsl,dke,dw⟩ (JaS (trOf (σ.s l)) (Jbj (Jar (σ.s l))).1 ⟨dop,(σ.c k).session,dp,dd,dve,dfl⟩)) (σ,[])).1 k (JaS (trOf (σ.s l)) (Jbj (Jar (σ.s l))).1 ⟨dop,(σ.c k).session,dp,dd,dve,dfl⟩) ([0,1,2].foldl (Jcl ⟨dk,k,ds,dop,dse,dp,dd,dve,dfl,dlo,dsl,dke,dw⟩ (JaS (trOf (σ.s l)) (Jbj (Jar (σ.s l))).1 ⟨dop,(σ.c k).session,dp,dd,dve,dfl⟩)) (σ,[])).2):=zA0 (by
   unfold Jbg;rw [if_neg hr,if_neg hl];simp only [hlead,zG9];rfl)
  have hbl:decide ((l:Int)<0)=false:=zA7 qH1;have g0:(0:Int)<=(k:Int):=qCE;have g1:(k:Int)<16:=qCE;have l0:(0:Int)<=(l:Int):=qCE;have l1:(l:Int)<3:=qCE;clear hr hl hlead hli hld hlid hlep;have x3:W0.cell? ⟨w.heap.size,3,none⟩=some (.int .i64 dop):=HD0.out.cell 3;have x4:W0.cell? ⟨w.heap.size,4,none⟩=some (.int .i64 dse):=HD0.out.cell 4;have x5:W0.cell? ⟨w.heap.size,5,none⟩=some (.string dp):=HD0.out.cell 5;have x6:W0.cell? ⟨w.heap.size,6,none⟩=some (.string dd):=HD0.out.cell 6;have x7:W0.cell? ⟨w.heap.size,7,none⟩=some (.int .i64 dve):=HD0.out.cell 7;have x8:W0.cell? ⟨w.heap.size,8,none⟩=some (.int .i64 dfl):=HD0.out.cell 8;go_upto_region 6 with fail
  refine Jax (fun W1 hW1=>?_)
  have hB1:Below W0.heap.size W0 W1:=qNE;have H1:=zA0 (H0.out.below hB1);have HD1:=zA0 (HD0.out.below hB1);have HR1:=zA0 (HR0.out.below hB1);have HQ1:=zA0 (show Bk W1 (w.heap.size+2) [.int .i64 dop,.int .i64 dse,.string dp,.string dd,.int .i64 dve,.int .i64 dfl] 27 by rw [hW1.out]; exact Bk.new _ _ _ hs0.symm)
  have hbB1:=zA0 (zB8 hB0 hB1);clear hW1 H0 HD0 HR0 hB0 hB1 x1 x3 x4 x5 x6 x7 x8 e78 hb0 hb1 hlt0;have x1:W1.cell? ⟨w.heap.size,1,none⟩=some (.int .i64 (k:Int)):=HD1.out.cell 1;obtain ⟨e0,e1,e2⟩:=H1.out.clCells hk;have hfr:∀ j,W1.frozen? ⟨w.heap.size+2,j,none⟩=false:=fun j=>HQ1.out.frozen j
  have r1:W1.cell? ⟨w.heap.size+2,1,none⟩=some (.int .i64 dse):=HQ1.out.cell 1;have hlt1:b<W1.heap.size:=H1.out.lt;have hltx1:w.heap.size<W1.heap.size:=HD1.out.lt;have hltr1:w.heap.size+2<W1.heap.size:=HQ1.out.lt;go_region;refine Ja3 (fun W2 hW2=>?_)
  have hG2:W1.grownBy W2 (some (w.heap.size+2)):=hW2.out▸(zD9 _ _ _ _).trans (zH6 (Below.drew (zB6 _ _)) _);have H2:=zA0 (H1.out.other hG2 (.inr rfl));have HD2:=zA0 (HD1.out.grown hG2 (fun e=>by injection e with e; omega))
  have HR2:=zA0 (HR1.out.grown hG2 (fun e=>by injection e with e; omega))
  have HQ2:=zA0 (show Bk W2 (w.heap.size+2) [.int .i64 dop,.int .i64 (σ.c k).session,.string dp,.string dd,.int .i64 dve,.int .i64 dfl] 27 from hW2.out▸Bk.below (HQ1.out.put 1 (.int .i64 (σ.c k).session)) (Below.drew (zB6 _ _)))
  have hK2:=zA0 (((zC3 hbB1.out (p:=fun q=>q=b\/dv.ownBlock=some q\/w.heap.size<=q))).trans (zE8 (p:=fun q=>q=w.heap.size+2) hG2 (fun q e=>by injection e with e; exact e.symm)) (fun q _ e=>.inr (.inr qH1)))
  clear hW2 hG2 H1 HD1 HR1 HQ1 hbB1 x1 e0 e1 e2 hfr r1 hlt1 hltx1 hltr1;have e78:W2.cell? ⟨b,78,none⟩=some (.int .i64 (l:Int)):=by rw [<-HLD.out]; exact H2.out.restAt (j:=0) rfl
  have hlt2:b<W2.heap.size:=H2.out.lt;go_upto_region 7 with fail
  go_region;refine Ja3 (fun W3 hW3=>?_)
  have hB3:Below W2.heap.size W2 W3:=by rw [hW3.out]; exact zR
  have H3:=zA0 (H2.out.below hB3);have HD3:=zA0 (HD2.out.below hB3);have HR3:=zA0 (HR2.out.below hB3);have HQ3:=zA0 (HQ2.out.below hB3);have hK3:=zA0 (hK2.out.trans (zC3 hB3 (p:=fun q=>q=b)) (fun _ _ e=>.inl e))
  clear hW3 hB3 H2 HD2 HR2 HQ2 hK2 e78 hlt2;obtain ⟨c0,c1,c2,c3,c4,c5,c6,c7,c8,c9⟩:=H3.out.srvCells hl3;have hlt3:b<W3.heap.size:=H3.out.lt;have hloglen:(σ.s l).log.length<=301:=by
   have h1:=(HI.out.toInv0.up hl3 hlu).lg.sub.length_le;have h2:=HI.out.small;omega
  obtain ⟨z,hz⟩:∃ z,z=Jbj (Jar (σ.s l)):=⟨_,rfl⟩;have HNX:=zA0 (fun (W:World) (hb:Below W3.heap.size W3 W)=>show Calls Tryz.prog 70 #[.agg #[.int .i64 (σ.s l).id,.int .i64 (σ.s l).epoch,.slice (sv l).la (σ.s l).log.length (sv l).lc,.int .i64 (σ.s l).done_]] W (fun e w'=>e=.returned (.tuple #[.int .i64 z.1,.int .i64 z.2])/\Below W.heap.size W w') from by
   rw [hz];exact zabNext ⟨(σ.s l).id,(σ.s l).epoch,(sv l).la,(sv l).lc,(σ.s l).log,(σ.s l).done_⟩ W ⟨((H3.out.srv l hl3).log.below hb).1,by simp only; omega⟩)
  have HZ:=zA0 hz;rw [<-hz] at HE;clear hz;obtain ⟨z1,z2⟩:=z;simp only at HE HNX
  by_cases hz2:z2=0
  ·have HE2:=zA0 (HE.out.trans (if_neg (fun e=>e hz2)))
   subst hz2;clear HE;go_upto_region 11 with ((go_at_call 70; refine zc (HNX.out _ zR) (fun ext1 d1=>?_)))
   refine Jax (fun W4 hW4=>?_)
   have hB4:Below W3.heap.size W3 W4:=qeE;have H4:=zA0 (H3.out.below hB4);have HD4:=zA0 (HD3.out.below hB4);have HR4:=zA0 (HR3.out.below hB4);have HQ4:=zA0 (HQ3.out.below hB4);have hK4:=zA0 (hK3.out.trans (zC3 hB4 (p:=fun q=>q=b)) (fun _ _ e=>.inl e))
   clear hW4 hB4 H3 HD3 HR3 HQ3 hK3 c0 c1 c2 c3 c4 c5 c6 c7 c8 c9 hlt3 HNX;obtain ⟨_,_,_,_,_,_,c6,c7,c8,_⟩:=H4.out.srvCells hl3;have hlt4:b<W4.heap.size:=H4.out.lt;have hltr4:w.heap.size+2<W4.heap.size:=HQ4.out.lt;have r0:W4.cell? ⟨w.heap.size+2,0,none⟩=some (.int .i64 dop):=HQ4.out.cell 0;have r1:W4.cell? ⟨w.heap.size+2,1,none⟩=some (.int .i64 (σ.c k).session):=HQ4.out.cell 1;have r2:W4.cell? ⟨w.heap.size+2,2,none⟩=some (.string dp):=HQ4.out.cell 2;have r3:W4.cell? ⟨w.heap.size+2,3,none⟩=some (.string dd):=HQ4.out.cell 3;have r4:W4.cell? ⟨w.heap.size+2,4,none⟩=some (.int .i64 dve):=HQ4.out.cell 4;have r5:W4.cell? ⟨w.heap.size+2,5,none⟩=some (.int .i64 dfl):=HQ4.out.cell 5;have hgt:=(JaP (HI.out.toInv0.owned hl3)).1;have hsess:=sess_len HI.out.toInv0 hl3;have HPR:=zA0 (fun (W:World) (h1:Sl Jab 9 W (.slice (sv l).na (σ.s l).nodes.length (sv l).nc) (σ.s l).nodes) (h2:Sl cInt 1 W (.slice (sv l).sa (σ.s l).sess.length (sv l).sc) (σ.s l).sess)=>show Calls Tryz.prog 71 #[.agg #[.int .i64 (σ.s l).tz,.slice (sv l).na (σ.s l).nodes.length (sv l).nc,.slice (sv l).sa (σ.s l).sess.length (sv l).sc],.int .i64 z1,reqV ⟨dop,(σ.c k).session,dp,dd,dve,dfl⟩] W (JbR (trOf (σ.s l)) z1 ⟨dop,(σ.c k).session,dp,dd,dve,dfl⟩ W) from Jnj (σ.s l).tz _ _ (σ.s l).nodes (σ.s l).sess z1 ⟨dop,(σ.c k).session,dp,dd,dve,dfl⟩ W h1 h2 (by have:=hgt.len; have:(σ.s l).nodes.length<=400:=this; omega) qH1 (fun n hn=>zB5 (Ja6 (hgt.path n hn).1).2 qG1) hpz)
   unfold JbR at HPR;have HPF:Hid (Jbi (trOf (σ.s l)) z1 ⟨dop,(σ.c k).session,dp,dd,dve,dfl⟩=0->(JaS (trOf (σ.s l)) z1 ⟨dop,(σ.c k).session,dp,dd,dve,dfl⟩).path.size<=9223372036854775807/\Jao Reg<(JaS (trOf (σ.s l)) z1 ⟨dop,(σ.c k).session,dp,dd,dve,dfl⟩).zxid/\(JaS (trOf (σ.s l)) z1 ⟨dop,(σ.c k).session,dp,dd,dve,dfl⟩).zxid<(E+1)*2147483648/\Jat (JaS (trOf (σ.s l)) z1 ⟨dop,(σ.c k).session,dp,dd,dve,dfl⟩)=0/\Jaz (runT newTr (σ.s l).log) (JaS (trOf (σ.s l)) z1 ⟨dop,(σ.c k).session,dp,dd,dve,dfl⟩)=0):=zA0 (fun h5=>by
    have n12:=Jh5 HI.out.toInv0 HLI.out (by rw [<-HZ.out])
    rw [<-HZ.out] at n12;obtain ⟨p1,_,p3,_,_,p6,_⟩:=Jcw h5;have ht:=HI.out.tree HLI.out HDN.out;rw [ht] at p1;refine ⟨JgE p6,by rw [p3]; exact n12.1,by rw [p3]; exact n12.2,p6,by rw [<-ht] at p1 ⊢; exact p1⟩)
   clear hgt hsess;generalize JaS (trOf (σ.s l)) z1 ⟨dop,(σ.c k).session,dp,dd,dve,dfl⟩=X at *;generalize Jbi (trOf (σ.s l)) z1 ⟨dop,(σ.c k).session,dp,dd,dve,dfl⟩=PE at *;have HND4:=zA0 (H4.out.srv l hl3).nodes.1;have HSS4:=zA0 (H4.out.srv l hl3).sess.1;have hw2:w.heap.size+2<=W4.heap.size:=qCE;obtain ⟨xz,xo,xs,xp,xd,xv,xw⟩:=X;go_cut [9,8] from 61 to 71 (fun s9 s8 wx=>∃ g:Nat,s9=.pointer (some ⟨g,0,none⟩)/\s8=.int .i64 PE/\W4.heap.size<=g/\Below W4.heap.size W4 wx/\Hid (Bk wx g [.int .i64 xz,.int .i64 xo,.int .i64 xs,.string xp,.string xd,.int .i64 xv,.int .i64 xw] 39))
   case first=>
    refine wp_region_noPanic ?_;refine zD8 qE1 (fun W hW=>?_)
    have cl0:W.cell? ⟨b,l*10+6,none⟩=some (.int .i64 (σ.s l).tz):=qAE;have cl1:W.cell? ⟨b,l*10+7,none⟩=some (.slice (sv l).na (σ.s l).nodes.length (sv l).nc):=qAE;have cl2:W.cell? ⟨b,l*10+8,none⟩=some (.slice (sv l).sa (σ.s l).sess.length (sv l).sc):=qAE;have cl3:W.cell? ⟨w.heap.size+2,0,none⟩=some (.int .i64 dop):=qAE;have cl4:W.cell? ⟨w.heap.size+2,1,none⟩=some (.int .i64 (σ.c k).session):=qAE;have cl5:W.cell? ⟨w.heap.size+2,2,none⟩=some (.string dp):=qAE;have cl6:W.cell? ⟨w.heap.size+2,3,none⟩=some (.string dd):=qAE;have cl7:W.cell? ⟨w.heap.size+2,4,none⟩=some (.int .i64 dve):=qAE;have cl8:W.cell? ⟨w.heap.size+2,5,none⟩=some (.int .i64 dfl):=qAE;have hWs1:W.heap.size=W4.heap.size:=qWE;have hW1W:Below W4.heap.size W4 W:=qIE;have hbW:b<W.heap.size:=qCE;have HNW:=zA0 (HND4.out.below hW1W);have HSW:=zA0 (HSS4.out.below hW1W);refine JaD (fun w'=>w'.cell? ⟨b,l*10+6,none⟩=some (.int .i64 (σ.s l).tz)/\w'.cell? ⟨b,l*10+7,none⟩=some (.slice (sv l).na (σ.s l).nodes.length (sv l).nc)/\w'.cell? ⟨b,l*10+8,none⟩=some (.slice (sv l).sa (σ.s l).sess.length (sv l).sc)/\w'.cell? ⟨w.heap.size+2,0,none⟩=some (.int .i64 dop)/\w'.cell? ⟨w.heap.size+2,1,none⟩=some (.int .i64 (σ.c k).session)/\w'.cell? ⟨w.heap.size+2,2,none⟩=some (.string dp)/\w'.cell? ⟨w.heap.size+2,3,none⟩=some (.string dd)/\w'.cell? ⟨w.heap.size+2,4,none⟩=some (.int .i64 dve)/\w'.cell? ⟨w.heap.size+2,5,none⟩=some (.int .i64 dfl)) (fun i=>i == 11) (by (try dsimp only); (refine ⟨?_,?_,?_,?_,?_,?_,?_,?_,?_⟩ <;> go_simp)) (fun hHeld=>?_)
    refine tpP 0 ?_;refine tpP 1 ?_;refine tpP 2 ?_;refine tpA 3 ?_;refine tpP 4 ?_;refine tpA 5 ?_;refine zB1 (rs:=[6,10]) qE1 qI1 ?_;refine zB4 qQ0 (fun K hK=>?gO1_7) ?gL1_7
    case gO1_7=>
     go_simp
     (go_at_call 71; (with_reducible refine (HPR.out _ (HNW.out.below zR) (HSW.out.below zR)).mono ?_); rintro e w3 ⟨rfl,hb3⟩; obtain ⟨ext3,d3,rfl⟩:=zA2 _ hb3; clear hb3)
     refine hK.out _ _ ?gT1_7 (fun hHeld=>?_)
     case gT1_7=>((try dsimp only); (refine ⟨?_,?_,?_,?_,?_,?_,?_,?_,?_⟩ <;> go_simp))
     clear hK K
     try simp only [Act.put,zA6,zA4,zA5]
     refine tpP 7 ?_;refine tpP 8 ?_;refine tpP 9 ?_;refine zB1 (rs:=[10]) qE1 qI1 ?_;refine zB4 qQ0 (fun K hK=>?_) zB2
     go_simp;refine hK.out _ _ ?gT1_11 (fun hHeld=>?_)
     case gT1_11=>((try dsimp only); (refine ⟨?_,?_,?_,?_,?_,?_,?_,?_,?_⟩ <;> go_simp))
     clear hK K
     try simp only [Act.put,zA6,zA4,zA5]
     refine zB1 (rs:=[11]) qE1 qI1 ?_;refine zC8 qQ0 qE1 (fun K hK=>?_) zB2
     go_simp;refine hK.out _ _ ?_;clear hK K
     try simp only [Act.put,zA6,zA4,zA5]
     refine tpQ 12 ?_;refine zC4 qE1 ?_ _;refine NoPanic.normal ?_;go_wp2_with fail;go_meet;refine ⟨_,rfl,rfl,?_,?_,zA0 ?b1_13⟩
     ·first | omega | (simp <;> omega)
     ·exact zB8 hW1W zR
     case b1_13=>first | exact Bk.new _ _ _ qC1 | exact (Bk.new W _ _ hWs1.symm).below zR | exact (Bk.new (grow W ext3 d3) _ _ qC1).below zR
    refine zB4 qQ0 (fun K hK=>?gO1_14) ?gL1_14
    case gO1_14=>
     go_simp;refine hK.out _ _ ?gT1_14 (fun hHeld=>?_)
     case gT1_14=>((try dsimp only); (refine ⟨?_,?_,?_,?_,?_,?_,?_,?_,?_⟩ <;> go_simp))
     clear hK K
     try simp only [Act.put,zA6,zA4,zA5]
     refine zB1 (rs:=[6]) qE1 qI1 ?_;refine zB4 qQ0 (fun K hK=>?_) zB2
     go_simp
     (go_at_call 71; (with_reducible refine (HPR.out _ (HNW.out.below zR) (HSW.out.below zR)).mono ?_); rintro e w3 ⟨rfl,hb3⟩; obtain ⟨ext3,d3,rfl⟩:=zA2 _ hb3; clear hb3)
     refine hK.out _ _ ?gT1_15 (fun hHeld=>?_)
     case gT1_15=>((try dsimp only); (refine ⟨?_,?_,?_,?_,?_,?_,?_,?_,?_⟩ <;> go_simp))
     clear hK K
     try simp only [Act.put,zA6,zA4,zA5]
     refine tpP 7 ?_;refine tpP 8 ?_;refine tpP 9 ?_;refine zB1 (rs:=[11]) qE1 qI1 ?_;refine zC8 qQ0 qE1 (fun K hK=>?_) zB2
     go_simp;refine hK.out _ _ ?_;clear hK K
     try simp only [Act.put,zA6,zA4,zA5]
     refine tpQ 12 ?_;refine zC4 qE1 ?_ _;refine NoPanic.normal ?_;go_wp2_with fail;go_meet;refine ⟨_,rfl,rfl,?_,?_,zA0 ?b1_20⟩
     ·first | omega | (simp <;> omega)
     ·exact zB8 hW1W zR
     case b1_20=>first | exact Bk.new _ _ _ qC1 | exact (Bk.new W _ _ hWs1.symm).below zR | exact (Bk.new (grow W ext3 d3) _ _ qC1).below zR
    exact zB2
   case rest=>
    obtain ⟨g,rfl,rfl,hgw,hb5,HBX5⟩:=hcut;obtain ⟨W5,rfl⟩:∃ W,W=wc:=⟨_,rfl⟩;have H5:=zA0 (H4.out.below hb5);have HD5:=zA0 (HD4.out.below hb5);have HR5:=zA0 (HR4.out.below hb5);have hK5:=zA0 (hK4.out.trans (zC3 hb5 (p:=fun q=>q=b)) (fun _ _ e=>.inl e))
    have H5g:=zA0 ((H4.out.more (p1:=fun q=>(p0 q\/q=w.heap.size\/q=w.heap.size+1\/q=g)\/(Value.slice none 0 0).ownBlock=some q) (fun q e=>by
     rcases e with (e | e | e | e) | e
     ·exact .inl (.inl (.inl (.inl e)))
     ·exact .inl (.inl (.inl (.inr e)))
     ·exact .inl (.inl (.inr e))
     ·exact .inr qH1
     ·cases e)).below hb5)
    clear hb5 H4 HD4 HR4 HQ4 hK4 c6 c7 c8 r0 r1 r2 r3 r4 r5 HPR HND4 HSS4 hlt4 hltr4
    by_cases hpe:PE=0
    ·have HE3:=zA0 (HE2.out.trans (if_neg (fun e=>e hpe)))
     subst hpe;obtain ⟨hxp,hxn,hxl,hxg,hxa⟩:=HPF.out rfl;have HXN:=zA0 hxn;have HXL:=zA0 hxl;have HXG:=zA0 hxg;have HXA:=zA0 hxa;have hT0:TakeIn Reg E K σ l ⟨xz,xo,xs,xp,xd,xv,xw⟩ [] σ []:=⟨HI.out.toInv0.grow hK hxg hxn hxl,rfl,rfl,rfl,rfl,fun _ _=>⟨rfl,rfl⟩,by simp,by simp,by simp,by simp,by simp⟩
     have hL0:Hid (TkL p0 b g w Reg E K l ⟨dk,k,ds,dop,dse,dp,dd,dve,dfl,dlo,dsl,dke,dw⟩ [.int .i64 dk,.int .i64 (k:Int),.int .i64 ds,.int .i64 dop,.int .i64 dse,.string dp,.string dd,.int .i64 dve,.int .i64 dfl,.int .i64 dlo,.int .i64 dsl,.int .i64 dke,.bool dw] ⟨xz,xo,xs,xp,xd,xv,xw⟩ cv dv σ 0 W5 (.slice none 0 0) σ sv []):=zA0
      ⟨⟨H5g.out,Ow.nil _ _ _ _ _,hK5.out,by omega,HD5.out,HR5.out,HBX5.out⟩,rfl,hT0⟩
     clear HE2 HPF H5 HD5 HR5 H5g hK5 HBX5 hxn hxl hxg hxa hT0;go_wp2_with fail;go_loopw [10,75] (fun nv i wr=>∃ (m:Nat) (τ:Wd) (tv:Nat->SrvV) (hv:List Nat),m<=3/\i=.int .i64 m/\Hid (TkL p0 b g w Reg E K l ⟨dk,k,ds,dop,dse,dp,dd,dve,dfl,dlo,dsl,dke,dw⟩ [.int .i64 dk,.int .i64 (k:Int),.int .i64 ds,.int .i64 dop,.int .i64 dse,.string dp,.string dd,.int .i64 dve,.int .i64 dfl,.int .i64 dlo,.int .i64 dsl,.int .i64 dke,.bool dw] ⟨xz,xo,xs,xp,xd,xv,xw⟩ cv dv σ m wr nv τ tv hv)) (fun _ i _=>3 - (intOf i).toNat)
     case atStart=>exact ⟨0,_,_,_,zB9 _,rfl,hL0⟩
     case round=>
      obtain ⟨m,τ,tv,hv,hm,rfl,hx⟩:=hrel;obtain ⟨An,kn,rfl,_⟩:=hx.out.hav.form;have hlr:τ.lead=(l:Int):=hx.out.tk.lead.trans HLD.out
      by_cases hlt:m<3
      ·have e0:=hx.out.win.folCell hlt
       have hfb:∀ j,wr.frozen? ⟨b,j,none⟩=false:=fun j=>hx.out.win.frozen j
       have hltr:b<wr.heap.size:=hx.out.win.lt;have hltd:w.heap.size<wr.heap.size:=hx.out.dbx.lt;have m0:(0:Int)<=(m:Int):=qCE;have m1:(m:Int)<3:=qCE;obtain ⟨t1,t2⟩:=take3 hlt;have HT1:=zA0 t1;have HT2:=zA0 t2;clear t1 t2;have hstep:=JdS HI.out.toInv0 HLI.out HLD.out HXG.out HXN.out HXA.out ⟨dk,k,ds,dop,dse,dp,dd,dve,dfl,dlo,dsl,dke,dw⟩ hx.out.tk hlt HT2.out;rw [<-HT1.out] at hstep;have heq:=takes_eq hlt hx.out.eq
       by_cases hf:τ.f m=true
       ·rw [hf] at e0
        have e78:wr.cell? ⟨b,78,none⟩=some (.int .i64 (l:Int)):=by rw [<-hlr]; exact hx.out.win.restAt (j:=0) rfl
        have x9:wr.cell? ⟨w.heap.size,9,none⟩=some (.int .i64 dlo):=hx.out.dbx.cell 9;have HSTEP:=zA0 hstep;have HEQ:=zA0 heq;clear hstep heq;go_upto_region 19 with fail
        go_cut [] from 85 to 105 (fun wx=>∃ v:Bool,v=(decide ((m:Int)=(l:Int)) || !bitI dlo m)/\Hid (TkF p0 b g w [.int .i64 dk,.int .i64 (k:Int),.int .i64 ds,.int .i64 dop,.int .i64 dse,.string dp,.string dd,.int .i64 dve,.int .i64 dfl,.int .i64 dlo,.int .i64 dsl,.int .i64 dke,.bool dw] ⟨xz,xo,xs,xp,xd,xv,xw⟩ cv dv wx (.slice An hv.length kn) { τ with fol:=τ.fol.set m v } tv hv))
        case first=>
         by_cases hml:(m:Int)=(l:Int)
         ·have b0:((m:Int) == (l:Int))=true:=zH0.2 hml
          have b1:decide ((m:Int)=(l:Int))=true:=zB0 hml;clear hml;go_region;refine Ja3 (fun W4 hW4=>?_)
          go_wp2_with fail;go_meet;refine ⟨true,by rw [b1]; rfl,zA0 (hx.out.toTkF.setB hltb (W:=W4) (hW4.out▸(zD9 _ _ _ _).trans (zH6 (Below.drew (zB6 _ _)) b)) (hW4.out▸(hx.out.win.putFol hlt true).below (Below.drew (zB6 _ _))))⟩
         ·have b0:((m:Int) == (l:Int))=false:=zB7.2 hml
          have b1:decide ((m:Int)=(l:Int))=false:=zA7 hml;have hbt:=JlW dlo m;clear hml;cases hbi:bitI dlo m with
          | true=>
           rw [hbi,Bool.not_true] at hbt;go_region;refine Ja3 (fun W4 hW4=>?_)
           go_wp2_with fail;go_meet;refine ⟨false,by rw [b1,hbi]; rfl,zA0 (hx.out.toTkF.setB hltb (W:=W4) (hW4.out▸(zD9 _ _ _ _).trans (zH6 (Below.drew (zB6 _ _)) b)) (hW4.out▸(hx.out.win.putFol hlt false).below (Below.drew (zB6 _ _))))⟩
          | false=>
           rw [hbi,Bool.not_false] at hbt;go_region;refine Ja3 (fun W4 hW4=>?_)
           go_wp2_with fail;go_meet;refine ⟨true,by rw [b1,hbi]; rfl,zA0 (hx.out.toTkF.setB hltb (W:=W4) (hW4.out▸(zD9 _ _ _ _).trans (zH6 (Below.drew (zB6 _ _)) b)) (hW4.out▸(hx.out.win.putFol hlt true).below (Below.drew (zB6 _ _))))⟩
        case rest=>
         obtain ⟨v,hv0,HF4⟩:=hcut;obtain ⟨W4,rfl⟩:∃ W,W=wc:=⟨_,rfl⟩;have hv1:(decide ((m:Int)=τ.lead) || !bitI dlo m)=v:=by rw [hlr]; exact hv0.symm
         have hfm:({ τ with fol:=τ.fol.set m v }:Wd).f m=v:=by
          have:=Jow τ τ.srv v (i:=m) (by rw [hx.out.tk.inv.f3]; exact hlt) m
          rw [if_pos rfl] at this;exact this
         have HV1:=zA0 hv1;have e1:=HF4.out.win.folCell hlt;rw [hfm] at e1;have hlt4:b<W4.heap.size:=HF4.out.win.lt;clear hfm hv0 hv1 e0 hfb e78 x9 hltr hltd;cases v with
         | false=>
          have hno:=Jnt ⟨dk,k,ds,dop,dse,dp,dd,dve,dfl,dlo,dsl,dke,dw⟩ ⟨xz,xo,xs,xp,xd,xv,xw⟩ (hv:=hv) hf HV1.out;have h1:=HSTEP.out;have h2:=HEQ.out;rw [hno] at h1 h2;have HL4:=zA0 (show TkL p0 b g w Reg E K l _ _ _ cv dv σ (m+1) W4 (.slice An hv.length kn) { τ with fol:=τ.fol.set m false } tv hv from ⟨HF4.out,h2,h1⟩)
          clear h1 h2 hno HSTEP HEQ HF4 hx HV1;go_wp2_with fail;go_roundw
          case rel=>exact ⟨m+1,_,_,hv,by omega,by go_num,HL4⟩
          case measure=>simp [intOf]; omega
         | true=>
          have e78:W4.cell? ⟨b,78,none⟩=some (.int .i64 (l:Int)):=by rw [<-hlr]; exact HF4.out.win.restAt (j:=0) rfl
          have x10:W4.cell? ⟨w.heap.size,10,none⟩=some (.int .i64 dsl):=HF4.out.dbx.cell 10;have hltd4:w.heap.size<W4.heap.size:=HF4.out.dbx.lt;go_upto_region 21 with fail
          go_cut [12] from 112 to 127 (fun s12 wx=>∃ sf:Bool,s12=.bool sf/\sf=(decide ((m:Int)=(l:Int)) || !bitI dsl m)/\wx=W4)
          case first=>
           by_cases hml:(m:Int)=(l:Int)
           ·have b0:((m:Int) == (l:Int))=true:=zH0.2 hml
            have b1:decide ((m:Int)=(l:Int))=true:=zB0 hml;clear hml;go_wp2_with fail;go_meet;exact ⟨true,rfl,by rw [b1]; rfl,rfl⟩
           ·have b0:((m:Int) == (l:Int))=false:=zB7.2 hml
            have b1:decide ((m:Int)=(l:Int))=false:=zA7 hml;have hbt:=JlW dsl m;clear hml;cases hbi:bitI dsl m with
            | true=>
             rw [hbi,Bool.not_true] at hbt;go_wp2_with fail;go_meet;exact ⟨false,rfl,by rw [b1,hbi]; rfl,rfl⟩
            | false=>
             rw [hbi,Bool.not_false] at hbt;go_wp2_with fail;go_meet;exact ⟨true,rfl,by rw [b1,hbi]; rfl,rfl⟩
          case rest=>
           obtain ⟨sf,rfl,hsf,rfl⟩:=hcut;obtain ⟨W4,rfl⟩:∃ W,W=wc:=⟨_,rfl⟩;obtain ⟨o1,o2⟩:=hx.out.tk.out m HT2.out;have hfs:σ.f m=true:=by rw [<-o2]; exact hf
           obtain ⟨u1,u2,u3⟩:=HLI.out.same m hlt hfs;have U:=HI.out.toInv0.up hlt u1;have hrn:Reg.length<=300:=by have h1:=HI.out.len; have h2:=HI.out.k300; omega
           obtain ⟨tk1,_,_,_⟩:=U.take HI.out.reg hrn HXG.out HXN.out (by rw [u3]; exact HXA.out) sf
           rw [<-o1] at tk1;have hsz:=HI.out.toInv0.sized hlt;rw [<-o1] at hsz;have hlg:(τ.s m).log.length<=301:=by
            rw [o1];have h1:=U.lg.sub.length_le;omega
           have HTK:=zA0 (fun (W:World) (hb:Below W4.heap.size W4 W)=>JiW (fun q=>((pW (fun q=>(p0 q\/q=w.heap.size\/q=w.heap.size+1\/q=g)\/(Value.slice An hv.length kn).ownBlock=some q) b dv) q\/q=W4.heap.size)/\q<W.heap.size) (τ.s m) (tv m) ⟨xz,xo,xs,xp,xd,xv,xw⟩ sf W (((HF4.out.win.srv m hlt).more (fun q e=>e.1.imp id (fun e=>by omega))).below hb) (fun q e=>e.2) hsz qH1 hxp)
           unfold Jdu at HTK;rw [tk1] at HTK;have hyes:=take_yes ⟨dk,k,ds,dop,dse,dp,dd,dve,dfl,dlo,dsl,dke,dw⟩ ⟨xz,xo,xs,xp,xd,xv,xw⟩ (hv:=hv) hf HV1.out (sf:=sf) (by rw [hlr]; exact hsf.symm)
           have h1:=HSTEP.out;have h2:=HEQ.out;rw [hyes] at h1 h2;have HSTEP2:=zA0 h1;have HEQ2:=zA0 h2;have hsv:({ τ with fol:=τ.fol.set m true }:Wd).s m=τ.s m:=rfl
           have hcs:=HF4.out.win.srvCells hlt;rw [hsv] at hcs;obtain ⟨c0,c1,c2,c3,c4,c5,c6,c7,c8,c9⟩:=hcs;have x0:W4.cell? ⟨g,0,none⟩=some (.int .i64 xz):=HF4.out.xbx.cell 0;have x1:W4.cell? ⟨g,1,none⟩=some (.int .i64 xo):=HF4.out.xbx.cell 1;have x2:W4.cell? ⟨g,2,none⟩=some (.int .i64 xs):=HF4.out.xbx.cell 2;have x3:W4.cell? ⟨g,3,none⟩=some (.string xp):=HF4.out.xbx.cell 3;have x4:W4.cell? ⟨g,4,none⟩=some (.string xd):=HF4.out.xbx.cell 4;have x5:W4.cell? ⟨g,5,none⟩=some (.int .i64 xv):=HF4.out.xbx.cell 5;have x6:W4.cell? ⟨g,6,none⟩=some (.int .i64 xw):=HF4.out.xbx.cell 6;have hgW4:g<W4.heap.size:=HF4.out.xbx.lt;have HLO:=zA0 (HF4.out.low HP0.out);have hhv:=hv3 hx.out.tk;clear h1 h2 hyes HSTEP HEQ U u1 u2 u3 o1 o2 hfs hrn tk1 hsz hlg hsf hx HV1 hf e1 e78 x10 hsv;generalize hSS:Jcm (τ.s m) ⟨xz,xo,xs,xp,xd,xv,xw⟩ sf=S2 at *;clear hSS;obtain ⟨yu,yd,yi,ye,yl,yn,yt,yo,ys,yw⟩:=S2;go_upto_region 22 with fail
           go_cut [13,14] from 127 to 139 (fun s13 s14 wx=>∃ (g2:Nat) (ea:Option Addr) (ec:Nat) (ga:Option Addr) (gc:Nat) (ia:Option Addr) (ic:Nat) (ja:Option Addr) (jc:Nat) (ka:Option Addr) (kc:Nat),s13=.pointer (some ⟨g2,0,none⟩)/\s14=.int .i64 0/\Below W4.heap.size W4 wx/\Hid (Bk wx g2 [.bool yu,.slice ea yd.length ec,.int .i64 yi,.int .i64 ye,.slice ga yl.length gc,.int .i64 yn,.int .i64 yt,.slice ia yo.length ic,.slice ja ys.length jc,.slice ka yw.length kc] 71)/\Hid (SrvIn (pW (fun q=>(p0 q\/q=w.heap.size\/q=w.heap.size+1\/q=g)\/(Value.slice An hv.length kn).ownBlock=some q) b dv) wx ⟨yu,yd,yi,ye,yl,yn,yt,yo,ys,yw⟩ ⟨ea,ec,ga,gc,ia,ic,ja,jc,ka,kc⟩))
           case first=>
            refine wp_region_noPanic ?_;refine zD8 qE1 (fun W hW=>?_)
            have cl0:W.cell? ⟨b,m*10,none⟩=some (.bool (τ.s m).up):=qAE;have cl1:W.cell? ⟨b,m*10+1,none⟩=some (.slice (tv m).da (τ.s m).disk.length (tv m).dc):=qAE;have cl2:W.cell? ⟨b,m*10+2,none⟩=some (.int .i64 (τ.s m).id):=qAE;have cl3:W.cell? ⟨b,m*10+3,none⟩=some (.int .i64 (τ.s m).epoch):=qAE;have cl4:W.cell? ⟨b,m*10+4,none⟩=some (.slice (tv m).la (τ.s m).log.length (tv m).lc):=qAE;have cl5:W.cell? ⟨b,m*10+5,none⟩=some (.int .i64 (τ.s m).done_):=qAE;have cl6:W.cell? ⟨b,m*10+6,none⟩=some (.int .i64 (τ.s m).tz):=qAE;have cl7:W.cell? ⟨b,m*10+7,none⟩=some (.slice (tv m).na (τ.s m).nodes.length (tv m).nc):=qAE;have cl8:W.cell? ⟨b,m*10+8,none⟩=some (.slice (tv m).sa (τ.s m).sess.length (tv m).sc):=qAE;have cl9:W.cell? ⟨b,m*10+9,none⟩=some (.slice (tv m).wa (τ.s m).watches.length (tv m).wc):=qAE;have cl10:W.cell? ⟨g,0,none⟩=some (.int .i64 xz):=qAE;have cl11:W.cell? ⟨g,1,none⟩=some (.int .i64 xo):=qAE;have cl12:W.cell? ⟨g,2,none⟩=some (.int .i64 xs):=qAE;have cl13:W.cell? ⟨g,3,none⟩=some (.string xp):=qAE;have cl14:W.cell? ⟨g,4,none⟩=some (.string xd):=qAE;have cl15:W.cell? ⟨g,5,none⟩=some (.int .i64 xv):=qAE;have cl16:W.cell? ⟨g,6,none⟩=some (.int .i64 xw):=qAE;have hWs1:W.heap.size=W4.heap.size:=qWE;have hW1W:Below W4.heap.size W4 W:=qIE;have hbW:b<W.heap.size:=qCE;have hgW:g<W.heap.size:=qCE;refine JaD (fun w'=>w'.cell? ⟨b,m*10,none⟩=some (.bool (τ.s m).up)/\w'.cell? ⟨b,m*10+1,none⟩=some (.slice (tv m).da (τ.s m).disk.length (tv m).dc)/\w'.cell? ⟨b,m*10+2,none⟩=some (.int .i64 (τ.s m).id)/\w'.cell? ⟨b,m*10+3,none⟩=some (.int .i64 (τ.s m).epoch)/\w'.cell? ⟨b,m*10+4,none⟩=some (.slice (tv m).la (τ.s m).log.length (tv m).lc)/\w'.cell? ⟨b,m*10+5,none⟩=some (.int .i64 (τ.s m).done_)/\w'.cell? ⟨b,m*10+6,none⟩=some (.int .i64 (τ.s m).tz)/\w'.cell? ⟨b,m*10+7,none⟩=some (.slice (tv m).na (τ.s m).nodes.length (tv m).nc)/\w'.cell? ⟨b,m*10+8,none⟩=some (.slice (tv m).sa (τ.s m).sess.length (tv m).sc)/\w'.cell? ⟨b,m*10+9,none⟩=some (.slice (tv m).wa (τ.s m).watches.length (tv m).wc)/\w'.cell? ⟨g,0,none⟩=some (.int .i64 xz)/\w'.cell? ⟨g,1,none⟩=some (.int .i64 xo)/\w'.cell? ⟨g,2,none⟩=some (.int .i64 xs)/\w'.cell? ⟨g,3,none⟩=some (.string xp)/\w'.cell? ⟨g,4,none⟩=some (.string xd)/\w'.cell? ⟨g,5,none⟩=some (.int .i64 xv)/\w'.cell? ⟨g,6,none⟩=some (.int .i64 xw)) (fun i=>i == 13) (by (try dsimp only); (refine ⟨?_,?_,?_,?_,?_,?_,?_,?_,?_,?_,?_,?_,?_,?_,?_,?_,?_⟩ <;> go_simp)) (fun hHeld=>?_)
            refine tpP 0 ?_;refine tpP 1 ?_;refine tpP 2 ?_;refine tpP 3 ?_;refine tpP 4 ?_;refine tpA 5 ?_;refine tpA 6 ?_;refine tpP 7 ?_;refine zB1 (rs:=[8,12]) qE1 qI1 ?_;refine zB4 qQ0 (fun K hK=>?gO2_9) ?gL2_9
            case gO2_9=>
             go_simp
             (go_at_call 72; (with_reducible refine (HTK.out _ (zB8 hW1W zR)).mono ?_); rintro e w3 ⟨⟨ea,ec,ga,gc,ia,ic,ja,jc,ka,kc⟩,rfl,hin,hb3⟩; obtain ⟨ext3,d3,rfl⟩:=zA2 _ hb3; have HS3:=zA0 hin; clear hin hb3)
             refine hK.out _ _ ?gT2_9 (fun hHeld=>?_)
             case gT2_9=>((try dsimp only); (refine ⟨?_,?_,?_,?_,?_,?_,?_,?_,?_,?_,?_,?_,?_,?_,?_,?_,?_⟩ <;> go_simp))
             clear hK K
             try simp only [Act.put,zA6,zA4,zA5]
             refine tpP 9 ?_;refine tpP 10 ?_;refine tpP 11 ?_;refine zB1 (rs:=[12]) qE1 qI1 ?_;refine zB4 qQ0 (fun K hK=>?_) zB2
             go_simp;refine hK.out _ _ ?gT2_13 (fun hHeld=>?_)
             case gT2_13=>((try dsimp only); (refine ⟨?_,?_,?_,?_,?_,?_,?_,?_,?_,?_,?_,?_,?_,?_,?_,?_,?_⟩ <;> go_simp))
             clear hK K
             try simp only [Act.put,zA6,zA4,zA5]
             refine zB1 (rs:=[13]) qE1 qI1 ?_;refine zC8 qQ0 qE1 (fun K hK=>?_) zB2
             go_simp;refine hK.out _ _ ?_;clear hK K
             try simp only [Act.put,zA6,zA4,zA5]
             refine tpQ 14 ?_;refine zC4 qE1 ?_ _;refine NoPanic.normal ?_;go_wp2_with fail;go_meet;refine ⟨_,ea,ec,ga,gc,ia,ic,ja,jc,ka,kc,rfl,rfl,?_,zA0 ?b2_15,zA0 ?s2_15⟩
             ·exact zB8 hW1W zR
             case b2_15=>first | exact Bk.new _ _ _ qC1 | exact (Bk.new W _ _ hWs1.symm).below zR | exact (Bk.new (grow W ext3 d3) _ _ qC1).below zR
             case s2_15=>exact HS3.out.to (by first | (refine ⟨_,?_,zB6 _ _⟩; (repeat (first | with_reducible exact Swap.refl _ _ | with_reducible refine Swap.drew1 ?_ | with_reducible refine Swap.drew2 ?_ | with_reducible refine Swap.drewN1 ?_ | with_reducible refine Swap.drewN2 ?_ | with_reducible refine Swap.grow ?_ _ _ _ | with_reducible refine Swap.new ?_ _ _ ?_ | exact ⟨.inr hWs1,by simp⟩)); done) | (refine ⟨_,Swap.refl _ _,?_⟩; exact zR)) (fun q hq=>⟨.inl hq,by have:=HLO.out q hq; simp <;> omega⟩)
            refine zB4 qQ0 (fun K hK=>?gO2_16) ?gL2_16
            case gO2_16=>
             go_simp;refine hK.out _ _ ?gT2_16 (fun hHeld=>?_)
             case gT2_16=>((try dsimp only); (refine ⟨?_,?_,?_,?_,?_,?_,?_,?_,?_,?_,?_,?_,?_,?_,?_,?_,?_⟩ <;> go_simp))
             clear hK K
             try simp only [Act.put,zA6,zA4,zA5]
             refine zB1 (rs:=[8]) qE1 qI1 ?_;refine zB4 qQ0 (fun K hK=>?_) zB2
             go_simp
             (go_at_call 72; (with_reducible refine (HTK.out _ (zB8 hW1W zR)).mono ?_); rintro e w3 ⟨⟨ea,ec,ga,gc,ia,ic,ja,jc,ka,kc⟩,rfl,hin,hb3⟩; obtain ⟨ext3,d3,rfl⟩:=zA2 _ hb3; have HS3:=zA0 hin; clear hin hb3)
             refine hK.out _ _ ?gT2_17 (fun hHeld=>?_)
             case gT2_17=>((try dsimp only); (refine ⟨?_,?_,?_,?_,?_,?_,?_,?_,?_,?_,?_,?_,?_,?_,?_,?_,?_⟩ <;> go_simp))
             clear hK K
             try simp only [Act.put,zA6,zA4,zA5]
             refine tpP 9 ?_;refine tpP 10 ?_;refine tpP 11 ?_;refine zB1 (rs:=[13]) qE1 qI1 ?_;refine zC8 qQ0 qE1 (fun K hK=>?_) zB2
             go_simp;refine hK.out _ _ ?_;clear hK K
             try simp only [Act.put,zA6,zA4,zA5]
             refine tpQ 14 ?_;refine zC4 qE1 ?_ _;refine NoPanic.normal ?_;go_wp2_with fail;go_meet;refine ⟨_,ea,ec,ga,gc,ia,ic,ja,jc,ka,kc,rfl,rfl,?_,zA0 ?b2_22,zA0 ?s2_22⟩
             ·exact zB8 hW1W zR
             case b2_22=>first | exact Bk.new _ _ _ qC1 | exact (Bk.new W _ _ hWs1.symm).below zR | exact (Bk.new (grow W ext3 d3) _ _ qC1).below zR
             case s2_22=>exact HS3.out.to (by first | (refine ⟨_,?_,zB6 _ _⟩; (repeat (first | with_reducible exact Swap.refl _ _ | with_reducible refine Swap.drew1 ?_ | with_reducible refine Swap.drew2 ?_ | with_reducible refine Swap.drewN1 ?_ | with_reducible refine Swap.drewN2 ?_ | with_reducible refine Swap.grow ?_ _ _ _ | with_reducible refine Swap.new ?_ _ _ ?_ | exact ⟨.inr hWs1,by simp⟩)); done) | (refine ⟨_,Swap.refl _ _,?_⟩; exact zR)) (fun q hq=>⟨.inl hq,by have:=HLO.out q hq; simp <;> omega⟩)
            exact zB2
           case rest=>
            obtain ⟨g2,ea,ec,ga,gc,ia,ic,ja,jc,ka,kc,rfl,rfl,hb5,HBX,HIN5⟩:=hcut;obtain ⟨W5,rfl⟩:∃ W,W=wc:=⟨_,rfl⟩;have HF5:=zA0 (HF4.out.below hb5);clear HTK c0 c1 c2 c3 c4 c5 c6 c7 c8 c9 hb5 hlt4 hltd4 hgW4 x0 x1 x2 x3 x4 x5 x6 HF4 HLO;have d0:W5.cell? ⟨g2,0,none⟩=some (.bool yu):=HBX.out.cell 0;have d1:W5.cell? ⟨g2,1,none⟩=some (.slice ea yd.length ec):=HBX.out.cell 1;have d2:W5.cell? ⟨g2,2,none⟩=some (.int .i64 yi):=HBX.out.cell 2;have d3:W5.cell? ⟨g2,3,none⟩=some (.int .i64 ye):=HBX.out.cell 3;have d4:W5.cell? ⟨g2,4,none⟩=some (.slice ga yl.length gc):=HBX.out.cell 4;have d5:W5.cell? ⟨g2,5,none⟩=some (.int .i64 yn):=HBX.out.cell 5;have d6:W5.cell? ⟨g2,6,none⟩=some (.int .i64 yt):=HBX.out.cell 6;have d7:W5.cell? ⟨g2,7,none⟩=some (.slice ia yo.length ic):=HBX.out.cell 7;have d8:W5.cell? ⟨g2,8,none⟩=some (.slice ja ys.length jc):=HBX.out.cell 8;have d9:W5.cell? ⟨g2,9,none⟩=some (.slice ka yw.length kc):=HBX.out.cell 9;have hgW:g2<W5.heap.size:=HBX.out.lt;obtain ⟨c0,c1,c2,c3,c4,c5,c6,c7,c8,c9⟩:=HF5.out.win.srvCells hlt;have hfb:∀ j,W5.frozen? ⟨b,j,none⟩=false:=fun j=>HF5.out.win.frozen j
            have hlt5:b<W5.heap.size:=HF5.out.win.lt;go_upto_region 25 with fail
            go_region;refine Ja3 (fun W6 hW6=>?_)
            obtain ⟨hp1,hp2⟩:=HF5.out.win.putSrvC hlt HIN5.out;have hp3:W5.grownBy W6 (some b):=hW6.out▸hp2.trans (zH6 (Below.drew (zB6 _ _)) b);have HF6:=zA0 (HF5.out.setB hltb hp3 (hW6.out▸hp1.below (Below.drew (zB6 _ _))));clear hW6 hp1 hp2 hp3 HBX HF5 HIN5 d0 d1 d2 d3 d4 d5 d6 d7 d8 d9 c0 c1 c2 c3 c4 c5 c6 c7 c8 c9 hfb hlt5 hgW;have hsz6:g+1<=W6.heap.size:=by have:=HF6.out.xbx.lt; omega
            cases sf with
            | false=>
             have h1:=HSTEP2.out;have h2:=HEQ2.out;rw [if_neg qG1] at h1 h2;have HL6:=zA0 (show TkL p0 b g w Reg E K l _ _ _ cv dv σ (m+1) W6 (.slice An hv.length kn) _ _ hv from ⟨HF6.out,h2,h1⟩)
             clear h1 h2 HSTEP2 HEQ2 HF6;go_wp2_with fail;go_roundw
             case rel=>exact ⟨m+1,_,_,hv,by omega,by go_num,HL6⟩
             case measure=>simp [intOf]; omega
            | true=>
             have h1:=HSTEP2.out;have h2:=HEQ2.out;rw [if_pos rfl] at h1 h2;have HSTEP3:=zA0 h1;have HEQ3:=zA0 h2;clear h1 h2 HSTEP2 HEQ2;go_wp2_with (at_builtin; refine Jaf _ rfl (.tmp 150) (.tmp 152) _ rfl Je6 (B:=g+1) (f:=cNat) (l:=hv) (m:=[m]) rfl rfl (HF6.out.hav.below zR) (Sl.one_at cNat 1 _ _ _ rfl _ rfl qH1 qI1) cNat_one qs0 qB1 qy0 ?_; intro v2 w8 hown8 hg8 hat8; obtain ⟨A8,c8,rfl,_⟩:=hown8.form; have HO8:=zA0 hown8; have HG8:=zA0 hg8; have HA8:=zA0 hat8; clear hown8 hg8 hat8);have HF8:=zA0 ((HF6.out.below (W:=W6.alloc (.cells #[.int .i64 (m:Int)] 3)) zR).push (v2:=.slice A8 (hv ++ [m]).length c8) HG8.out HA8.out HO8.out);rw [zA9] at HF8;go_roundw
             case rel=>exact ⟨m+1,_,_,hv ++ [m],by omega,by go_num,zA0 ⟨HF8.out,HEQ3.out,HSTEP3.out⟩⟩
             case measure=>simp [intOf]; omega
       ·have hf':τ.f m=false:=by simpa using hf
        rw [hf'] at e0;have hno:=take_no ⟨dk,k,ds,dop,dse,dp,dd,dve,dfl,dlo,dsl,dke,dw⟩ ⟨xz,xo,xs,xp,xd,xv,xw⟩ (hv:=hv) hf';rw [hno] at hstep heq;have HL4:=zA0 (show TkL p0 b g w Reg E K l _ _ _ cv dv σ (m+1) wr (.slice An hv.length kn) τ tv hv from ⟨hx.out.toTkF,heq,hstep⟩)
        clear hstep heq hno hx hf hf';go_wp2_with fail;go_roundw
        case rel=>exact ⟨m+1,_,_,hv,by omega,by go_num,HL4⟩
        case measure=>simp [intOf]; omega
      ·have hm3:m=3:=by omega
       subst hm3;have T:TakeIn Reg E K σ l ⟨xz,xo,xs,xp,xd,xv,xw⟩ [0,1,2] τ hv:=hx.out.tk;have heq:([0,1,2]:List Nat).foldl (Jcl ⟨dk,k,ds,dop,dse,dp,dd,dve,dfl,dlo,dsl,dke,dw⟩ ⟨xz,xo,xs,xp,xd,xv,xw⟩) (σ,[])=(τ,hv):=hx.out.eq;have HE4:Hid (Jbg σ ⟨dk,k,ds,dop,dse,dp,dd,dve,dfl,dlo,dsl,dke,dw⟩=if hv.length<2 then (Jay τ,{ rp 16 with zxid:=xz }) else JaM τ k ⟨xz,xo,xs,xp,xd,xv,xw⟩ hv):=zA0 (by
        have h9:=HE3.out;rw [heq] at h9;exact h9)
       have H1:=zA0 (hx.out.win.more (p1:=fun q=>p0 q\/q=w.heap.size\/q=w.heap.size+1\/q=g) (fun q e=>.inl (.inl e)))
       have HX:=hx;have hups:=TakeIn.ups HI.out.toInv0 hK HLI.out HXG.out HXN.out HXA.out T (fun i hi=>by simp at hi; omega)
       have hhv:=Jlk T.nd (fun i hi=>(hups i hi).1)
       have hltr:b<wr.heap.size:=HX.out.win.lt;have hlo:∀ q,(p0 q\/q=w.heap.size\/q=w.heap.size+1\/q=g)->q<wr.heap.size:=fun q hq=>by
        have h1:=HX.out.keep.size;have h2:=HX.out.rbx.lt;have h3:=HX.out.xbx.lt;rcases hq with hq | hq | hq | hq
        ·have:=HP0.out q hq; omega
        ·omega
        ·omega
        ·omega
       have HLO:=zA0 hlo;clear hx heq HE3 hL0 hlo
       by_cases h2:hv.length<2
       ·have HQ:=zA0 (HE4.out.trans (if_pos h2))
        have hb2:decide ((hv.length:Int)<2)=true:=zB0 qH1;have HRS:=zA0 (Jj8 _ b wr τ tv cv dv H1.out);clear HE4 h2 T hups;go_upto_region 31 with (first | (go_at_call 73; refine (JeB _).mono ?_; rintro e w1 ⟨rfl,rfl⟩; skip) | (go_at_call 74; refine (HRS.out).mono ?_; rintro e w5 ⟨rfl,hin5,hg5⟩; skip))
        have H5:=zA0 hin5;have hK5:=zA0 (HX.out.keep.trans (zE8 (p:=fun q=>q=b) hg5 (fun q e=>by injection e with e; exact e.symm)) (fun _ _ e=>.inl e))
        have HR5:=zA0 (HX.out.rbx.grown hg5 (fun e=>by injection e with e; omega))
        have HX5:=zA0 (HX.out.xbx.grown hg5 (fun e=>by injection e with e; omega))
        clear hin5 hg5 HX H1 HRS;have x0:w5.cell? ⟨g,0,none⟩=some (.int .i64 xz):=HX5.out.cell 0;have hff:∀ j,w5.frozen? ⟨w.heap.size+1,j,none⟩=false:=fun j=>HR5.out.frozen j
        obtain ⟨q0,q1,q2,q3,q4,q5,q6,q7,q8,q9,q10,q11⟩:=zD4 HR5.out;go_wp2_with fail;refine zA1 (v:=rpV { rp 16 with zxid:=xz } none 0) (by simp [results,Tryz.results50,go_sem,q0,q1,q2,q3,q4,q5,q6,q7,q8,q9,q10,q11]) rfl ?_
        rw [HQ.out];exact DoRes.sub (WIn.reply (H5.out.more (p1:=fun q=>(fun q=>p0 q\/q=w.heap.size) q\/q=w.heap.size+1) (fun q e=>.inl (by
         rcases e with (e | e) | e
         ·exact .inl e
         ·exact .inr (.inl e)
         ·exact .inr (.inr (.inl e))))) (zC6 _) hK5.out (.inl rfl) { rp 16 with zxid:=xz } none 0 (SlA.nil _ _ _ _) (zD2 _ _ _ _ _ _ _ _ _ _ _ _ _ _)) (fun q e=>.inl e)
       ·have HQ:=zA0 (HE4.out.trans (if_neg h2))
        have hb2:decide ((hv.length:Int)<2)=false:=zA7 qH1;have HCO:=zA0 (wCommit _ b wr τ tv cv dv (Reg ++ [⟨xz,xo,xs,xp,xd,xv,xw⟩]) E (K+1) H1.out HLO.out T.inv k hk ⟨xz,xo,xs,xp,xd,xv,xw⟩ (by rw [Jcs]) An kn hv (HX.out.sla hltb HP0.out) T.nd hups l hlr hl3)
        unfold DoRes at HCO;clear HE4 h2 T hups;generalize JaM τ k ⟨xz,xo,xs,xp,xd,xv,xw⟩ hv=CW at *;obtain ⟨υ,rr⟩:=CW;obtain ⟨rc,rz,rpa,rda,⟨s1,s2,s3,s4,s5,s6,s7⟩,rns⟩:=rr;simp only at HCO;have x0:wr.cell? ⟨g,0,none⟩=some (.int .i64 xz):=HX.out.xbx.cell 0;have x1:wr.cell? ⟨g,1,none⟩=some (.int .i64 xo):=HX.out.xbx.cell 1;have x2:wr.cell? ⟨g,2,none⟩=some (.int .i64 xs):=HX.out.xbx.cell 2;have x3:wr.cell? ⟨g,3,none⟩=some (.string xp):=HX.out.xbx.cell 3;have x4:wr.cell? ⟨g,4,none⟩=some (.string xd):=HX.out.xbx.cell 4;have x5:wr.cell? ⟨g,5,none⟩=some (.int .i64 xv):=HX.out.xbx.cell 5;have x6:wr.cell? ⟨g,6,none⟩=some (.int .i64 xw):=HX.out.xbx.cell 6;have y1:wr.cell? ⟨w.heap.size,1,none⟩=some (.int .i64 (k:Int)):=HX.out.dbx.cell 1;have hrne:¬ (w.heap.size+1=b\/dv.ownBlock=some (w.heap.size+1)):=by
         rintro (e | e)
         ·omega
         ·exact HX.out.win.dp (w.heap.size+1) (.inl (.inr (.inr (.inl rfl)))) e
        have HNE:=zA0 hrne;clear hrne;go_wp2_with (first | (go_at_call 73; refine (JeB _).mono ?_; rintro e w1 ⟨rfl,rfl⟩; skip) | (go_at_call 75; (with_reducible refine (HCO.out).mono ?_); rintro e w5 ⟨sv5,cv5,dv5,A5,c5,rfl,hin5,hsn5,hk5,hmv5⟩; have HR5:=zA0 (HX.out.rbx.keeps hk5 HNE.out); have hff:∀ j,w5.frozen? ⟨w.heap.size+1,j,none⟩=false:=fun j=>HR5.out.frozen j; obtain ⟨q0,q1,q2,q3,q4,q5,q6,q7,q8,q9,q10,q11⟩:=zD4 HR5.out; have H5:=zA0 hin5; have HS5:=zA0 hsn5; have HK5:=zA0 hk5; have HM5:=zA0 hmv5; clear hin5 hsn5 hk5 hmv5))
        refine zA1 (v:=rpV ⟨rc,rz,rpa,rda,⟨s1,s2,s3,s4,s5,s6,s7⟩,rns⟩ A5 c5) (by simp [results,Tryz.results50,go_sem,q0,q1,q2,q3,q4,q5,q6,q7,q8,q9,q10,q11]) rfl ?_
        rw [HQ.out];refine DoRes.sub (WIn.reply (H5.out.more (p1:=fun q=>(fun q=>p0 q\/q=w.heap.size) q\/q=w.heap.size+1) (fun q e=>.inl (by
         rcases e with (e | e) | e
         ·exact .inl e
         ·exact .inr (.inl e)
         ·exact .inr (.inr (.inl e))))) (zC6 _) (HX.out.keep.trans HK5.out (fun q _ e=>e.elim .inl (fun e=>.inr (.inl e)))) ?_ ⟨rc,rz,rpa,rda,⟨s1,s2,s3,s4,s5,s6,s7⟩,rns⟩ A5 c5 (HS5.out.more (fun q e=>.inl (by
         rcases e with ((e | e) | e) | e
         ·exact .inl (.inl e)
         ·exact .inl (.inr (.inl e))
         ·exact .inl (.inr (.inr (.inl e)))
         ·exact .inr e))) (zD2 _ _ _ _ _ _ _ _ _ _ _ _ _ _)) (fun q e=>.inl e)
        exact HM5.out.imp id (fun ⟨q,e1,e2⟩=>⟨q,e1,zB5 HX.out.keep.size e2⟩)
    ·have HQ:=zA0 (HE2.out.trans (if_pos hpe))
     have b8:(PE == 0)=false:=zB7.2 hpe;have b9:(PE != 0)=true:=zC9.2 hpe;clear HE2;have hff:∀ j,W5.frozen? ⟨w.heap.size+1,j,none⟩=false:=fun j=>HR5.out.frozen j
     obtain ⟨q0,q1,q2,q3,q4,q5,q6,q7,q8,q9,q10,q11⟩:=zD4 HR5.out;go_wp2_with fail;refine zA1 (v:=rpV (rp PE) none 0) (by simp [results,Tryz.results50,go_sem,q0,q1,q2,q3,q4,q5,q6,q7,q8,q9,q10,q11]) rfl ?_
     rw [HQ.out];exact DoRes.sub (WIn.reply (H5.out.more (p1:=fun q=>(fun q=>p0 q\/q=w.heap.size) q\/q=w.heap.size+1) (fun q e=>.inl (.inl e))) (zC6 _) hK5.out (.inl rfl) (rp PE) none 0 (SlA.nil _ _ _ _) (zD2 _ _ _ _ _ _ _ _ _ _ _ _ _ _)) (fun q e=>.inl e)
  ·have HQ:=zA0 (HE.out.trans (if_pos hz2))
   have b8:(z2 == 0)=false:=zB7.2 hz2;have b9:(z2 != 0)=true:=zC9.2 hz2;clear HE;go_upto_region 9 with ((go_at_call 70; refine zc (HNX.out _ zR) (fun ext1 d1=>?_)))
   refine Jax (fun W4 hW4=>?_)
   have hB4:Below W3.heap.size W3 W4:=qeE;have H4:=zA0 (H3.out.below hB4);have HR4:=zA0 (HR3.out.below hB4);have hK4:=zA0 (hK3.out.trans (zC3 hB4 (p:=fun q=>q=b)) (fun _ _ e=>.inl e))
   clear hW4 hB4 H3 HD3 HR3 HQ3 hK3 c0 c1 c2 c3 c4 c5 c6 c7 c8 c9 hlt3 HNX;have hff:∀ j,W4.frozen? ⟨w.heap.size+1,j,none⟩=false:=fun j=>HR4.out.frozen j
   obtain ⟨q0,q1,q2,q3,q4,q5,q6,q7,q8,q9,q10,q11⟩:=zD4 HR4.out;go_wp2_with fail;refine zA1 (v:=rpV (rp z2) none 0) (by simp [results,Tryz.results50,go_sem,q0,q1,q2,q3,q4,q5,q6,q7,q8,q9,q10,q11]) rfl ?_
   rw [HQ.out];exact DoRes.sub (WIn.reply (H4.out.more (p1:=fun q=>(fun q=>p0 q\/q=w.heap.size) q\/q=w.heap.size+1) (fun q e=>.inl (.inl e))) (zC6 _) hK4.out (.inl rfl) (rp z2) none 0 (SlA.nil _ _ _ _) (zD2 _ _ _ _ _ _ _ _ _ _ _ _ _ _)) (fun q e=>.inl e)
end
end Go.Proofs.YtjnooagaghdkdaaGreatDoor
