/-L-/
import Derived.Test.YtjnooagaghdkdaaGreatDoorZ3
import Derived.Test.YtjnooagaghdkdaaGreatDoorZ20
import Derived.Test.YtjnooagaghdkdaaGreatDoorZ39
import Derived.Test.YtjnooagaghdkdaaGreatDoorZ45
set_option maxHeartbeats 10000000
set_option maxRecDepth 100000
set_option linter.all false
namespace Go.Proofs.YtjnooagaghdkdaaGreatDoor
section
open Go.RowKit Go.ChangeShapes Go.WideShapes Go.ChangeAt
theorem Ow.keeps {α:Type} {f:α->List Value} {s:Nat} {e:TypeId} {w w':World} {B:Nat} {v:Value} {l:List α} {p:Nat->Prop} (h:Ow f s e w B v l) (hk:Keeps p w w') (hv:∀ q,p q->v.ownBlock≠some q):Ow f s e w' B v l:=by
 refine ⟨⟨h.1.1,?_⟩,h.2⟩;rcases h.1.2 with hn | ⟨g,cap,cur,rfl,hb,hg,r⟩
 ·exact .inl hn
 ·have hlt:g<w.heap.size:=by
   by_cases h0:g<w.heap.size
   ·exact h0
   ·rw [zL3 qH1] at hg
    cases hg
  exact .inr ⟨g,cap,cur,rfl,hb,(hk.block g hlt (fun e=>hv g e rfl)).trans hg,r⟩
theorem SrvIn.keeps {p r:Nat->Prop} {w w':World} {s:Srv} {v:SrvV} (h:SrvIn p w s v) (hk:Keeps r w w') (hr:∀ q,r q->p q):SrvIn p w' s v:=
 ⟨h.disk.keeps hk hr,h.log.keeps hk hr,h.nodes.keeps hk hr,h.sess.keeps hk hr,h.watches.keeps hk hr⟩
theorem WIn.keeps {p0:Nat->Prop} {b:Nat} {w w':World} {σ:Wd} {sv:Nat->SrvV} {cv:Nat->ClV} {dv:Value} (h:WIn p0 b w σ sv cv dv) (hk:Keeps p0 w w'):WIn p0 b w' σ sv cv dv:=
 { h with
  box:=by obtain ⟨cs,k⟩:=h.box; exact ⟨cs,{ k with bk:=k.bk.keeps hk h.bp }⟩
  srv:=fun i hi=>(h.srv i hi).keeps hk (fun _=>.inl)
  cl:=fun i hi=>(h.cl i hi).keeps hk (fun _=>.inl)
  dn:=h.dn.keeps hk h.dp }
theorem TabB.kept {b : Nat} {p : Nat → Prop} {w w' : World} (h : TabB b w) (hk : Keeps p w w') (hb : b ≤ w.heap.size) (hp : ∀ g, Tryz.prog.globalNamed "internal/strconv.uint64pow10" = some g → ¬ p g) : TabB b w' := by
 obtain ⟨⟨h1,g,hg⟩,h2⟩:=h;refine ⟨⟨?_,g,hg⟩,h2⟩;unfold Lib.TabIs World.var? at h1 ⊢;rw [hg] at h1 ⊢;simp only [Option.bind_some] at h1 ⊢;rw [hk.block g (zD0 (h2 g hg) hb) (hp g hg)];exact h1
def PowG (g : Nat) : Prop := ∀ x, Tryz.prog.globalNamed "internal/strconv.uint64pow10" = some x → ¬ x = g
abbrev dL (k:Int) (c s:Nat) (o:Int) (p:ByteArray) (f lo sl ke:Int):List Value:=[.int .i64 k,.int .i64 c,.int .i64 s,.int .i64 o,.int .i64 0,.string p,.string ⟨#[]⟩,.int .i64 0,.int .i64 f,.int .i64 lo,.int .i64 sl,.int .i64 ke,.bool false]
theorem JgX {w:World} {g:Nat} {t:TypeId} {a0 a1 a2 a3 a4 a5 a6 a7 a8 a9 a10 a11 a12:Value} (h:Bk w g [a0,a1,a2,a3,a4,a5,a6,a7,a8,a9,a10,a11,a12] t) :
  w.cell? ⟨g,0,none⟩=some a0/\w.cell? ⟨g,1,none⟩=some a1/\w.cell? ⟨g,2,none⟩=some a2/\w.cell? ⟨g,3,none⟩=some a3/\w.cell? ⟨g,4,none⟩=some a4/\w.cell? ⟨g,5,none⟩=some a5/\w.cell? ⟨g,6,none⟩=some a6/\w.cell? ⟨g,7,none⟩=some a7/\w.cell? ⟨g,8,none⟩=some a8/\w.cell? ⟨g,9,none⟩=some a9/\w.cell? ⟨g,10,none⟩=some a10/\w.cell? ⟨g,11,none⟩=some a11/\w.cell? ⟨g,12,none⟩=some a12:=
 ⟨h.cell 0,h.cell 1,h.cell 2,h.cell 3,h.cell 4,h.cell 5,h.cell 6,h.cell 7,h.cell 8,h.cell 9,h.cell 10,h.cell 11,h.cell 12⟩
theorem cells6 {w:World} {g:Nat} {t:TypeId} {a0 a1 a2 a3 a4 a5:Value} (h:Bk w g [a0,a1,a2,a3,a4,a5] t):w.cell? ⟨g,0,none⟩=some a0/\w.cell? ⟨g,1,none⟩=some a1/\w.cell? ⟨g,2,none⟩=some a2/\w.cell? ⟨g,3,none⟩=some a3/\w.cell? ⟨g,4,none⟩=some a4/\w.cell? ⟨g,5,none⟩=some a5:=
 ⟨h.cell 0,h.cell 1,h.cell 2,h.cell 3,h.cell 4,h.cell 5⟩
structure GeI (g b:Nat) (w wr:World) (σ:Wd) (sv:Nat->SrvV) (cv:Nat->ClV) (dv:Value) (q:ByteArray):Prop where
 win:WIn (fun x=>x=g) b wr σ sv cv dv
 box:Bk wr g [.string q] 9
 keep:Keeps (fun x=>x=g\/w.heap.size<=x) w wr
 tab:TabB b wr
section
variable {g b:Nat} {w wr W:World} {σ τ:Wd} {sv sv':Nat->SrvV} {cv cv':Nat->ClV} {dv dv':Value} {q q':ByteArray}
theorem GeI.below (h:GeI g b w wr σ sv cv dv q) (hb:Below wr.heap.size wr W):GeI g b w W σ sv cv dv q:=
 ⟨h.win.below hb,h.box.below hb,h.keep.trans (zC3 hb (p:=fun x=>x=g)) (fun _ _ e=>.inl e),h.tab.low (hb.mono (zG5 h.win.lt))⟩
theorem GeI.act (h:GeI g b w wr σ sv cv dv q) (hb:w.heap.size<=b) (hw:WIn (fun x=>x=g) b W τ sv' cv' dv') (hk:Keeps (fun q=>q=b\/dv.ownBlock=some q) wr W):GeI g b w W τ sv' cv' dv' q:=by
 refine ⟨hw,h.box.keeps hk (fun e=>?_),h.keep.trans hk (fun q _ e=>?_),h.tab.low (h.win.keepsB hk)⟩
 ·rcases e with e | e
  ·exact h.win.bp e.symm
  ·exact h.win.dp g rfl e
 ·rcases e with e | e
  ·exact .inr qH1
  ·have:=(h.win.dn.own_in e).1
   exact .inr qH1
theorem GeI.saw (h:GeI g b w wr σ sv cv dv q) (hk:Keeps (fun x=>x=g) wr W) (hb:Bk W g [.string q'] 9) (hgt:PowG g):GeI g b w W σ sv cv dv q':=
 ⟨h.win.keeps hk,hb,h.keep.trans hk (fun _ _ e=>.inl e),h.tab.kept hk (zG5 h.win.lt) hgt⟩
theorem GeI.deed (h:GeI g b w wr σ sv cv dv q) (hb:w.heap.size<=b) {Reg:List Txn} {E:Int} (hI:Inv Reg E σ.deeds σ) (d:Deed) (hd:d.path.size<=4611686018427387904) :
  Calls Tryz.prog 38 #[.pointer (some ⟨b,0,none⟩),JoL d] wr fun e w'=>∃ sv' cv' dv' A c,e=.returned (rpV (doW σ d).2 A c)/\GeI g b w w' (doW σ d).1 sv' cv' dv' q:=by
 refine (wDo (fun x=>x=g) b wr σ sv cv dv Reg E h.win (fun x e=>e▸h.box.lt) hI h.tab d hd).mono ?_
 rintro e w' ⟨sv',cv',dv',A,c,rfl,h1,_,h2,_⟩;exact ⟨sv',cv',dv',A,c,rfl,h.act hb h1 h2⟩
theorem GeI.turn {Reg:List Txn} {E:Int} (h:SerI Reg E σ q/\GeI g b w wr σ sv cv dv q) (hb:w.heap.size<=b) (hgt:PowG g) (d:Deed) (h2:d.kind≠2) (h1:d.kind=1->d.op=3/\(d.flags=2\/d.flags=3)/\d.path=lnB) (hp:d.path.size<=4611686018427387904) (hB:Below wr.heap.size wr W) :
  Calls Tryz.prog 38 #[.pointer (some ⟨b,0,none⟩),JoL d] W fun e w6=>∃ v,e=.returned v/\Calls Tryz.prog 18 #[.pointer (some ⟨b,0,none⟩),v,.pointer (some ⟨g,0,none⟩)] w6 fun e w7=>e=.returned (.bool true)/\
   ∃ τ Reg2 E2 q2 sv6 cv6 dv6,SerI Reg2 E2 τ q2/\GeI g b w w7 τ sv6 cv6 dv6 q2:=by
 obtain ⟨Reg2,E2,hss⟩:=ser_step h.1 d h2 h1;refine ((h.2.below hB).deed hb h.1.inv d hp).mono ?_;rintro e w6 ⟨sv6,cv6,dv6,A6,k6,rfl,hgi⟩;refine ⟨_,rfl,(ser_look g b w6 _ q _ A6 k6 Reg2 E2 hss hgi.box).mono ?_⟩;rintro e w7 ⟨rfl,q2,hs2,hb2,hk2⟩;exact ⟨rfl,_,Reg2,E2,q2,sv6,cv6,dv6,hs2,hgi.saw hk2 hb2 hgt⟩
end
theorem gears_is (g:Nat) (v:Value) (l:List Int) (w:World) (h:SlA (fun x=>x=g) cInt 1 w v l) (hlb:∀ x∈l,-9223372036854775808<=x/\x<=9223372036854775807) (ht:TabB w.heap.size w) (hg:Bk w g [.string noB] 9)
  (hgt:PowG g) :
  Calls Tryz.prog 16 #[v,.func (.func 17) #[] #[],.func (.func 18) #[] #[.pointer (some ⟨g,0,none⟩)]] w fun e w'=>e=.returned (.bool true)/\Keeps (fun x=>x=g\/w.heap.size<=x) w w':=by
 obtain ⟨A,c,rfl,hl1,hl2⟩:=h.1.form;have HL:=zA0 h;have HLB:=zA0 hlb;have HGT:=zA0 hgt;have HT:=zA0 ht;have HG:=zA0 hg;have hgl:g<w.heap.size:=hg.lt;have HA:=zA0 (alive_is w ht);clear h hlb hgt ht hg;go_enter Tryz.func16,Tryz.ntmps16
 go_upto_region 3 with ((go_at_call 21; refine (HA.out).mono ?_; rintro e w1 ⟨rfl,hb1⟩; have HB1:=zA0 hb1; clear hb1))
 have hs1:=HB1.out.size;have HN:=zA0 (wNew (fun x=>x=g) w1 (fun q hq=>by omega))
 go_upto_region 4 with ((go_at_call 37; refine (HN.out).mono ?_; rintro e w2 ⟨sv,cv,rfl,hin,hb⟩; skip))
 have HGI:=zA0 (show GeI g w1.heap.size w w2 newW sv cv (.slice none 0 0) noB from ⟨hin,(HG.out.below HB1.out).below hb,zC3 (HB1.out.trans (hb.mono hs1)),by
  obtain ⟨t1,t2⟩:=(HT.out.low HB1.out).low (hb.mono hs1);exact ⟨t1,fun g hg=>by have:=t2 g hg; omega⟩⟩)
 clear hin hb HN HA HB1 HT HG;generalize hbq:w1.heap.size=b at *;have hbs:w.heap.size<=b:=hs1;clear hbq hs1;have HD:=zA0 (HGI.out.deed hbs new_inv Jcz qG1);have HAL:=zA0 (show AllIn (doW newW Jcz).1 (opL 0)/\(doW newW Jcz).1.deeds<=1 from ⟨new_all,by rw [new_first.deeds]; decide⟩)
 generalize doW newW Jcz=R at *;obtain ⟨σ,rr⟩:=R;obtain ⟨rc,rz,rpa,rda,⟨s1,s2,s3,s4,s5,s6,s7⟩,rns⟩:=rr;simp only at HAL;simp only [rpV] at HD;go_upto_region 5 with ((go_at_call 38; (with_reducible refine (HD.out).mono ?_); rintro e w3 ⟨sv3,cv3,dv3,A3,k3,rfl,hgi⟩; have HG3:=zA0 hgi; clear hgi))
 clear HD HGI;go_wp2_with fail;go_loopw [8] (fun i wr=>∃ (m:Nat) (σ:Wd) (sv:Nat->SrvV) (cv:Nat->ClV) (dv:Value),m<=4/\i=.int .i64 m/\Hid ((AllIn σ (opL m)/\σ.deeds<=m+1)/\GeI g b w wr σ sv cv dv noB)) (fun i _=>4 - (intOf i).toNat)
 case atStart=>exact ⟨0,σ,sv3,cv3,dv3,zB9 _,rfl,zA0 ⟨HAL.out,HG3.out⟩⟩
 case round=>
  clear HAL HG3;obtain ⟨m,σ,sv,cv,dv,hm,rfl,hx⟩:=hrel;have hfd:∀ (rz:Int) (rpa rda:ByteArray) (s1 s2 s3 s4 s5 s6 s7:Int) (A:Option Addr) (n k:Nat) (w:World),(Instr.field 35 (.agg #[.int .i64 0,.int .i64 rz,.string rpa,.string rda,.int .i64 s1,.int .i64 s2,.int .i64 s3,.int .i64 s4,.int .i64 s5,.int .i64 s6,.int .i64 s7,.slice A n k]) 0).run Tryz.prog w=.ok (.int .i64 0) w:=fun _ _ _ _ _ _ _ _ _ _ _ _ _ _=>by kernel_rfl
  by_cases h4:m<4
  ·have HD:=zA0 (hx.out.2.deed hbs hx.out.1.1.inv (Jdp m) (by show (ByteArray.mk #[]).size<=4611686018427387904; decide))
   have HST:=zA0 (all_open h4 hx.out.1.1 hx.out.1.2);generalize doW σ (Jdp m)=R at *;obtain ⟨τ,rr⟩:=R;obtain ⟨rc,rz,rpa,rda,⟨s1,s2,s3,s4,s5,s6,s7⟩,rns⟩:=rr;simp only at HST;simp only [rpV] at HD;obtain ⟨c0,c1,c2⟩:=HST.out;have c0:rc=0:=c0;subst c0;have HX:=zA0 (show AllIn τ (opL (m+1))/\τ.deeds<=m+1+1 from ⟨c1,c2⟩)
   have hm4:decide ((m:Int)<4)=true:=zB0 qH1;clear HST hx c1 c2;go_wp2_with ((go_at_call 38; (with_reducible refine (HD.out).mono ?_); rintro e w3 ⟨sv3,cv3,dv3,A3,k3,rfl,hgi⟩; have HG3:=zA0 hgi; clear hgi));go_roundw
   case rel=>exact ⟨m+1,τ,sv3,cv3,dv3,by omega,by go_num,zA0 ⟨HX.out,HG3.out⟩⟩
   case measure=>simp [intOf]; omega
  ·obtain rfl:m=4:=by omega
   have HD:=zA0 (hx.out.2.deed hbs hx.out.1.1.inv JoO qG1);have HST:=zA0 (all_make hx.out.1.1 hx.out.1.2);generalize doW σ JoO=R at *;obtain ⟨τ,rr⟩:=R;obtain ⟨rc,rz,rpa,rda,⟨s1,s2,s3,s4,s5,s6,s7⟩,rns⟩:=rr;simp only at HST;simp only [rpV] at HD;obtain ⟨c0,L0,c1⟩:=HST.out;have c0:rc=0:=c0;subst c0;have HS0:=zA0 c1;clear HST hx c1;go_upto_region 12 with ((go_at_call 38; (with_reducible refine (HD.out).mono ?_); rintro e w3 ⟨sv3,cv3,dv3,A3,k3,rfl,hgi⟩; have HG3:=zA0 hgi; clear hgi))
   clear HD hfd;go_wp2_with fail;go_loopw [9] (fun i wr=>∃ (m:Nat) (σ:Wd) (Reg:List Txn) (E:Int) (q:ByteArray) (sv:Nat->SrvV) (cv:Nat->ClV) (dv:Value),m<=l.length/\m<=100/\i=.int .i64 m/\Hid (SerI Reg E σ q/\GeI g b w wr σ sv cv dv q)) (fun i _=>101 - (intOf i).toNat)
   case atStart=>exact ⟨0,τ,L0,1,noB,sv3,cv3,dv3,zB9 _,zB9 _,rfl,zA0 ⟨HS0.out,HG3.out⟩⟩
   case round=>
    clear HS0 HG3;obtain ⟨m,σ,Reg,E,q,sv,cv,dv,hm1,hm2,rfl,hx⟩:=hrel
    by_cases hlt:m<l.length/\m<100
    ·obtain ⟨hlt1,hlt2⟩:=hlt
     have HV:=zA0 (HL.out.more (p':=fun x=>x=g\/w.heap.size<=x) (fun q e=>e))
     obtain ⟨bk,off,y,hA,hbk,hy,x0⟩:=(HV.out.keeps hx.out.2.keep (fun _ e=>e)).1.int_at m hlt1
     subst hA;have hyb:=HLB.out _ (zD3 hy);have HP1:Hid (∀ W:World,Calls Tryz.prog 22 #[.int .i64 y,.int .i64 16] W fun e w'=>e=.returned (.int .i64 (Jdw y 16))/\W=w'):=zA0 (pick_16 y)
     have HP2:Hid (∀ W:World,Calls Tryz.prog 22 #[.int .i64 (y.tdiv 16),.int .i64 4] W fun e w'=>e=.returned (.int .i64 (Jdw (y.tdiv 16) 4))/\W=w'):=zA0 (pick_4 _)
     have HP3:Hid (∀ W:World,Calls Tryz.prog 22 #[.int .i64 (y.tdiv 64),.int .i64 3] W fun e w'=>e=.returned (.int .i64 (Jdw (y.tdiv 64) 3))/\W=w'):=zA0 (pick_3 _)
     have hk16:=Jh3 y (n:=16) qG1;have hc4:=Jh3 (y.tdiv 16) (n:=4) qG1;have hs3:=Jh3 (y.tdiv 64) (n:=3) qG1;generalize Jdw y 16=kk at *;generalize Jdw (y.tdiv 16) 4=kc at *;generalize Jdw (y.tdiv 64) 3=ks at *;have hm0:(0:Int)<=(m:Int):=qCE;have hml:(m:Int)<(l.length:Int):=qCE;have hb1:decide ((m:Int)<(l.length:Int))=true:=zB0 hml;have hb2:decide ((m:Int)<100)=true:=zB0 qH1;go_upto_region 15 with fail
     go_quiet (first | (go_at_call 22; first | (with_reducible refine Calls.quiet_of_same ((HP1.out _).mono fun e w' h=>⟨h.1,h.2.symm⟩)) | (with_reducible refine Calls.quiet_of_same ((HP2.out _).mono fun e w' h=>⟨h.1,h.2.symm⟩)) | (with_reducible refine Calls.quiet_of_same ((HP3.out _).mono fun e w' h=>⟨h.1,h.2.symm⟩))))
     have hpz0:(ByteArray.mk #[]).size<=4611686018427387904:=by decide
     have hpz1:lnB.size<=4611686018427387904:=by decide
     clear HP1 HP2 HP3 hk16 hc4 hs3 hy;refine Ja3 (fun W0 hW0=>?_)
     have HB0:=zA0 (show Below wr.heap.size wr W0 by rw [hW0.out]; exact zR)
     clear hW0;have q0:=(HB0.out.cell (p:=⟨bk,off+m,none⟩) qv0).trans x0;have hs0:=HB0.out.size;clear x0;go_upto_region 22 with fail
     refine Jax (fun W1 hW1=>?_)
     have HB1:=zA0 (show Below wr.heap.size wr W1 by rw [hW1.out]; exact zB8 HB0.out zR)
     have HX1:=zA0 (show Bk W1 W0.heap.size (dL 0 kc ks 0 ⟨#[]⟩ 0 0 0 0) 29 by rw [hW1.out]; exact Bk.new _ _ _ rfl)
     have z0:W1.cell? ⟨bk,off+m,none⟩=some (.int .i64 y):=qmE;clear hW1 q0;have vf:∀ j,W1.frozen? ⟨W0.heap.size,j,none⟩=false:=fun j=>HX1.out.frozen j
     have hl1:W0.heap.size<W1.heap.size:=HX1.out.lt;have hbk1:bk<W1.heap.size:=qCE;obtain ⟨t0,t1,t2,t3,t4,t5,t6,t7,t8,t9,t10,t11,t12⟩:=JgX HX1.out;obtain ⟨o0,b0⟩:∃ o,((kk:Int) == 0)=o:=⟨_,rfl⟩;obtain ⟨o2,b2⟩:∃ o,decide ((kk:Int)<=2)=o:=⟨_,rfl⟩
     by_cases k5:kk<=5
     ·have b5:decide ((kk:Int)<=5)=true:=zB0 qH1
      have HP4:=zA0 (fun (U:World)=>pick_40 (y.tdiv 192) U)
      generalize Jdw (y.tdiv 192) 40=kp at *;clear k5;cases o0 <;> cases o2
      all_goals
       go_upto_region 28 with (go_at_call 22; (with_reducible refine (HP4.out _).mono ?_; rintro e w1 ⟨rfl,rfl⟩))
       refine Jax (fun W5 hW5=>?_)
       have HB5:=zA0 (show Below wr.heap.size wr W5 by rw [hW5.out]; have hb:=HB1.out; exact zR)
       obtain ⟨kd,ke,hkd,HX5⟩:∃ kd ke:Int,(3<=kd/\kd<=5)/\Hid (Bk W5 W0.heap.size (dL kd kc ks 0 ⟨#[]⟩ 0 0 0 ke) 29):=by
        rw [hW5.out]
        first | exact ⟨4,0,by decide,zA0 (HX1.out.put 0 _)⟩ | exact ⟨5,0,by decide,zA0 (HX1.out.put 0 _)⟩ | exact ⟨3,kp,by decide,zA0 ((HX1.out.put 0 _).put 11 _)⟩
       have HKD:=zA0 hkd;clear hW5 HP4 z0 vf t0 t1 t2 t3 t4 t5 t6 t7 t8 t9 t10 t11 t12 hkd;have HDO:=zA0 (GeI.turn hx.out hbs HGT.out ⟨kd,kc,ks,0,0,⟨#[]⟩,⟨#[]⟩,0,0,0,0,ke,false⟩ (fun e=>by have e1:kd=2:=e; have e2:=HKD.out; omega) (fun e=>by have e1:kd=1:=e; have e2:=HKD.out; omega) hpz0 HB5.out)
       obtain ⟨y0,y1,y2,y3,y4,y5,y6,y7,y8,y9,y10,y11,y12⟩:=JgX HX5.out;have hlt5:=(HX5.out).lt;clear HX1;go_wp2_with (first | ((go_at_call 38; (with_reducible refine (HDO.out).mono ?_); rintro e w6 ⟨v6,rfl,hl⟩; have HLO:=zA0 hl; clear hl)) | ((go_at_call 18; (with_reducible refine (HLO.out).mono ?_); rintro e w7 ⟨rfl,τ,Reg2,E2,q2,sv6,cv6,dv6,hF⟩; have HF:=zA0 hF; clear hF)));go_roundw
       case rel=>exact ⟨m+1,τ,Reg2,E2,q2,sv6,cv6,dv6,by omega,by omega,by go_num,HF⟩
       case measure=>simp [intOf]; omega
     have k0:((kk:Int) == 0)=false:=zB7.2 qH1;have k2:decide ((kk:Int)<=2)=false:=zA7 qH1;rw [b0] at k0;rw [b2] at k2;subst k0;subst k2;have b5:decide ((kk:Int)<=5)=false:=zA7 qH1
     by_cases k13:kk=13
     ·have HASK:Hid (∀ U:World,Calls Tryz.prog 17 #[.pointer (some ⟨b,0,none⟩),.int .i64 kk,.int .i64 kc] U fun e w'=>e=.returned (.tuple #[.agg #[.int .i64 4,.int .i64 0,.string ⟨#[47,108]⟩,.string ⟨#[]⟩,.int .i64 (-1),.int .i64 0],.bool false])/\Below U.heap.size U w'):=zA0 (fun U=>by rw [k13]; exact ask_no b kc U)
      clear k5 k13;go_wp2_with ((go_at_call 17; (with_reducible refine (HASK.out _).mono ?_); rintro e w3 ⟨rfl,hb3⟩; obtain ⟨ext3,d3,rfl⟩:=zA2 _ hb3; clear hb3));go_roundw
      case rel=>exact ⟨m+1,σ,Reg,E,q,sv,cv,dv,by omega,by omega,by go_num,zA0 ⟨hx.out.1,hx.out.2.below (zB8 HB1.out zR)⟩⟩
      case measure=>simp [intOf]; omega
     have k13:(kk:Int)≠13:=qCE;clear k5;have HASK:=zA0 (fun (U:World)=>ask_yes b kk kc k13 U)
     unfold rqV lnB at HASK;clear k13;go_upto_region 19 with ((go_at_call 17; (with_reducible refine (HASK.out _).mono ?_); rintro e w3 ⟨fl,hf,rfl,hb3⟩; have HF0:=zA0 hf; have HB3:=zA0 hb3; clear hf hb3))
     have HX3:=zA0 (HX1.out.below HB3.out);have hw31:=HB3.out.size;have z3:=(HB3.out.cell (p:=⟨bk,off+m,none⟩) qv0).trans z0;have HB13:=zA0 (HB1.out.trans (HB3.out.mono HB1.out.size));refine Jax (fun W4 hW4=>?_)
     have hB4:Below w3.heap.size w3 W4:=qeE;have HX4:=zA0 (HX3.out.below hB4);have z4:=(hB4.cell (p:=⟨bk,off+m,none⟩) qv0).trans z3;have HR4:=zA0 (show Bk W4 w3.heap.size [.int .i64 3,.int .i64 0,.string ⟨#[47,108,47,110]⟩,.string ⟨#[]⟩,.int .i64 0,.int .i64 fl] 27 by rw [hW4.out]; exact Bk.new _ _ _ rfl)
     have HB4:=zA0 (HB13.out.trans (hB4.mono HB13.out.size));have hlt3:=HX3.out.lt;clear hW4 hB4 HASK HX3 z0 z3;obtain ⟨r0,r1,r2,r3,r4,r5⟩:=cells6 HR4.out;have hlr:w3.heap.size<W4.heap.size:=HR4.out.lt;have uf:∀ j,W4.frozen? ⟨W0.heap.size,j,none⟩=false:=fun j=>HX4.out.frozen j
     have hlx:W0.heap.size<W4.heap.size:=HX4.out.lt;clear t0 t1 t2 t3 t4 t5 t6 t7 t8 t9 t10 t11 t12;obtain ⟨u0,u1,u2,u3,u4,u5,u6,u7,u8,u9,u10,u11,u12⟩:=JgX HX4.out;go_region;refine Ja3 (fun W6 hW6=>?_)
     have HB6:=zA0 (show Below wr.heap.size wr W6 by rw [hW6.out]; have hb:=HB4.out; exact zR)
     have HX6:=zA0 (show Bk W6 W0.heap.size (dL 1 kc ks 3 lnB fl 0 0 0) 29 by rw [hW6.out]; exact Bk.below (((((((HX4.out.put 0 _).put 3 _).put 4 _).put 5 _).put 6 _).put 7 _).put 8 _) zR)
     have k0:W6.cell? ⟨bk,off+m,none⟩=some (.int .i64 y):=by rw [hW6.out]; go_simp
     clear hW6 z4 vf uf u0 u1 u2 u3 u4 u5 u6 u7 u8 u9 u10 u11 u12 r0 r1 r2 r3 r4 r5;have hs6:=HX6.out.lt
     by_cases k14:14<=kk
     ·have b14:decide ((14:Int)<=(kk:Int))=true:=zB0 qH1
      have HP5:=zA0 (fun (U:World)=>pick_8 (IntKind.i64.wrap (y.tdiv 192)) U)
      have HP6:=zA0 (fun (U:World)=>pick_8 (IntKind.i64.wrap (y.tdiv 1536)) U)
      generalize Jdw (IntKind.i64.wrap (y.tdiv 192)) 8=p5 at *;generalize Jdw (IntKind.i64.wrap (y.tdiv 1536)) 8=p6 at *;clear k14;go_upto_region 21 with fail
      refine wp_region_noPanic ?_;refine zD8 qE1 (fun W hW=>?_)
      have cl0:W.cell? ⟨bk,off+m,none⟩=some (.int .i64 y):=qAE;have hWs1:W.heap.size=W6.heap.size:=qWE;have hW1W:Below W6.heap.size W6 W:=qIE;have hbW:bk<W.heap.size:=qCE;have hxW:W0.heap.size<W.heap.size:=qCE;have hne1:¬ W0.heap.size=bk:=qCE;have hne2:¬ bk=W0.heap.size:=qCE;have HXW:=zA0 (HX6.out.below hW1W);have e9:W.cell? ⟨W0.heap.size,9,none⟩=some (.int .i64 0):=HXW.out.cell 9;have e10:W.cell? ⟨W0.heap.size,10,none⟩=some (.int .i64 0):=HXW.out.cell 10;have uW:∀ j,W.frozen? ⟨W0.heap.size,j,none⟩=false:=fun j=>HXW.out.frozen j
      refine JaD (fun w'=>w'.cell? ⟨bk,off+m,none⟩=some (.int .i64 y)) (fun i=>i == 15) (by (try dsimp only); go_simp) (fun hHeld=>?_)
      refine tpP 0 ?_;refine tpP 1 ?_;refine tpP 2 ?_;refine tpA 3 ?_;refine tpP 4 ?_;refine tpP 6 ?_;refine tpP 7 ?_;refine tpP 8 ?_;refine tpA 9 ?_;refine tpP 10 ?_;refine zB1 (rs:=[5]) qE1 qI1 ?_;refine zB4 qQ0 (fun K hK=>?_) zB2
      go_simp
      (go_at_call 22; (with_reducible refine (HP5.out _).mono ?_); rintro e w8 ⟨rfl,rfl⟩)
      refine hK.out _ _ ?gT1_11 (fun hHeld=>?_)
      case gT1_11=>((try dsimp only); go_simp)
      clear hK K
      try simp only [Act.put,zA6,zA4,zA5]
      refine tpP 12 ?_;refine zB1 (rs:=[11]) qE1 qI1 ?_;refine zB4 qQ0 (fun K hK=>?_) zB2
      go_simp
      (go_at_call 22; (with_reducible refine (HP6.out _).mono ?_); rintro e w9 ⟨rfl,rfl⟩)
      refine hK.out _ _ ?gT1_13 (fun hHeld=>?_)
      case gT1_13=>((try dsimp only); go_simp)
      clear hK K
      try simp only [Act.put,zA6,zA4,zA5]
      refine zB1 (rs:=[13]) qE1 qI1 ?_;refine zB4 qQ0 (fun K hK=>?_) zB2
      go_simp;refine hK.out _ _ ?gT1_14 (fun hHeld=>?_)
      case gT1_14=>((try dsimp only); go_simp)
      clear hK K
      try simp only [Act.put,zA6,zA4,zA5]
      refine tpP 14 ?_;refine zB1 (rs:=[15]) qE1 qI1 ?_;refine zC8 qQ0 qE1 (fun K hK=>?_) zB2
      go_simp;refine hK.out _ _ ?_;clear hK K
      try simp only [Act.put,zA6,zA4,zA5]
      refine zC4 qE1 ?_ _;refine NoPanic.normal ?_;refine Ja3 (fun W5 hW5=>?_)
      have HB5:=zA0 (show Below wr.heap.size wr W5 by rw [hW5.out]; have hb:=HB6.out.trans (hW1W.mono HB6.out.size); exact zR)
      have HX5:=zA0 (show Bk W5 W0.heap.size (dL 1 kc ks 3 lnB fl p5 p6 0) 29 by rw [hW5.out]; exact (HXW.out.put 9 _).put 10 _)
      clear hW5 e9 e10 uW HXW;go_upto_region 28 with fail
      have HDO:=zA0 (GeI.turn hx.out hbs HGT.out ⟨1,kc,ks,3,0,lnB,⟨#[]⟩,0,fl,p5,p6,0,false⟩ (show ¬ (1:Int)=2 by decide) (fun _=>⟨rfl,HF0.out,rfl⟩) hpz1 HB5.out)
      obtain ⟨y0,y1,y2,y3,y4,y5,y6,y7,y8,y9,y10,y11,y12⟩:=JgX HX5.out;have hlt5:=(HX5.out).lt;clear HX1;go_wp2_with (first | ((go_at_call 38; (with_reducible refine (HDO.out).mono ?_); rintro e w6 ⟨v6,rfl,hl⟩; have HLO:=zA0 hl; clear hl)) | ((go_at_call 18; (with_reducible refine (HLO.out).mono ?_); rintro e w7 ⟨rfl,τ,Reg2,E2,q2,sv6,cv6,dv6,hF⟩; have HF:=zA0 hF; clear hF)));go_roundw
      case rel=>exact ⟨m+1,τ,Reg2,E2,q2,sv6,cv6,dv6,by omega,by omega,by go_num,HF⟩
      case measure=>simp [intOf]; omega
     ·have b14:decide ((14:Int)<=(kk:Int))=false:=zA7 qH1
      clear k14 k0;go_upto_region 28 with fail
      have HDO:=zA0 (GeI.turn hx.out hbs HGT.out ⟨1,kc,ks,3,0,lnB,⟨#[]⟩,0,fl,0,0,0,false⟩ (show ¬ (1:Int)=2 by decide) (fun _=>⟨rfl,HF0.out,rfl⟩) hpz1 HB6.out)
      obtain ⟨y0,y1,y2,y3,y4,y5,y6,y7,y8,y9,y10,y11,y12⟩:=JgX HX6.out;have hlt5:=(HX6.out).lt;clear HX1;go_wp2_with (first | ((go_at_call 38; (with_reducible refine (HDO.out).mono ?_); rintro e w6 ⟨v6,rfl,hl⟩; have HLO:=zA0 hl; clear hl)) | ((go_at_call 18; (with_reducible refine (HLO.out).mono ?_); rintro e w7 ⟨rfl,τ,Reg2,E2,q2,sv6,cv6,dv6,hF⟩; have HF:=zA0 hF; clear hF)));go_roundw
      case rel=>exact ⟨m+1,τ,Reg2,E2,q2,sv6,cv6,dv6,by omega,by omega,by go_num,HF⟩
      case measure=>simp [intOf]; omega
    ·by_cases hlt1:m<l.length
     ·have hb1:decide ((m:Int)<(l.length:Int))=true:=zB0 qH1
      have hb2:decide ((m:Int)<100)=false:=zA7 qH1;clear hlt hlt1;go_wp2_with fail
      all_goals exact zA1 (v:=.bool true) (by simp [results,Tryz.results16,go_sem]) rfl ⟨rfl,hx.out.2.keep⟩
     ·have hb1:decide ((m:Int)<(l.length:Int))=false:=zA7 qH1
      have hn1:decide (m<l.length)=false:=zA7 hlt1;clear hlt;go_wp2_with fail
      all_goals exact zA1 (v:=.bool true) (by simp [results,Tryz.results16,go_sem]) rfl ⟨rfl,hx.out.2.keep⟩
theorem Jma {W : World} {x y z u : String × DataW Unit} (h : laidMet Tryz.prog [x, y, ("internal/strconv.uint64pow10", Rows.laid_internal_strconv_uint64pow10), z, u] W) : Lib.TabIs Tryz.prog W "internal/strconv.uint64pow10" .u64 Lib.pow10Tab := by
 rw [pow_data] at h;obtain ⟨ps,⟨g0,t0,cs0,f0,p0,q0,_,_,_,_,⟨g1,t1,cs1,f1,p1,q1,_,_,_,_,⟨g2,t2,cs2,f2,p2,q2,hg2,ht2,hv2,hd2,_,_⟩,_⟩,_⟩,_⟩:=h;obtain rfl:=Option.some.inj (pow_global.symm.trans hg2);obtain rfl:=Option.some.inj ((show (Tryz.prog.globals[3]?).map (·.type)=some 267 by kernel_rfl).symm.trans ht2)
 unfold Lib.TabIs;rw [hv2,<-Lib.cells_of_tab (n:=20) (e:=261) Tryz.underlying267 Tryz.underlying261 qE1 qE1 hd2]
theorem tabB_of {W : World} (h : Lib.TabIs Tryz.prog W "internal/strconv.uint64pow10" .u64 Lib.pow10Tab) : TabB W.heap.size W := ⟨⟨h, _, pow_global⟩, fun g hg => by
 by_cases hlt:g<W.heap.size
 ·exact hlt
 ·exfalso
  unfold Lib.TabIs World.var? at h;rw [hg] at h;simp only [Option.bind_some] at h;rw [zL3 qH1] at h;cases h⟩
theorem TabB.up {b b':Nat} {w:World} (h:TabB b w) (hb:b<=b'):TabB b' w:=⟨h.1,fun g hg=>zD0 (h.2 g hg) hb⟩
theorem TabB.new {w w':World} (h:TabB w.heap.size w) (hb:Below w.heap.size w w'):TabB w'.heap.size w':=(h.low hb).up hb.size
theorem Sl.apart {α:Type} {f:α->List Value} {s:Nat} {w w':World} {v:Value} {l:List α} (h:Sl f s w v l) (hb:Below w.heap.size w w') {p:Nat->Prop} (hp:∀ q,p q->w.heap.size<=q):SlA p f s w' v l:=
 ((show SlA (fun _=>False) f s w v l from ⟨h,.inr (fun _ e=>e.elim)⟩).more (p':=p) (fun q e=>.inr (hp q e))).below hb
end
end Go.Proofs.YtjnooagaghdkdaaGreatDoor
