/-L-/
import Derived.Test.YtjnooagaghdkdaaGreatDoorZ43
set_option maxHeartbeats 10000000
set_option maxRecDepth 100000
set_option linter.all false
namespace Go.Proofs.YtjnooagaghdkdaaGreatDoor
section
open Go.RowKit Go.ChangeShapes Go.WideShapes Go.ChangeAt
theorem JeV {a b:Int} (h:a≠b):(a == b)=false:=zB7.2 h
theorem wDo (p0:Nat->Prop) (b:Nat) (w:World) (σ:Wd) (sv:Nat->SrvV) (cv:Nat->ClV) (dv:Value) (Reg:List Txn) (E:Int) (h:WIn p0 b w σ sv cv dv) (hp0:∀ q,p0 q->q<w.heap.size) (hI:Inv Reg E σ.deeds σ) (ht:TabB b w) (d:Deed) (hpz:d.path.size<=4611686018427387904) :
  Calls Tryz.prog 38 #[.pointer (some ⟨b,0,none⟩),JoL d] w (DoRes p0 b dv (doW σ d).1 (doW σ d).2 w):=by
 have hltb:b<w.heap.size:=h.lt;have H:=zA0 (h.more (p1:=fun q=>(fun q=>p0 q\/q=w.heap.size) q\/q=w.heap.size+1) (fun q e=>by
  rcases e with (e | e) | e
  ·exact .inl e
  ·exact .inr qH1
  ·exact .inr qH1))
 have HP0:=zA0 hp0;have HI:=zA0 hI;have HT:=zA0 ht;clear h hp0 hI ht;go_enter Tryz.func38,Tryz.ntmps38
 go_upto_region 1 with fail
 refine Jax (fun W0 hW0=>?_)
 have hB0:Below w.heap.size w W0:=qaE;have H0:=zA0 (H.out.below hB0);have HD0:=zA0 (show Bk W0 w.heap.size [.int .i64 d.kind,.int .i64 d.client,.int .i64 d.server,.int .i64 d.op,.int .i64 d.session,.string d.path,.string d.data,.int .i64 d.version,.int .i64 d.flags,.int .i64 d.lost,.int .i64 d.slow,.int .i64 d.keep,.bool d.watch] 29 by rw [hW0.out]; exact Bk.below (Bk.new _ _ _ rfl) zR)
 have HR0:=zA0 (show Bk W0 (w.heap.size+1) rpZ 35 by rw [hW0.out]; exact Bk.new _ _ _ qI1)
 have HB0:=zA0 hB0;clear hW0 H hB0;have e83:W0.cell? ⟨b,83,none⟩=some (.int .i64 (σ.deeds:Int)):=H0.out.restAt (j:=5) rfl;have hlt0:b<W0.heap.size:=H0.out.lt
 by_cases hf:300<=σ.deeds
 ·have HQ:=zA0 (show doW σ d=(σ,rp 6) from if_pos hf)
  have hbt:decide ((300:Int)<=(σ.deeds:Int))=true:=zB0 qH1;clear hf;have hff:∀ j,W0.frozen? ⟨w.heap.size+1,j,none⟩=false:=fun j=>HR0.out.frozen j
  obtain ⟨q0,q1,q2,q3,q4,q5,q6,q7,q8,q9,q10,q11⟩:=zD4 HR0.out;go_wp2_with fail;refine zA1 (v:=rpV (rp 6) none 0) (by simp [results,Tryz.results38,go_sem,q0,q1,q2,q3,q4,q5,q6,q7,q8,q9,q10,q11]) rfl ?_
  rw [HQ.out];exact DoRes.sub (WIn.reply H0.out (zC6 _) (zC3 HB0.out) (.inl rfl) (rp 6) none 0 (SlA.nil _ _ _ _) (zD2 _ _ _ _ _ _ _ _ _ _ _ _ _ _)) (fun q e=>.inl e)
 ·have hbt:decide ((300:Int)<=(σ.deeds:Int))=false:=zA7 qH1
  have hK:σ.deeds+1<=300:=qCE;have hIτ:=zA0 (HI.out.deeds (σ.deeds+1));have hfb:∀ j,W0.frozen? ⟨b,j,none⟩=false:=fun j=>H0.out.frozen j
  go_upto_region 6 with fail
  refine Jax (fun W1 hW1=>?_)
  have hG1:W0.grownBy W1 (some b):=hW1.out▸zD9 _ _ _ _;have H1:=zA0 (show WIn _ b W1 { σ with deeds:=σ.deeds+1 } sv cv dv from hW1.out▸H0.out.putRest (j:=5) qG1 (.int .i64 ((σ.deeds:Int)+1)) (τ:={ σ with deeds:=σ.deeds+1 }) rfl rfl rfl H0.out.f3 (by unfold Jkt; simp [Wd.f]))
  have HD1:=zA0 (HD0.out.grown hG1 (fun e=>by injection e with e; omega))
  have HR1:=zA0 (HR0.out.grown hG1 (fun e=>by injection e with e; omega))
  have hK1:=zA0 ((zC3 HB0.out (p:=fun q=>q=b\/dv.ownBlock=some q\/w.heap.size<=q)).trans (zE8 (p:=fun q=>q=b) hG1 (fun q e=>by injection e with e; exact e.symm)) (fun _ _ e=>.inl e))
  have HT1:=zA0 (HT.out.low (show Below b w W1 from (HB0.out.mono (zG5 hltb)).trans ((zE8 (p:=fun q=>q=b) hG1 (fun q e=>by injection e with e; exact e.symm)).low (zG5 hlt0) (fun k e=>zH1 e.symm))))
  have hlo1:=zA0 (show ∀ q,((fun q=>p0 q\/q=w.heap.size) q\/q=w.heap.size+1)->q<W1.heap.size from fun q hq=>by
   have h1:=HR1.out.lt;rcases hq with (hq | hq) | hq
   ·have:=HP0.out q hq; omega
   ·omega
   ·omega)
  have HNE:=zA0 (show ¬ (w.heap.size+1=b\/dv.ownBlock=some (w.heap.size+1)) from by
   rintro (e | e)
   ·omega
   ·exact H1.out.dp (w.heap.size+1) (.inr rfl) e)
  have HSZ:=zA0 (fun (i:Nat) (hi:i<3)=>(hIτ.out.toInv0.sized hi))
  clear hW1 hG1 H0 HD0 HR0 HB0 e83 hfb hbt hlt0 HT HI HP0;have x0:W1.cell? ⟨w.heap.size,0,none⟩=some (.int .i64 d.kind):=HD1.out.cell 0;have x1:W1.cell? ⟨w.heap.size,1,none⟩=some (.int .i64 d.client):=HD1.out.cell 1;have x2:W1.cell? ⟨w.heap.size,2,none⟩=some (.int .i64 d.server):=HD1.out.cell 2;have x3:W1.cell? ⟨w.heap.size,3,none⟩=some (.int .i64 d.op):=HD1.out.cell 3;have x4:W1.cell? ⟨w.heap.size,4,none⟩=some (.int .i64 d.session):=HD1.out.cell 4;have x5:W1.cell? ⟨w.heap.size,5,none⟩=some (.string d.path):=HD1.out.cell 5;have x6:W1.cell? ⟨w.heap.size,6,none⟩=some (.string d.data):=HD1.out.cell 6;have x7:W1.cell? ⟨w.heap.size,7,none⟩=some (.int .i64 d.version):=HD1.out.cell 7;have x8:W1.cell? ⟨w.heap.size,8,none⟩=some (.int .i64 d.flags):=HD1.out.cell 8;have x9:W1.cell? ⟨w.heap.size,9,none⟩=some (.int .i64 d.lost):=HD1.out.cell 9;have x10:W1.cell? ⟨w.heap.size,10,none⟩=some (.int .i64 d.slow):=HD1.out.cell 10;have x11:W1.cell? ⟨w.heap.size,11,none⟩=some (.int .i64 d.keep):=HD1.out.cell 11;have x12:W1.cell? ⟨w.heap.size,12,none⟩=some (.bool d.watch):=HD1.out.cell 12;have HE:Hid (doW σ d=if d.kind=1 then Jbg { σ with deeds:=σ.deeds+1 } d else if d.kind=2 then JcY { σ with deeds:=σ.deeds+1 } d else if d.kind=5 then Ja7 { σ with deeds:=σ.deeds+1 } else if d.kind=3\/d.kind=4 then (if d.server<0\/3<=d.server then ({ σ with deeds:=σ.deeds+1 },rp 3) else if d.kind=4 then upW { σ with deeds:=σ.deeds+1 } d.server.toNat else JbI { σ with deeds:=σ.deeds+1 } d.server.toNat d.keep) else ({ σ with deeds:=σ.deeds+1 },rp 4)):=zA0 (if_neg hf)
  clear hf;generalize hτ:({ σ with deeds:=σ.deeds+1 }:Wd)=τ at *
  clear hτ
  by_cases k1:d.kind=1
  ·have HQ:=zA0 (HE.out.trans (if_pos k1))
   have b1:(d.kind == 1)=true:=zH0.2 k1;clear HE k1;have HC:=zA0 (wWrite _ b W1 τ sv cv dv Reg E σ.deeds H1.out hlo1.out hIτ.out hK d hpz);unfold DoRes at HC;generalize Jbg τ d=CW at *;obtain ⟨υ,rr⟩:=CW;obtain ⟨rc,rz,rpa,rda,⟨s1,s2,s3,s4,s5,s6,s7⟩,rns⟩:=rr;simp only at HC;go_wp2_with ((go_at_call 50; (with_reducible refine (HC.out).mono ?_); rintro e w5 ⟨sv5,cv5,dv5,A5,c5,rfl,hin5,hsn5,hk5,hmv5⟩; have HR5:=zA0 (HR1.out.keeps hk5 HNE.out); have hff:∀ j,w5.frozen? ⟨w.heap.size+1,j,none⟩=false:=fun j=>HR5.out.frozen j; obtain ⟨q0,q1,q2,q3,q4,q5,q6,q7,q8,q9,q10,q11⟩:=zD4 HR5.out; have H5:=zA0 hin5; have HS5:=zA0 hsn5; have HK5:=zA0 hk5; have HM5:=zA0 hmv5; clear hin5 hsn5 hk5 hmv5))
   refine zA1 (v:=rpV ⟨rc,rz,rpa,rda,⟨s1,s2,s3,s4,s5,s6,s7⟩,rns⟩ A5 c5) (by simp [results,Tryz.results38,go_sem,q0,q1,q2,q3,q4,q5,q6,q7,q8,q9,q10,q11]) rfl ?_
   rw [HQ.out];refine DoRes.sub (WIn.reply H5.out (zC6 _) (hK1.out.trans HK5.out (fun q _ e=>e.elim .inl (fun e=>.inr (.inl e)))) ?_ ⟨rc,rz,rpa,rda,⟨s1,s2,s3,s4,s5,s6,s7⟩,rns⟩ A5 c5 HS5.out (zD2 _ _ _ _ _ _ _ _ _ _ _ _ _ _)) (fun q e=>.inl e)
   exact HM5.out.imp id (fun ⟨q,e1,e2⟩=>⟨q,e1,zB5 hK1.out.size e2⟩)
  have HE1:=zA0 (HE.out.trans (if_neg k1));have b1:=JeV k1
  by_cases k2:d.kind=2
  ·have HQ:=zA0 (HE1.out.trans (if_pos k2))
   have b2:(d.kind == 2)=true:=zH0.2 k2;clear HE HE1 k1 k2;have HC:=zA0 (wRead _ b W1 τ sv cv dv Reg E σ.deeds H1.out hlo1.out hIτ.out.toInv0 d qH1);unfold DoRes at HC;generalize JcY τ d=CW at *;obtain ⟨υ,rr⟩:=CW;obtain ⟨rc,rz,rpa,rda,⟨s1,s2,s3,s4,s5,s6,s7⟩,rns⟩:=rr;simp only at HC;go_wp2_with ((go_at_call 51; (with_reducible refine (HC.out).mono ?_); rintro e w5 ⟨sv5,cv5,dv5,A5,c5,rfl,hin5,hsn5,hk5,hmv5⟩; have HR5:=zA0 (HR1.out.keeps hk5 HNE.out); have hff:∀ j,w5.frozen? ⟨w.heap.size+1,j,none⟩=false:=fun j=>HR5.out.frozen j; obtain ⟨q0,q1,q2,q3,q4,q5,q6,q7,q8,q9,q10,q11⟩:=zD4 HR5.out; have H5:=zA0 hin5; have HS5:=zA0 hsn5; have HK5:=zA0 hk5; have HM5:=zA0 hmv5; clear hin5 hsn5 hk5 hmv5))
   refine zA1 (v:=rpV ⟨rc,rz,rpa,rda,⟨s1,s2,s3,s4,s5,s6,s7⟩,rns⟩ A5 c5) (by simp [results,Tryz.results38,go_sem,q0,q1,q2,q3,q4,q5,q6,q7,q8,q9,q10,q11]) rfl ?_
   rw [HQ.out];refine DoRes.sub (WIn.reply H5.out (zC6 _) (hK1.out.trans HK5.out (fun q _ e=>e.elim .inl (fun e=>.inr (.inl e)))) ?_ ⟨rc,rz,rpa,rda,⟨s1,s2,s3,s4,s5,s6,s7⟩,rns⟩ A5 c5 HS5.out (zD2 _ _ _ _ _ _ _ _ _ _ _ _ _ _)) (fun q e=>.inl e)
   exact HM5.out.imp id (fun ⟨q,e1,e2⟩=>⟨q,e1,zB5 hK1.out.size e2⟩)
  have HE2:=zA0 (HE1.out.trans (if_neg k2));have b2:=JeV k2
  by_cases k5:d.kind=5
  ·have HQ:=zA0 (HE2.out.trans (if_pos k5))
   have b5:(d.kind == 5)=true:=zH0.2 k5;clear HE HE1 HE2 k1 k2 k5;have HC:=zA0 (wElect _ b W1 τ sv cv dv Reg E σ.deeds H1.out hlo1.out hIτ.out hK HT1.out);unfold DoRes at HC;generalize Ja7 τ=CW at *;obtain ⟨υ,rr⟩:=CW;obtain ⟨rc,rz,rpa,rda,⟨s1,s2,s3,s4,s5,s6,s7⟩,rns⟩:=rr;simp only at HC;go_wp2_with ((go_at_call 52; (with_reducible refine (HC.out).mono ?_); rintro e w5 ⟨sv5,cv5,dv5,A5,c5,rfl,hin5,hsn5,hk5,hmv5⟩; have HR5:=zA0 (HR1.out.keeps hk5 HNE.out); have hff:∀ j,w5.frozen? ⟨w.heap.size+1,j,none⟩=false:=fun j=>HR5.out.frozen j; obtain ⟨q0,q1,q2,q3,q4,q5,q6,q7,q8,q9,q10,q11⟩:=zD4 HR5.out; have H5:=zA0 hin5; have HS5:=zA0 hsn5; have HK5:=zA0 hk5; have HM5:=zA0 hmv5; clear hin5 hsn5 hk5 hmv5))
   refine zA1 (v:=rpV ⟨rc,rz,rpa,rda,⟨s1,s2,s3,s4,s5,s6,s7⟩,rns⟩ A5 c5) (by simp [results,Tryz.results38,go_sem,q0,q1,q2,q3,q4,q5,q6,q7,q8,q9,q10,q11]) rfl ?_
   rw [HQ.out];refine DoRes.sub (WIn.reply H5.out (zC6 _) (hK1.out.trans HK5.out (fun q _ e=>e.elim .inl (fun e=>.inr (.inl e)))) ?_ ⟨rc,rz,rpa,rda,⟨s1,s2,s3,s4,s5,s6,s7⟩,rns⟩ A5 c5 HS5.out (zD2 _ _ _ _ _ _ _ _ _ _ _ _ _ _)) (fun q e=>.inl e)
   exact HM5.out.imp id (fun ⟨q,e1,e2⟩=>⟨q,e1,zB5 hK1.out.size e2⟩)
  have HE5:=zA0 (HE2.out.trans (if_neg k5));have b5:=JeV k5
  by_cases k34:d.kind=3\/d.kind=4
  ·have HE6:=zA0 (HE5.out.trans (if_pos k34))
   clear HE HE1 HE2 HE5 k1 k2 k5
   by_cases hs:d.server<0\/3<=d.server
   ·have HQ:=zA0 (HE6.out.trans (if_pos hs))
    clear HE6;rcases hs with hs | hs
    ·have hb1:decide (d.server<0)=true:=zB0 hs
     rcases k34 with k3 | k4
     ·have b3:(d.kind == 3)=true:=zH0.2 k3
      clear k3 hs;have hff:∀ j,W1.frozen? ⟨w.heap.size+1,j,none⟩=false:=fun j=>HR1.out.frozen j
      obtain ⟨q0,q1,q2,q3,q4,q5,q6,q7,q8,q9,q10,q11⟩:=zD4 HR1.out;go_wp2_with fail;refine zA1 (v:=rpV (rp 3) none 0) (by simp [results,Tryz.results38,go_sem,q0,q1,q2,q3,q4,q5,q6,q7,q8,q9,q10,q11]) rfl ?_
      rw [HQ.out];exact DoRes.sub (WIn.reply H1.out (zC6 _) hK1.out (.inl rfl) (rp 3) none 0 (SlA.nil _ _ _ _) (zD2 _ _ _ _ _ _ _ _ _ _ _ _ _ _)) (fun q e=>.inl e)
     ·have b3:(d.kind == 3)=false:=JeV qH1
      have b4:(d.kind == 4)=true:=zH0.2 k4;clear k4 hs;have hff:∀ j,W1.frozen? ⟨w.heap.size+1,j,none⟩=false:=fun j=>HR1.out.frozen j
      obtain ⟨q0,q1,q2,q3,q4,q5,q6,q7,q8,q9,q10,q11⟩:=zD4 HR1.out;go_wp2_with fail;refine zA1 (v:=rpV (rp 3) none 0) (by simp [results,Tryz.results38,go_sem,q0,q1,q2,q3,q4,q5,q6,q7,q8,q9,q10,q11]) rfl ?_
      rw [HQ.out];exact DoRes.sub (WIn.reply H1.out (zC6 _) hK1.out (.inl rfl) (rp 3) none 0 (SlA.nil _ _ _ _) (zD2 _ _ _ _ _ _ _ _ _ _ _ _ _ _)) (fun q e=>.inl e)
    ·have hb0:decide (d.server<0)=false:=zA7 qH1
     have hb1:decide (3<=d.server)=true:=zB0 hs;rcases k34 with k3 | k4
     ·have b3:(d.kind == 3)=true:=zH0.2 k3
      clear k3 hs;have hff:∀ j,W1.frozen? ⟨w.heap.size+1,j,none⟩=false:=fun j=>HR1.out.frozen j
      obtain ⟨q0,q1,q2,q3,q4,q5,q6,q7,q8,q9,q10,q11⟩:=zD4 HR1.out;go_wp2_with fail;refine zA1 (v:=rpV (rp 3) none 0) (by simp [results,Tryz.results38,go_sem,q0,q1,q2,q3,q4,q5,q6,q7,q8,q9,q10,q11]) rfl ?_
      rw [HQ.out];exact DoRes.sub (WIn.reply H1.out (zC6 _) hK1.out (.inl rfl) (rp 3) none 0 (SlA.nil _ _ _ _) (zD2 _ _ _ _ _ _ _ _ _ _ _ _ _ _)) (fun q e=>.inl e)
     ·have b3:(d.kind == 3)=false:=JeV qH1
      have b4:(d.kind == 4)=true:=zH0.2 k4;clear k4 hs;have hff:∀ j,W1.frozen? ⟨w.heap.size+1,j,none⟩=false:=fun j=>HR1.out.frozen j
      obtain ⟨q0,q1,q2,q3,q4,q5,q6,q7,q8,q9,q10,q11⟩:=zD4 HR1.out;go_wp2_with fail;refine zA1 (v:=rpV (rp 3) none 0) (by simp [results,Tryz.results38,go_sem,q0,q1,q2,q3,q4,q5,q6,q7,q8,q9,q10,q11]) rfl ?_
      rw [HQ.out];exact DoRes.sub (WIn.reply H1.out (zC6 _) hK1.out (.inl rfl) (rp 3) none 0 (SlA.nil _ _ _ _) (zD2 _ _ _ _ _ _ _ _ _ _ _ _ _ _)) (fun q e=>.inl e)
   ·have HE7:=zA0 (HE6.out.trans (if_neg hs))
    clear HE6;obtain ⟨i,hi,hie⟩:∃ i:Nat,i<3/\d.server=(i:Int):=⟨d.server.toNat,by omega,by omega⟩
    rw [hie] at HE7 x2;rw [zG9] at HE7;have hb0:decide ((i:Int)<0)=false:=zA7 qH1;have hb1:decide (3<=(i:Int))=false:=zA7 qH1;clear hs hie
    by_cases k4:d.kind=4
    ·have HQ:=zA0 (HE7.out.trans (if_pos k4))
     have b3:(d.kind == 3)=false:=JeV qH1;have b4:(d.kind == 4)=true:=zH0.2 k4;clear HE7 k4 k34;have HC:=zA0 (wUp _ b W1 τ sv cv dv H1.out hlo1.out i hi (HSZ.out i hi));unfold DoRes at HC;generalize upW τ i=CW at *;obtain ⟨υ,rr⟩:=CW;obtain ⟨rc,rz,rpa,rda,⟨s1,s2,s3,s4,s5,s6,s7⟩,rns⟩:=rr;simp only at HC;go_wp2_with ((go_at_call 53; (with_reducible refine (HC.out).mono ?_); rintro e w5 ⟨sv5,cv5,dv5,A5,c5,rfl,hin5,hsn5,hk5,hmv5⟩; have HR5:=zA0 (HR1.out.keeps hk5 HNE.out); have hff:∀ j,w5.frozen? ⟨w.heap.size+1,j,none⟩=false:=fun j=>HR5.out.frozen j; obtain ⟨q0,q1,q2,q3,q4,q5,q6,q7,q8,q9,q10,q11⟩:=zD4 HR5.out; have H5:=zA0 hin5; have HS5:=zA0 hsn5; have HK5:=zA0 hk5; have HM5:=zA0 hmv5; clear hin5 hsn5 hk5 hmv5))
     refine zA1 (v:=rpV ⟨rc,rz,rpa,rda,⟨s1,s2,s3,s4,s5,s6,s7⟩,rns⟩ A5 c5) (by simp [results,Tryz.results38,go_sem,q0,q1,q2,q3,q4,q5,q6,q7,q8,q9,q10,q11]) rfl ?_
     rw [HQ.out];refine DoRes.sub (WIn.reply H5.out (zC6 _) (hK1.out.trans HK5.out (fun q _ e=>e.elim .inl (fun e=>.inr (.inl e)))) ?_ ⟨rc,rz,rpa,rda,⟨s1,s2,s3,s4,s5,s6,s7⟩,rns⟩ A5 c5 HS5.out (zD2 _ _ _ _ _ _ _ _ _ _ _ _ _ _)) (fun q e=>.inl e)
     exact HM5.out.imp id (fun ⟨q,e1,e2⟩=>⟨q,e1,zB5 hK1.out.size e2⟩)
    ·have HQ:=zA0 (HE7.out.trans (if_neg k4))
     have b3:(d.kind == 3)=true:=zH0.2 qH1;have b4:(d.kind == 4)=false:=JeV k4;clear HE7 k4 k34;have HC:=zA0 (wCrash _ b W1 τ sv cv dv H1.out hlo1.out i hi d.keep (HSZ.out i hi));unfold DoRes at HC;generalize JbI τ i d.keep=CW at *;obtain ⟨υ,rr⟩:=CW;obtain ⟨rc,rz,rpa,rda,⟨s1,s2,s3,s4,s5,s6,s7⟩,rns⟩:=rr;simp only at HC;go_wp2_with ((go_at_call 54; (with_reducible refine (HC.out).mono ?_); rintro e w5 ⟨sv5,cv5,dv5,A5,c5,rfl,hin5,hsn5,hk5,hmv5⟩; have HR5:=zA0 (HR1.out.keeps hk5 HNE.out); have hff:∀ j,w5.frozen? ⟨w.heap.size+1,j,none⟩=false:=fun j=>HR5.out.frozen j; obtain ⟨q0,q1,q2,q3,q4,q5,q6,q7,q8,q9,q10,q11⟩:=zD4 HR5.out; have H5:=zA0 hin5; have HS5:=zA0 hsn5; have HK5:=zA0 hk5; have HM5:=zA0 hmv5; clear hin5 hsn5 hk5 hmv5))
     refine zA1 (v:=rpV ⟨rc,rz,rpa,rda,⟨s1,s2,s3,s4,s5,s6,s7⟩,rns⟩ A5 c5) (by simp [results,Tryz.results38,go_sem,q0,q1,q2,q3,q4,q5,q6,q7,q8,q9,q10,q11]) rfl ?_
     rw [HQ.out];refine DoRes.sub (WIn.reply H5.out (zC6 _) (hK1.out.trans HK5.out (fun q _ e=>e.elim .inl (fun e=>.inr (.inl e)))) ?_ ⟨rc,rz,rpa,rda,⟨s1,s2,s3,s4,s5,s6,s7⟩,rns⟩ A5 c5 HS5.out (zD2 _ _ _ _ _ _ _ _ _ _ _ _ _ _)) (fun q e=>.inl e)
     exact HM5.out.imp id (fun ⟨q,e1,e2⟩=>⟨q,e1,zB5 hK1.out.size e2⟩)
  ·have HQ:=zA0 (HE5.out.trans (if_neg k34))
   have b3:(d.kind == 3)=false:=JeV qH1;have b4:(d.kind == 4)=false:=JeV qH1;clear HE HE1 HE2 HE5 k1 k2 k5 k34;have hff:∀ j,W1.frozen? ⟨w.heap.size+1,j,none⟩=false:=fun j=>HR1.out.frozen j
   obtain ⟨q0,q1,q2,q3,q4,q5,q6,q7,q8,q9,q10,q11⟩:=zD4 HR1.out;go_wp2_with fail;refine zA1 (v:=rpV (rp 4) none 0) (by simp [results,Tryz.results38,go_sem,q0,q1,q2,q3,q4,q5,q6,q7,q8,q9,q10,q11]) rfl ?_
   rw [HQ.out];exact DoRes.sub (WIn.reply H1.out (zC6 _) hK1.out (.inl rfl) (rp 4) none 0 (SlA.nil _ _ _ _) (zD2 _ _ _ _ _ _ _ _ _ _ _ _ _ _)) (fun q e=>.inl e)
end
end Go.Proofs.YtjnooagaghdkdaaGreatDoor
