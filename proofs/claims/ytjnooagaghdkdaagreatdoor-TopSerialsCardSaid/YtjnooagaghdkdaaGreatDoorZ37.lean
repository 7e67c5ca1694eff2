/-L-/
import Derived.Test.YtjnooagaghdkdaaGreatDoorZ35
set_option maxHeartbeats 10000000
set_option maxRecDepth 100000
set_option linter.all false
namespace Go.Proofs.YtjnooagaghdkdaaGreatDoor
section
open Go.RowKit Go.ChangeShapes Go.WideShapes Go.ChangeAt
theorem JmV {p:Nat->Prop} {id:Int} {f:List File} {w:World} {fn:FuncId} {args:Array Value} (h:Calls Tryz.prog fn args w (Jpt p id f w)):Calls Tryz.prog fn args w (Jdu p (JbU id f) (Jg0 id f) w):=by
 refine h.mono fun e w' hh=>?_
 obtain ⟨s,c,hb,hr⟩:=hh;obtain ⟨e1,e2⟩:=Jiz hb;rw [e1,e2];exact hr
theorem wUp (p0:Nat->Prop) (b:Nat) (w:World) (σ:Wd) (sv:Nat->SrvV) (cv:Nat->ClV) (dv:Value) (h:WIn p0 b w σ sv cv dv) (hp0:∀ q,p0 q->q<w.heap.size) (i:Nat) (hi:i<3) (hz:∀ x∈(σ.s i).disk,x.sized) :
  Calls Tryz.prog 53 #[.pointer (some ⟨b,0,none⟩),.int .i64 (i:Int) ] w (DoRes p0 b dv (upW σ i).1 (upW σ i).2 w):=by
 have H:=zA0 (h.more (p1:=fun q=>p0 q\/q=w.heap.size) (fun q e=>e.imp id (fun e=>by omega)))
 have hlt:b<w.heap.size:=h.lt;have HC:=zA0 (fun (W:World) (hb:Below w.heap.size w W) (hW:w.heap.size<W.heap.size)=>JmV (JiX (pW (fun q=>p0 q\/q=w.heap.size) b dv) (i:Int) (.slice (sv i).da (σ.s i).disk.length (sv i).dc) (σ.s i).disk W ((H.out.srv i hi).disk.1.below hb) (fun q hq=>by
  rcases hq with (hq | hq) | hq | hq
  ·have:=hp0 q hq; omega
  ·omega
  ·omega
  ·have:=(h.dn.own_in hq).2; omega) hz qH1 qH1))
 have g0:(0:Int)<=(i:Int):=qCE;have g1:(i:Int)<3:=qCE;have hgb:w.heap.size≠b:=qCE;clear h hz hp0;go_enter Tryz.func53,Tryz.ntmps53
 go_upto_region 1 with fail
 refine Jax (fun W0 hW0=>?_)
 have hB0:Below w.heap.size w W0:=qaE;have hs0:w.heap.size<W0.heap.size:=by rw [hW0.out]; simp
 have HR0:=zA0 (show Bk W0 w.heap.size rpZ 35 by rw [hW0.out]; exact Bk.new _ _ _ rfl)
 have H0:=zA0 (H.out.below hB0);clear hW0 H;obtain ⟨c0,c1,c2,c3,c4,c5,c6,c7,c8,c9⟩:=H0.out.srvCells hi;have hlt0:b<W0.heap.size:=qCE;have hcr:Hid (upW σ i=if (σ.s i).up=true then (σ,rp 8) else if Jg0 (i:Int) (σ.s i).disk≠0 then (σ,rp (Jg0 (i:Int) (σ.s i).disk)) else ({ σ with srv:=σ.srv.set i (JbU (i:Int) (σ.s i).disk) },rp 0)):=zA0 rfl
 by_cases hu:(σ.s i).up=true
 ·have HQ:=zA0 (hcr.out.trans (if_pos hu))
  rw [hu] at c0;clear hcr HC;have hff:∀ j,W0.frozen? ⟨w.heap.size,j,none⟩=false:=fun j=>HR0.out.frozen j
  obtain ⟨q0,q1,q2,q3,q4,q5,q6,q7,q8,q9,q10,q11⟩:=zD4 HR0.out;go_wp2_with fail;refine zA1 (v:=rpV (rp 8) none 0) (by simp [results,Tryz.results53,go_sem,q0,q1,q2,q3,q4,q5,q6,q7,q8,q9,q10,q11]) rfl ?_
  rw [HQ.out];exact H0.out.reply (zA3 _) (zC3 hB0) (.inl rfl) (rp 8) none 0 (SlA.nil _ _ _ _) (zD2 _ _ _ _ _ _ _ _ _ _ _ _ _ _)
 have hu':(σ.s i).up=false:=by simpa using hu
 rw [hu'] at c0;unfold Jdu at HC
 by_cases hE:Jg0 (i:Int) (σ.s i).disk=0
 ·have HQ:=zA0 (hcr.out.trans (if_neg hu) |>.trans (if_neg (fun e=>e hE)))
  rw [hE] at HC;clear hcr hu hE hu';generalize JbU (i:Int) (σ.s i).disk=S at *;obtain ⟨xu,xd,xi,xe,xl,xn,xt,xo,xs,xw⟩:=S;go_upto_region 4 with ((go_at_call 35; refine (HC.out _ hB0 hs0).mono ?_; rintro e w1 ⟨⟨da,dc,la,lc,na,nc,sa,sc,wa,wc⟩,rfl,hin,hb⟩; obtain ⟨ext1,d1,rfl⟩:=zA2 _ hb; have HIN:=zA0 hin; clear hin hb))
  refine Jax (fun W1 hW1=>?_)
  have hB1:Below W0.heap.size W0 W1:=qNE;have d0:W1.cell? ⟨W0.heap.size+ext1.size,0,none⟩=some (.bool xu):=qDE;have d1:W1.cell? ⟨W0.heap.size+ext1.size,1,none⟩=some (.slice da xd.length dc):=qDE;have d2:W1.cell? ⟨W0.heap.size+ext1.size,2,none⟩=some (.int .i64 xi):=qDE;have d3:W1.cell? ⟨W0.heap.size+ext1.size,3,none⟩=some (.int .i64 xe):=qDE;have d4:W1.cell? ⟨W0.heap.size+ext1.size,4,none⟩=some (.slice la xl.length lc):=qDE;have d5:W1.cell? ⟨W0.heap.size+ext1.size,5,none⟩=some (.int .i64 xn):=qDE;have d6:W1.cell? ⟨W0.heap.size+ext1.size,6,none⟩=some (.int .i64 xt):=qDE;have d7:W1.cell? ⟨W0.heap.size+ext1.size,7,none⟩=some (.slice na xo.length nc):=qDE;have d8:W1.cell? ⟨W0.heap.size+ext1.size,8,none⟩=some (.slice sa xs.length sc):=qDE;have d9:W1.cell? ⟨W0.heap.size+ext1.size,9,none⟩=some (.slice wa xw.length wc):=qDE;have hg8:W0.heap.size+ext1.size<W1.heap.size:=by rw [hW1.out]; simp
  have hin1:=zA0 (HIN.out.below (show Below _ _ W1 by rw [hW1.out]; exact zR))
  have H1:=zA0 (H0.out.below hB1);have HR1:=zA0 (HR0.out.below hB1);have hbB1:=zA0 (zB8 hB0 hB1);clear hW1 HIN H0 HR0 HC c0 c1 c2 c3 c4 c5 c6 c7 c8 c9 hB0;obtain ⟨c0,c1,c2,c3,c4,c5,c6,c7,c8,c9⟩:=H1.out.srvCells hi;have hfb:∀ j,W1.frozen? ⟨b,j,none⟩=false:=fun j=>H1.out.frozen j
  have hlt1:b<W1.heap.size:=H1.out.lt;go_upto_region 6 with fail
  go_region;refine Ja3 (fun W2 hW2=>?_)
  obtain ⟨hp1,hp2⟩:=H1.out.putSrvC hi hin1.out;have H2:=zA0 (show WIn _ b W2 _ _ _ _ from hW2.out▸hp1.below (Below.drew (zB6 _ _)))
  have hG2:=zA0 (show W1.grownBy W2 (some b) from hW2.out▸hp2.trans (zH6 (Below.drew (zB6 _ _)) b))
  have HR2:=zA0 (HR1.out.grown hG2.out (fun e=>hgb qD1))
  have hK2:Hid (Keeps (fun q=>q=b\/dv.ownBlock=some q\/w.heap.size<=q) w W2):=zA0 ((zC3 hbB1.out (p:=fun q=>q=b)).trans (zE8 (p:=fun q=>q=b) hG2.out (fun q e=>by injection e with e; exact e.symm)) (fun _ _ e=>e) |>.more (fun k _ e=>.inl e))
  clear hW2 hp1 hp2 d0 d1 d2 d3 d4 d5 d6 d7 d8 d9 c0 c1 c2 c3 c4 c5 c6 c7 c8 c9 hfb H1 HR1 hin1 hG2 hbB1;have hff:∀ j,W2.frozen? ⟨w.heap.size,j,none⟩=false:=fun j=>HR2.out.frozen j
  obtain ⟨q0,q1,q2,q3,q4,q5,q6,q7,q8,q9,q10,q11⟩:=zD4 HR2.out;go_wp2_with fail;refine zA1 (v:=rpV (rp 0) none 0) (by simp [results,Tryz.results53,go_sem,q0,q1,q2,q3,q4,q5,q6,q7,q8,q9,q10,q11]) rfl ?_
  rw [HQ.out];exact H2.out.reply (zA3 _) hK2.out (.inl rfl) (rp 0) none 0 (SlA.nil _ _ _ _) (zD2 _ _ _ _ _ _ _ _ _ _ _ _ _ _)
 ·have HQ:=zA0 (hcr.out.trans (if_neg hu) |>.trans (if_pos hE))
  clear hcr hu hu';generalize Jg0 (i:Int) (σ.s i).disk=cd at *;generalize JbU (i:Int) (σ.s i).disk=S at *;have b8:(cd == 0)=false:=zB7.2 hE;have b9:(cd != 0)=true:=zC9.2 hE;go_upto_region 4 with ((go_at_call 35; refine (HC.out _ hB0 hs0).mono ?_; rintro e w1 ⟨⟨da,dc,la,lc,na,nc,sa,sc,wa,wc⟩,rfl,hin,hb⟩; obtain ⟨ext1,d1,rfl⟩:=zA2 _ hb; clear hin hb))
  refine Jax (fun W1 hW1=>?_)
  have hB1:Below W0.heap.size W0 W1:=qNE;have H1:=zA0 (H0.out.below hB1);have HR1:=zA0 (HR0.out.below hB1);have hbB1:=zA0 (zB8 hB0 hB1);clear hW1 H0 HR0 HC c0 c1 c2 c3 c4 c5 c6 c7 c8 c9 hB0;have hff:∀ j,W1.frozen? ⟨w.heap.size,j,none⟩=false:=fun j=>HR1.out.frozen j
  obtain ⟨q0,q1,q2,q3,q4,q5,q6,q7,q8,q9,q10,q11⟩:=zD4 HR1.out;go_wp2_with fail;refine zA1 (v:=rpV (rp cd) none 0) (by simp [results,Tryz.results53,go_sem,q0,q1,q2,q3,q4,q5,q6,q7,q8,q9,q10,q11]) rfl ?_
  rw [HQ.out];exact H1.out.reply (zA3 _) (zC3 hbB1.out) (.inl rfl) (rp cd) none 0 (SlA.nil _ _ _ _) (zD2 _ _ _ _ _ _ _ _ _ _ _ _ _ _)
def JhX (σ:Wd) (ns:List Note) (k:Nat):Wd:={ σ with cl:=(σ.cl.take k).map (Jf2 ns) ++ σ.cl.drop k }
theorem Jnq (σ:Wd) (ns:List Note) (h:σ.cl.length=16):JhX σ ns 16=Jb1 σ ns:=by
 unfold JhX Jb1;rw [<-h,zG1,zO8,zE9]
theorem tellK_at (σ:Wd) (ns:List Note) (h:σ.cl.length=16) {k:Nat} (hk:k<16):(JhX σ ns k).c k=σ.c k:=by
 unfold JhX Wd.c;simp only [zE6];rw [zI5 qB1,zG0,zC2,zF8 qH1,zI6,zF3,zH9]
theorem Jl9 (σ:Wd) (ns:List Note) (h:σ.cl.length=16) {k:Nat} (hk:k<16):{ JhX σ ns k with cl:=(JhX σ ns k).cl.set k (Jf2 ns (σ.c k)) }=JhX σ ns (k+1):=by
 unfold JhX;simp only;congr 1;have hl:((σ.cl.take k).map (Jf2 ns)).length=k:=qXE;rw [zM3 _ _ qH1,hl,zI6,zR4 qH1,zA4,List.take_succ_eq_append_getElem qH1,zK1,zC0];have:σ.c k=σ.cl[k]'qH1:=by
  unfold Wd.c;rw [zE6,zA8 qH1];rfl
 rw [this];rfl
theorem wTell (p0:Nat->Prop) (b:Nat) (w:World) (σ:Wd) (sv:Nat->SrvV) (cv:Nat->ClV) (dv:Value) (h:WIn p0 b w σ sv cv dv) (hp0:∀ q,p0 q->q<w.heap.size) (A:Option Addr) (c:Nat) (ns:List Note) (hn:SlA (pW p0 b dv) JbZ 3 w (.slice A ns.length c) ns) (hc:∀ i,i<16->(σ.c i).cache.length<=300) (hm:ns.length<=140737488355328) :
  Calls Tryz.prog 83 #[.pointer (some ⟨b,0,none⟩),.slice A ns.length c] w fun e w'=>∃ cv',e=.returned (.tuple #[])/\WIn p0 b w' (Jb1 σ ns) sv cv' dv/\Keeps (fun q=>q=b) w w':=by
 have H:=zA0 h;have HN:=zA0 hn;have HP0:=zA0 hp0;have HC:=zA0 hc;have H16:=zA0 h.c16;clear h hn hp0 hc;go_enter Tryz.func83,Tryz.ntmps83
 go_wp2_with fail;go_loopw [5] (fun i wr=>∃ k:Nat,k<=16/\i=.int .i64 k/\Hid (∃ cv',WIn p0 b wr (JhX σ ns k) sv cv' dv/\Keeps (fun q=>q=b) w wr/\SlA (pW p0 b dv) JbZ 3 wr (.slice A ns.length c) ns)) (fun i _=>16 - (intOf i).toNat)
 case atStart=>exact ⟨0,zB9 _,rfl,zA0 ⟨cv,H.out,Keeps.refl _ _,HN.out⟩⟩
 case round=>
  obtain ⟨k,hk,rfl,hx⟩:=hrel
  by_cases hlt:k<16
  ·obtain ⟨cv',hw1,hw2,hw3⟩:=hx.out
   have HW1:=zA0 hw1;have HW2:=zA0 hw2;have HW3:=zA0 hw3;obtain ⟨c0,c1,c2⟩:=hw1.clCells hlt;have hat:=tellK_at σ ns H16.out hlt;rw [hat] at c0 c1 c2;have hcl:=(hw1.cl k hlt);rw [hat] at hcl;have hc3:=HC.out k hlt;have HSU:=zA0 (Jl9 σ ns H16.out hlt);have hlow:=zA0 (hw1.low (fun q hq=>zD0 (HP0.out q hq) hw2.size))
   have hbl:=hw1.lt;clear hw1 hw2 hw3 hx hat;have HT:=zA0 (fun (W:World) (h1:Sl Jae 3 W (.slice (cv' k).a (σ.c k).cache.length (cv' k).c) (σ.c k).cache) (h2:Sl JbZ 3 W (.slice A ns.length c) ns)=>clTell (σ.c k).session (σ.c k).seen _ _ (σ.c k).cache ns W h1 h2 qH1 hm)
   have HCL:=zA0 hcl;clear hcl hc3;have g0:(0:Int)<=(k:Int):=qCE;have g1:(k:Int)<16:=qCE;go_upto_region 3 with fail
   refine wp_region_noPanic ?_;refine zD8 qE1 (fun W hW=>?_)
   have cl0:W.cell? ⟨b,30+k*3,none⟩=some (.int .i64 (σ.c k).session):=qAE;have cl1:W.cell? ⟨b,30+k*3+1,none⟩=some (.int .i64 (σ.c k).seen):=qAE;have cl2:W.cell? ⟨b,30+k*3+2,none⟩=some (.slice (cv' k).a (σ.c k).cache.length (cv' k).c):=qAE;have hWb:Below wr.heap.size wr W:=by rw [hW.out]; exact Below.drew (zB6 _ _)
   have HX:=zA0 (HW1.out.below hWb);have HN2:=zA0 (HW3.out.below hWb);have HCL2:=zA0 (HCL.out.below hWb);have hWs:W.heap.size=wr.heap.size:=by rw [hW.out]; rfl
   have hfb:∀ j,W.frozen? ⟨b,j,none⟩=false:=fun j=>HX.out.frozen j
   have hbW:b<W.heap.size:=HX.out.lt;refine JaD (fun w'=>w'.cell? ⟨b,30+k*3,none⟩=some (.int .i64 (σ.c k).session)/\w'.cell? ⟨b,30+k*3+1,none⟩=some (.int .i64 (σ.c k).seen)/\w'.cell? ⟨b,30+k*3+2,none⟩=some (.slice (cv' k).a (σ.c k).cache.length (cv' k).c)) (fun i=>i == 13) (by (try dsimp only); (refine ⟨?_,?_,?_⟩ <;> go_simp)) (fun hHeld=>?_)
   refine tpP 0 ?_;refine tpP 1 ?_;refine tpP 2 ?_;refine tpP 3 ?_;refine tpP 4 ?_;refine tpP 5 ?_;refine tpP 6 ?_;refine tpA 7 ?_;refine tpP 8 ?_;refine tpP 10 ?_;refine tpP 11 ?_;refine zB1 (rs:=[9]) qE1 qI1 ?_;refine zB4 qQ0 (fun K hK=>?_) zB2
   go_simp
   (go_at_call 115; refine (HT.out _ HCL2.out.1 HN2.out.1).mono ?_; rintro e w1 ⟨A1,k1,rfl,ho1,hb1⟩; obtain ⟨ext1,d1,rfl⟩:=zA2 _ hb1; have HO1:=zA0 ho1; clear ho1 hb1)
   refine hK.out _ _ ?gT1_12 (fun hHeld=>?_)
   case gT1_12=>((try dsimp only); (refine ⟨?_,?_,?_⟩ <;> go_simp))
   clear hK K
   try simp only [Act.put,zA6,zA4,zA5]
   refine tpP 12 ?_;refine zB1 (rs:=[13]) qE1 qI1 ?_;refine zC8 qQ0 qE1 (fun K hK=>?_) zB2
   go_simp;refine hK.out _ _ ?_;clear hK K
   try simp only [Act.put,zA6,zA4,zA5]
   refine zC4 qE1 ?_ _;refine NoPanic.normal ?_;refine Ja3 (fun W2 hW2=>?_)
   have hsl:=HO1.out.sla (p:=pW p0 b dv) (fun q hq=>by have:=hlow.out q hq; omega)
   have hgb:Below W.heap.size W (grow W ext1 d1):=zR;obtain ⟨hp1,hp2⟩:=(HX.out.below hgb).putClC hlt (c:=Jf2 ns (σ.c k)) (v:=⟨A1,k1⟩) hsl;rw [HSU.out] at hp1;rw [Jgg hbW] at hp1 hp2;have e3:=hW2.out;have H2:=zA0 (show WIn p0 b W2 _ _ _ _ from e3▸hp1)
   have hp2:(grow W ext1 d1).grownBy W2 (some b):=e3▸hp2;have hN3:=zA0 ((HN2.out.below hgb).grow hp2 (p':=pW p0 b dv) (fun q e=>by injection e with e; exact .inr (.inl e.symm)) (fun _=>.inl))
   have hK3:Hid (Keeps (fun q=>q=b) w _):=zA0 ((HW2.out.trans (zC3 (p:=fun q=>q=b) (zB8 hWb hgb)) (fun _ _ e=>e)).trans (zE8 (p:=fun q=>q=b) hp2 (fun q e=>by injection e with e; exact e.symm)) (fun _ _ e=>e))
   clear hp1 hp2 e3 hW2 hsl hgb HX HO1 HN2 hW hWb hHeld cl0 cl1 cl2 c0 c1 c2 hfb HT HCL HCL2 HW1 HW2 HW3 hWs hbW;go_wp2_with fail;go_roundw
   case rel=>exact ⟨k+1,by omega,by go_num,zA0 ⟨_,H2.out,hK3.out,hN3.out⟩⟩
   case measure=>simp [intOf]; omega
  ·have hk16:k=16:=by omega
   subst hk16;go_wp2_with fail;refine bodyPost_end (v:=.tuple #[]) (by simp [results,Tryz.results83,go_sem]) rfl ?_
   obtain ⟨cv',h1,h2,h3⟩:=hx.out;rw [Jnq σ ns H16.out] at h1;exact ⟨cv',rfl,h1,h2⟩
end
end Go.Proofs.YtjnooagaghdkdaaGreatDoor
