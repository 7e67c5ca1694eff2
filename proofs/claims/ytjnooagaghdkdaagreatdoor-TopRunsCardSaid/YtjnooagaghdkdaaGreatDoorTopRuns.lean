/- The law TopRuns is true for every input; no conditions. -/
import Derived.Test.YtjnooagaghdkdaaGreatDoorV45
set_option maxHeartbeats 10000000
set_option maxRecDepth 100000
set_option linter.all false
namespace Go.Proofs.YtjnooagaghdkdaaGreatDoor
section
open Go.RowKit Go.ChangeShapes Go.WideShapes Go.ChangeAt
theorem retIwT {k:Nat} {i:Int} (h:i=(k:Int)):Ending.returned (.int .i64 i)=.returned (.int .i64 k):=by rw [h]
set_option maxHeartbeats 1000000 in
theorem pickT (k:Int) (n:Nat) (w:World) (h0:0<n) (h1:n<=140737488355328) :
  Calls Tryz.prog 22 #[.int .i64 k,.int .i64 n] w fun e w'=>∃ f:Nat,f<n/\e=.returned (.int .i64 f)/\w=w':=by
 have ht1:-(n:Int)<k.tmod n:=by
  have:=Int.tmod_lt_of_pos (-k) (show (0:Int)<n by omega)
  rw [Int.neg_tmod] at this;omega
 have ht2:k.tmod n<(n:Int):=Int.tmod_lt_of_pos _ qH1;generalize hq:k.tmod n=q at *
 by_cases hn:q<0
 ·go_enter Tryz.func22,Tryz.ntmps22
  go_wp2;go_ret;exact ⟨(q+n).toNat,by omega,retIwT qH1,rfl⟩
 ·go_enter Tryz.func22,Tryz.ntmps22
  go_wp2;go_ret;exact ⟨q.toNat,by omega,retIwT qH1,rfl⟩
theorem run_two {l:List Deed} {f:Nat} (hf:f<=l.length) {rs1 rs2:List RpE} (h1:rs1.map RpE.r=(runW l).2) (h2:rs2.map RpE.r=(runW (l.take f)).2) {m:Nat} (hm:m<f):∃ x1 x2,rs1[m]?=some x1/\rs2[m]?=some x2/\x1.r=x2.r:=by
 have l1:rs1.length=l.length:=by have:=congrArg List.length h1; rw [Jfz] at this; simpa using this
 have l2:rs2.length=f:=by have:=congrArg List.length h2; rw [Jfz] at this; simp at this; omega
 refine ⟨rs1[m]'qH1,rs2[m]'qH1,zA4 _,zA4 _,?_⟩;rw [runW_pre,<-h1] at h2;have h3:(rs2.map RpE.r)[m]?=((rs1.map RpE.r).take (l.take f).length)[m]?:=by rw [h2]
 rw [zH3,zK9 qB1,zH3,zA4 (by omega:m<rs2.length),zA4 (by omega:m<rs1.length)] at h3
 simp at h3;exact h3.symm
set_option maxRecDepth 100000 in
set_option maxHeartbeats 2000000 in
theorem JlO (v:Value) (l:List Deed) (n:Int) (w:World) (h:Sl Jei 13 w v l) (hd:∀ d∈l,d.path.size<=4611686018427387904) (ht:TabB w.heap.size w) :
  Calls Tryz.prog 6 #[v,.int .i64 n] w fun e w'=>e=.returned (.bool true)/\Below w.heap.size w w':=by
 obtain ⟨A0,c0,rfl,hl1,hl2⟩:=h.form;have HL:=zA0 h;have HA:=zA0 (fun (W:World) (hb:Below w.heap.size w W)=>JlG W (ht.new hb))
 have HRUN:=zA0 (fun (W:World) (v:Value) (m:List Deed) (hm:m <+: l) (h3:m.length<=300) (hb:Below w.heap.size w W) (hs:Sl Jei 13 W v m)=>run_is v m W hs h3 (fun d hx=>hd d (hm.subset hx)) (ht.new hb))
 clear h hd ht
 by_cases h100:(100:Int)<(l.length:Int)
 ·have hb0:decide ((100:Int)<(l.length:Int))=true:=zB2 h100
  go_enter Tryz.func6,Tryz.ntmps6
  go_wp2_with (first | (go_at_call 21; refine Calls.mono (HA.out w (zB5 _ _)) ?_; rintro e w1 ⟨rfl,hb1⟩; have HA2:=zA0 (HA.out w1 hb1)) | (go_at_call 21; refine Calls.mono HA2.out ?_; rintro e w2 ⟨rfl,hb2⟩));exact zA1 (v:=.bool true) (by simp [results,Tryz.results6,go_sem]) rfl ⟨rfl,hb1.trans (hb2.mono hb1.size)⟩
 ·have hb0:decide ((100:Int)<(l.length:Int))=false:=zA5 h100
  have hl100:l.length<=100:=qCE;have HPK:=zA0 (fun (W:World)=>show Calls Tryz.prog 22 #[.int .i64 n,.int .i64 ((l.length:Int)+1)] W _ from pickT n (l.length+1) W qH1 qH1)
  clear h100;go_enter Tryz.func6,Tryz.ntmps6
  go_upto_region 4 with (first | (go_at_call 21; refine Calls.mono (HA.out w (zB5 _ _)) ?_; rintro e w1 ⟨rfl,hb1⟩) | (go_at_call 22; refine Calls.mono (HPK.out _) ?_; rintro e w2 ⟨f,hf,rfl,rfl⟩))
  have HL1:=zA0 (HL.out.below hb1);have HB1:=zA0 hb1;have hfl:f<=l.length:=qCE;have hfc:f<=c0:=qCE;have hcm:c0<=9223372036854775807:=zB4 hl2 qG1;clear hb1 HA HPK hf hb0;go_upto_region 5 with (first | (at_builtin; refine Jab _ rfl (.const (.slice none 0 0)) (.tmp 24) _ rfl elDeed (B:=w1.heap.size) (v:=.slice none 0 0) (l:=[]) (m:=l) rfl rfl (Ow.nil _ _ _ _ _) HL1.out JjA qm0 qy0 qI1 ?_; intro v3 w3 hown3 hg3 _; rw [zC8] at hown3; obtain ⟨A3,c3,rfl,_⟩:=hown3.form; have HB3:=zA0 (HB1.out.trans ((Below.of_grown hg3).mono HB1.out.size)); have HR3:=zA0 (HRUN.out w3 _ l (zI1 _) qH1 HB3.out hown3.sl); clear hown3 hg3) | (go_at_call 23; refine (HR3.out).mono ?_; rintro e w4 ⟨A4,c4,rs1,rfl,hs4,he4,hn4,hb4⟩; skip))
  have HB4:=zA0 (HB3.out.trans (hb4.mono HB3.out.size));have HL4:=zA0 ((HL.out.below HB4.out).pre2 (zQ2 f l));have htk:(l.take f).length=f:=qYE;rw [htk] at HL4;have HS4:=zA0 hs4;have HN4:=zA0 hn4;have HE4:=zA0 he4;have HTK:=zA0 htk;clear hb4 hs4 hn4 he4 HR3 HB3 HL1 HB1 htk;go_upto_region 6 with (first | (at_builtin; refine Jab _ rfl (.const (.slice none 0 0)) (.tmp 32) _ rfl elDeed (B:=w4.heap.size) (v:=.slice none 0 0) (l:=[]) (m:=l.take f) rfl rfl (Ow.nil _ _ _ _ _) HL4.out JjA qm0 qy0 qI1 ?_; intro v5 w5 hown5 hg5 _; rw [zC8] at hown5; obtain ⟨A5,c5,rfl,_⟩:=hown5.form; have HB5:=zA0 (Below.of_grown hg5); have hr5:=HRUN.out w5 _ (l.take f) (zQ2 f l) (by rw [HTK.out]; omega) (HB4.out.trans (HB5.out.mono HB4.out.size)) hown5.sl; rw [HTK.out] at hr5 ⊢; have HR5:=zA0 hr5; clear hown5 hg5 hr5) | (go_at_call 23; refine (HR5.out).mono ?_; rintro e w6 ⟨A6,c6,rs2,rfl,hs6,he6,hn6,hb6⟩; skip))
  have HB46:=zA0 (HB5.out.trans (hb6.mono HB5.out.size));have HS6:=zA0 hs6;have HN6:=zA0 hn6;have HE6:=zA0 he6;have HBF:=zA0 (HB4.out.trans (HB46.out.mono HB4.out.size));clear hb6 hs6 hn6 he6 HR5 HB5 HRUN HL4 HTK;have hFL:=zA0 hfl;go_wp2_with fail;go_loopw [9] (fun i wr=>∃ m:Nat,m<=f/\i=.int .i64 m/\Below w6.heap.size w6 wr) (fun i _=>f - (intOf i).toNat)
  case atStart=>exact ⟨0,zB7 _,rfl,zB5 _ _⟩
  case round=>
   obtain ⟨m,hm,rfl,hbr⟩:=hrel
   by_cases hlt:m<f
   ·obtain ⟨⟨r,na,nc⟩,⟨r2,na2,nc2⟩,hx1,hx2,hr⟩:=run_two hFL.out HE4.out HE6.out hlt
    simp only at hr;subst hr;have hB4r:Below w4.heap.size w4 wr:=HB46.out.trans (hbr.mono HB46.out.size);obtain ⟨b1,o1,hA,hb1,u0,u1,u2,u3,u4,u5,u6,u7,u8,u9,u10,u11⟩:=(HS4.out.below hB4r).RpE_at hx1;subst hA;obtain ⟨b2,o2,hA,hb2,v0,v1,v2,v3,v4,v5,v6,v7,v8,v9,v10,v11⟩:=(HS6.out.below hbr).RpE_at hx2;subst hA;have HSM:=zA0 (fun (U:World) (hb:Below wr.heap.size wr U)=>same_is r na nc na2 nc2 U (((HN4.out _ (zC7 hx1)).below hB4r).below hb) (((HN6.out _ (zC7 hx2)).below hbr).below hb))
    obtain ⟨rc,rz,rpa,rda,⟨s1,s2,s3,s4,s5,s6,s7⟩,rns⟩:=r;simp only [rpV] at HSM;simp only at u0 u1 u2 u3 u4 u5 u6 u7 u8 u9 u10 u11 v0 v1 v2 v3 v4 v5 v6 v7 v8 v9 v10 v11;have hm0:(0:Int)<=(m:Int):=qCE;have hml:(m:Int)<(l.length:Int):=by have:=hFL.out; omega
    have hmf:(m:Int)<(f:Int):=qCE;have HBR:=zA0 hbr;clear hx1 hx2 hbr hB4r;go_upto_region 11 with fail
    refine wp_region_noPanic ?_;refine zD9 qE1 (fun W hW=>?_)
    have cl0:W.cell? ⟨b1,o1+m*12,none⟩=some (.int .i64 rc):=qAE;have cl1:W.cell? ⟨b1,o1+m*12+1,none⟩=some (.int .i64 rz):=qAE;have cl2:W.cell? ⟨b1,o1+m*12+2,none⟩=some (.string rpa):=qAE;have cl3:W.cell? ⟨b1,o1+m*12+3,none⟩=some (.string rda):=qAE;have cl4:W.cell? ⟨b1,o1+m*12+4,none⟩=some (.int .i64 s1):=qAE;have cl5:W.cell? ⟨b1,o1+m*12+5,none⟩=some (.int .i64 s2):=qAE;have cl6:W.cell? ⟨b1,o1+m*12+6,none⟩=some (.int .i64 s3):=qAE;have cl7:W.cell? ⟨b1,o1+m*12+7,none⟩=some (.int .i64 s4):=qAE;have cl8:W.cell? ⟨b1,o1+m*12+8,none⟩=some (.int .i64 s5):=qAE;have cl9:W.cell? ⟨b1,o1+m*12+9,none⟩=some (.int .i64 s6):=qAE;have cl10:W.cell? ⟨b1,o1+m*12+10,none⟩=some (.int .i64 s7):=qAE;have cl11:W.cell? ⟨b1,o1+m*12+11,none⟩=some (.slice na rns.length nc):=qAE;have cl12:W.cell? ⟨b2,o2+m*12,none⟩=some (.int .i64 rc):=qAE;have cl13:W.cell? ⟨b2,o2+m*12+1,none⟩=some (.int .i64 rz):=qAE;have cl14:W.cell? ⟨b2,o2+m*12+2,none⟩=some (.string rpa):=qAE;have cl15:W.cell? ⟨b2,o2+m*12+3,none⟩=some (.string rda):=qAE;have cl16:W.cell? ⟨b2,o2+m*12+4,none⟩=some (.int .i64 s1):=qAE;have cl17:W.cell? ⟨b2,o2+m*12+5,none⟩=some (.int .i64 s2):=qAE;have cl18:W.cell? ⟨b2,o2+m*12+6,none⟩=some (.int .i64 s3):=qAE;have cl19:W.cell? ⟨b2,o2+m*12+7,none⟩=some (.int .i64 s4):=qAE;have cl20:W.cell? ⟨b2,o2+m*12+8,none⟩=some (.int .i64 s5):=qAE;have cl21:W.cell? ⟨b2,o2+m*12+9,none⟩=some (.int .i64 s6):=qAE;have cl22:W.cell? ⟨b2,o2+m*12+10,none⟩=some (.int .i64 s7):=qAE;have cl23:W.cell? ⟨b2,o2+m*12+11,none⟩=some (.slice na2 rns.length nc2):=qAE;have hWs1:W.heap.size=wr.heap.size:=qTE;have hW1W:Below wr.heap.size wr W:=qJE;have hbW1:b1<W.heap.size:=qCE;have hbW2:b2<W.heap.size:=qCE;refine Jav (fun w'=>w'.cell? ⟨b1,o1+m*12,none⟩=some (.int .i64 rc)/\w'.cell? ⟨b1,o1+m*12+1,none⟩=some (.int .i64 rz)/\w'.cell? ⟨b1,o1+m*12+2,none⟩=some (.string rpa)/\w'.cell? ⟨b1,o1+m*12+3,none⟩=some (.string rda)/\w'.cell? ⟨b1,o1+m*12+4,none⟩=some (.int .i64 s1)/\w'.cell? ⟨b1,o1+m*12+5,none⟩=some (.int .i64 s2)/\w'.cell? ⟨b1,o1+m*12+6,none⟩=some (.int .i64 s3)/\w'.cell? ⟨b1,o1+m*12+7,none⟩=some (.int .i64 s4)/\w'.cell? ⟨b1,o1+m*12+8,none⟩=some (.int .i64 s5)/\w'.cell? ⟨b1,o1+m*12+9,none⟩=some (.int .i64 s6)/\w'.cell? ⟨b1,o1+m*12+10,none⟩=some (.int .i64 s7)/\w'.cell? ⟨b1,o1+m*12+11,none⟩=some (.slice na rns.length nc)/\w'.cell? ⟨b2,o2+m*12,none⟩=some (.int .i64 rc)/\w'.cell? ⟨b2,o2+m*12+1,none⟩=some (.int .i64 rz)/\w'.cell? ⟨b2,o2+m*12+2,none⟩=some (.string rpa)/\w'.cell? ⟨b2,o2+m*12+3,none⟩=some (.string rda)/\w'.cell? ⟨b2,o2+m*12+4,none⟩=some (.int .i64 s1)/\w'.cell? ⟨b2,o2+m*12+5,none⟩=some (.int .i64 s2)/\w'.cell? ⟨b2,o2+m*12+6,none⟩=some (.int .i64 s3)/\w'.cell? ⟨b2,o2+m*12+7,none⟩=some (.int .i64 s4)/\w'.cell? ⟨b2,o2+m*12+8,none⟩=some (.int .i64 s5)/\w'.cell? ⟨b2,o2+m*12+9,none⟩=some (.int .i64 s6)/\w'.cell? ⟨b2,o2+m*12+10,none⟩=some (.int .i64 s7)/\w'.cell? ⟨b2,o2+m*12+11,none⟩=some (.slice na2 rns.length nc2)) (fun i=>i == 8) (by (try dsimp only); (refine ⟨?_,?_,?_,?_,?_,?_,?_,?_,?_,?_,?_,?_,?_,?_,?_,?_,?_,?_,?_,?_,?_,?_,?_,?_⟩ <;> go_simp)) (fun hHeld=>?_)
    refine tpP 0 ?_;refine tpP 1 ?_;refine tpP 2 ?_;refine tpA 3 ?_;refine tpP 4 ?_;refine tpP 5 ?_;refine tpP 6 ?_;refine tpA 7 ?_;refine zB0 (rs:=[8]) qE1 qI1 ?_;refine zD0 qQ0 qE1 (fun K hK=>?_) zB1
    go_simp
    (go_at_call 24; refine Calls.mono (HSM.out _ hW1W) ?_; rintro e w7 ⟨rfl,hb7⟩; obtain ⟨ext7,d7,rfl⟩:=zA2 _ hb7; clear hb7)
    refine hK.out _ _ ?_;clear hK K
    try simp only [Act.put,zA8,zA6,zA7]
    refine tpQ 9 ?_;refine zC4 qE1 ?_ _;refine NoPanic.normal ?_;have HBE:=zA0 (show Below w6.heap.size w6 (grow W ext7 d7) from HBR.out.trans ((zB9 hW1W zR).mono HBR.out.size))
    go_wp2_with fail;go_roundw
    case rel=>exact ⟨m+1,by omega,by go_num,HBE.out⟩
    case measure=>simp [intOf]; omega
   ·have hnl:decide ((m:Int)<(f:Int))=false:=zA5 qH1
    have HB:=zA0 (HBF.out.trans (hbr.mono HBF.out.size));clear hbr;go_wp2_with fail;exact zA1 (v:=.bool true) (by simp [results,Tryz.results6,go_sem]) rfl ⟨rfl,HB.out⟩
namespace topRuns
theorem own:ownKnob Tryz.prog.godebug=none:=by kernel_rfl
theorem laidOut:laidOutB Tryz.prog=true:=by kernel_rfl
set_option maxRecDepth 100000 in
set_option maxHeartbeats 1000000 in
theorem lifted (os:Os) (started:os.Started) (H:Type) (enc:TypeId × Value->H) :
  ReturnsInHanded {} Tryz.checked os 6 .any (fun w args=>(Rows.topRunsSpec.pre enc Tryz.prog Tryz.f6 Rows.topRunsRow.domain false w args/\laidMetH Tryz.prog Rows.topRunsRow.laid w)/\sizedMet enc Tryz.prog Tryz.f6 (OpenSpec.ofChange Rows.topRunsSpec) false w args) (Rows.topRunsSpec.post enc Tryz.prog Tryz.f6 false true false false):=by
 refine returnsInHanded_of_change_and (C:=Tryz.checked) (X:=fun w _=>laidMetH Tryz.prog Rows.topRunsRow.laid w) (fun _ _ _ hh h=>h.of_heap hh) own started qE1 Tryz.func6
  (ChangeSpec.witness_shaped (enc:=enc) (C:=Tryz.checked) (os:=os) (X:=fun w _=>laidMetH Tryz.prog Rows.topRunsRow.laid w) false (World.laidAll Tryz.prog os Rows.topRunsRow.laid) #[.slice none 0 0,.int .i64 0] 8 (World.laidAll_os _ _ _)
   (World.shaped_of_ZipB qE1 qE1) qE1 qE1 qE1
   (by rw [MakeChecks.laidMetH_plain _ _ _ qE1]; exact laidMet_laidAll _ qE1 qE1)) ?_
 intro W base args ds gs before hval0 hW0 _ hsz0 hL _;have hval:∀ (j:Nat) t v,Tryz.f6.params[j]?=some t->args[j]?=some v->Value.okWide Tryz.prog W .any base t v:=hval0;have hW:DataW.Whole enc Tryz.prog Tryz.f6.params.toList Rows.topRunsSpec.vars false W args.toList ds gs before:=hW0;have hlt:∀ p∈before,p.block<W.heap.size:=fun p hp=>hW.lt p hp
 have hW1:=hW;obtain ⟨p,q,hA0,hV,rfl,hfz,hnd⟩:=hW1;have hA:DataW.TrodAll enc Tryz.prog W 0 (fun _=>true) true Tryz.f6.params.toList args.toList ds p:=hA0
 obtain ⟨rfl,rfl⟩:=trodVars_none hV;rw [Tryz.params6] at hA hval;obtain ⟨v0,vs0,d0,ds0,p0,q0,hargs,rfl,rfl,h0,r0⟩:=trodAll_cons hA;obtain ⟨v1,vs1,d1,ds1,p1,q1,rfl,rfl,rfl,h1,r1⟩:=trodAll_cons r0;obtain ⟨rfl,rfl,rfl⟩:=trodAll_nil r1;obtain rfl:args=#[v0,v1]:=by cases args; simp_all
 have hsz:(DataW.weightsEach Tryz.prog [22,3] [d0,d1]).all (·<=reachBytes)=true:=hsz0;have close:∀ e W',(e=Ending.returned (.bool true)/\Below W.heap.size W W')->∃ v,e=.returned v/\Rows.topRunsSpec.post enc Tryz.prog Tryz.f6 false true false false W #[v0,v1] v W':=
  fun e W' ⟨he,hb⟩=>⟨_,he,Jk8 laidOut (of_decide_eq_true qE1) rfl rfl Tryz.underlying4 hW rfl hb⟩
 clear hA0 hsz0 hval0 hW0 hA hV hW hfz hnd;obtain ⟨a1,rfl,hd1,_,wf1⟩:=open_int Tryz.underlying3 (hval 1 3 v1 rfl rfl) h1
 have hlaid : laidMet Tryz.prog [("math/bits.deBruijn32tab", Rows.laid_math_bits_deBruijn32tab), ("math/bits.deBruijn64tab", Rows.laid_math_bits_deBruijn64tab), ("internal/strconv.uint64pow10", Rows.laid_internal_strconv_uint64pow10), ("unicode/utf8.acceptRanges", Rows.laid_unicode_utf8_acceptRanges), ("unicode/utf8.first", Rows.laid_unicode_utf8_first)] W := by
  have h1:=hL;rw [MakeChecks.laidMetH_plain _ _ _ qE1] at h1;exact h1
 obtain ⟨A,len,cap,rfl⟩:=okWide_slice Tryz.underlying22 (hval 0 _ v0 rfl rfl);obtain ⟨v,xs,hv,hr,hb,hx⟩:=Jhm Tryz.underlying22 (JiQ 12 h0 (JiC hsz 0 rfl rfl));rw [show Tryz.prog.cellsOf 29=13 from by kernel_rfl] at hr
 rw [show Tryz.prog.bytesOf 29=120 from by kernel_rfl] at hb
 obtain rfl:Value.slice A len cap=v:=by simpa [Value.cells] using hv
 obtain ⟨l,rfl,hl⟩:=typed (f:=Jei) (Q:=fun r=>r.path.size<=140737488351232) (fun x hxm=>JiR (n:=0) (hx x hxm))
 have hs:Sl Jei 13 W (.slice A len cap) l:=hr qG1;exact (JlO _ l a1 W hs (fun r hr=>zB4 (hl r hr) qG1) (Jnb (JgP hlaid))).mono close
theorem proved:Rows.TopRunsSaid:=
 OpenClaim.holds_of_wide 6 Tryz.f6 rfl rfl rfl rfl rfl rfl rfl ⟨rfl,rfl,rfl,rfl,rfl⟩ rfl rfl rfl rfl rfl qE1 Tryz.func6 qE1
  (of_decide_eq_true qE1) (by unfold Func.isWrapper; first | (rw [if_pos (by decide +kernel)]; kernel_rfl) | (rw [if_neg (by decide +kernel)]; exact ⟨rfl,rfl⟩))
  (fun os started H enc _=>lifted os started H enc)
theorem card:Rows.TopRunsCardSaid:=
 Claim7.holds_tied_plain_at .later [] Rows.topRunsCard.laidKinds true Rows.topRunsCard.stood.harness false
  proved (fun _ h=>by cases h) qE1 (fun _ h=>by cases h) topRuns_row_tie rfl ⟨rfl,rfl⟩ qE1 rfl
  (fun f fn hf hfn=>by
   obtain rfl : f = 6 := Option.some.inj ((show Tryz.prog.funcNamed "aviary/aviarytop.TopRuns" = some 6 by kernel_rfl).symm.trans hf) |>.symm
   obtain rfl:fn=Tryz.f6:=(Option.some.inj (Tryz.func6.symm.trans hfn)).symm
   exact ⟨by kernel_rfl,fun j t ht=>by
    rw [Tryz.params6] at ht;have hm:t∈[22,3]:=by simpa using Array.mem_of_getElem? ht
    have hall:([22,3].all fun u=>!Tryz.prog.wantsStandIn u)=true:=by kernel_rfl
    exact (show Tryz.prog.wantsStandIn t=false by simpa using List.all_eq_true.1 hall t hm)⟩)
  qE1
end topRuns
end
end Go.Proofs.YtjnooagaghdkdaaGreatDoor
