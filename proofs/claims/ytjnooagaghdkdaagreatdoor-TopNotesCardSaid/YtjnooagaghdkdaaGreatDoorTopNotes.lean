/- The law TopNotes is true for every input; no conditions. -/
import Derived.Test.YtjnooagaghdkdaaGreatDoorV44
set_option maxHeartbeats 10000000
set_option maxRecDepth 100000
set_option linter.all false
namespace Go.Proofs.YtjnooagaghdkdaaGreatDoor
section
open Go.RowKit Go.ChangeShapes Go.WideShapes Go.ChangeAt
set_option maxRecDepth 100000 in
set_option maxHeartbeats 2000000 in
theorem Jmu (b:Nat):JhO 30 #[] (fun _=>False) b (fun _ _ _ _=>True):=by
 intro V σ τ Reg Reg' E E' sv cv dv d r A c hst _ hw hn _;rw [Array.append_empty];have HV:=zA0 hw;have HI:=zA0 hst.inv';have HD:=do_notes hst.inv d;rw [hst.eq] at HD;obtain ⟨hno,hnt⟩:=HD;have HNO:=zA0 hno;have HNT:=zA0 hnt;have HSN:=zA0 hn;obtain ⟨A1,c1,hA1,hl1,hl2⟩:=hn.1.form;have hrl:r.notes.length<=9223372036854775807:=by simp only [maxLen] at hl2; omega
 clear hst hn hw hno hnt hA1 hl1 hl2 A1 c1;obtain ⟨rc,rz,rpa,rda,⟨s1,s2,s3,s4,s5,s6,s7⟩,rns⟩:=r;simp only [rpV] at HNO HNT HSN hrl ⊢;go_enter Tryz.func30,Tryz.ntmps30
 go_upto_region 1 with fail
 refine Jan (fun W1 hW1=>?_)
 have HB1:=zA0 (show Below V.heap.size V W1 by rw [hW1.out]; exact zR)
 have x0:W1.cell? ⟨V.heap.size,0,none⟩=some (.int .i64 d.kind):=qNE;have x11:W1.cell? ⟨V.heap.size+1,11,none⟩=some (.slice A rns.length c):=qNE;have hs1:V.heap.size+2<=W1.heap.size:=qpE;clear hW1;go_cut [24] from 11 to 24 (fun s24 wx=>s24=.bool false/\wx=W1)
 case first=>
  by_cases k1:d.kind=1
  ·have b1:(d.kind != 1)=false:=by rw [k1]; rfl
   clear k1;go_wp2_with fail;go_meet;exact ⟨rfl,rfl⟩
  ·have b1:(d.kind != 1)=true:=zC6.2 k1
   by_cases k5:d.kind=5
   ·have b5:(d.kind != 5)=false:=by rw [k5]; rfl
    clear k1 k5;go_wp2_with fail;go_meet;exact ⟨rfl,rfl⟩
   ·have b5:(d.kind != 5)=true:=zC6.2 k5
    have hnil:=HNO.out k1 k5;have hz:((rns.length:Int) != 0)=false:=by rw [hnil]; rfl
    clear k1 k5 hnil;go_wp2_with fail;go_meet;exact ⟨rfl,rfl⟩
 case rest=>
  obtain ⟨rfl,rfl⟩:=hcut;obtain ⟨W1,rfl⟩:∃ W,W=wc:=⟨_,rfl⟩;clear HNO;have HV1:=zA0 (HV.out.below HB1.out);have HN1:=zA0 (HSN.out.1.below HB1.out);clear HV HSN;go_wp2_with fail;go_loopw [28] (fun i wr=>∃ m:Nat,m<=rns.length/\i=.int .i64 m/\Below W1.heap.size W1 wr) (fun i _=>rns.length - (intOf i).toNat)
  case atStart=>exact ⟨0,zB9 _,rfl,zB7 _ _⟩
  case round=>
   obtain ⟨m,hm,rfl,hbr⟩:=hrel
   by_cases hlt:m<rns.length
   ·have hix:rns[m]?=some (rns[m]'hlt):=zA8 _
    obtain ⟨bd,off,hA,hbd,u0,u1,u2⟩:=(HN1.out.below hbr).Note_at hix;subst hA;have hnt:=HNT.out _ (zD1 hix);generalize rns[m]'hlt=x at *;obtain ⟨⟨n1,n2,n3,n4,n5⟩,n6⟩:=hnt;obtain ⟨k,hk,hke⟩:∃ k:Nat,k<16/\x.session=(k:Int)+1:=⟨(x.session - 1).toNat,by omega,by omega⟩
    rw [show (x.session - 1).toNat=k by omega] at n6
    have b1:decide (x.session<1)=false:=zA5 qK1;have b2:decide (16<x.session)=false:=zA5 qK1;have b3:decide (x.kind<1)=false:=zA5 qK1;have b4:decide (4<=x.kind)=false:=zA5 qK1;have HGO:=zA0 (fun (U:World)=>Jcm x.path U (zB3 (Ja5 n3).2 qJ1))
    rw [n3] at HGO;have hch:(τ.c k).cache.length<=300:=zB3 (HI.out.cl k hk).len HI.out.k300;have HWI:=zA0 (show IntKind.i64.wrap (x.session - 1)=(k:Int) by rw [zN7] <;> omega)
    have HBR:=zA0 hbr;have hm0:(0:Int)<=(m:Int):=qCE;have hml:(m:Int)<(rns.length:Int):=qCE;clear hix n1 n2 n3 n4 n5 hke;go_upto_region 8 with ((go_at_call 31; refine zc (HGO.out _) (fun ext5 d5=>?_)))
    refine Jan (fun W6 hW6=>?_)
    have hB6:Below wr.heap.size wr W6:=by rw [hW6.out]; exact zR
    have HX6:=zA0 (show Bk W6 wr.heap.size [.int .i64 x.session,.int .i64 x.kind,.string x.path] 80 from by rw [hW6.out]; first | exact (Bk.new _ _ _ rfl).below zR | exact Bk.below (Bk.new _ _ _ rfl) zR)
    have HB6:=zA0 (zB6 HBR.out hB6);have z0:W6.cell? ⟨wr.heap.size,0,none⟩=some (.int .i64 x.session):=HX6.out.cell 0;have z2:W6.cell? ⟨wr.heap.size,2,none⟩=some (.string x.path):=HX6.out.cell 2;have hlt6:wr.heap.size<W6.heap.size:=HX6.out.lt;have HCC:=zA0 (fun (U:World) (hb:Below W6.heap.size W6 U)=>JfZ _ b U τ sv cv dv ((HV1.out.below HB6.out).below hb) k hk hch)
    clear hW6 hB6 HX6 HBR hbr u0 u1 u2 b1 b2 b3 b4 HGO;generalize τ.c k=C at *;obtain ⟨ys,yn,yc⟩:=C;simp only at HCC n6 hch;have HLK:=zA0 (fun (U:World) (A:Option Addr) (c:Nat) (h:Sl Jad 3 U (.slice A yc.length c) yc)=>clLook ys yn (.slice A yc.length c) yc x.path U h qK1)
    rw [n6] at HLK;generalize Jft yc x.path=le at *;refine wp_region_noPanic ?_;refine zD3 qH1 (fun W hW=>?_)
    have cl0:W.cell? ⟨wr.heap.size,0,none⟩=some (.int .i64 x.session):=qAE;have cl1:W.cell? ⟨wr.heap.size,2,none⟩=some (.string x.path):=qAE;have hWs1:W.heap.size=W6.heap.size:=qLE;have hW1W:Below W6.heap.size W6 W:=qHE;have hbW:wr.heap.size<W.heap.size:=qCE;refine Jaw (fun w'=>w'.cell? ⟨wr.heap.size,0,none⟩=some (.int .i64 x.session)/\w'.cell? ⟨wr.heap.size,2,none⟩=some (.string x.path)) (fun i=>i == 13) (by (try dsimp only); (refine ⟨?_,?_⟩ <;> go_simp)) (fun hHeld=>?_)
    refine tpP 0 ?_;refine tpP 1 ?_;refine tpA 2 ?_;refine tpP 3 ?_;refine tpP 5 ?_;refine tpP 6 ?_;refine tpA 7 ?_;refine zA9 (rs:=[4,12]) qH1 qL1 ?_;refine zB4 qS0 (fun K hK=>?gO1_8) ?gL1_8
    case gO1_8=>
     go_simp
     (go_at_call 20; (rw [HWI.out]); (with_reducible refine (HCC.out _ (zB6 hW1W zR)).mono ?_); rintro e w5 ⟨A5,k5,rfl,hs5,hb5⟩; have HS5:=zA0 hs5; obtain ⟨ext5,d5,rfl⟩:=zA2 _ hb5; clear hs5 hb5)
     refine hK.out _ _ ?gT1_8 (fun hHeld=>?_)
     case gT1_8=>((try dsimp only); (refine ⟨?_,?_⟩ <;> go_simp))
     clear hK K
     try simp only [Act.put,zA7,zA4,zA6]
     refine zA9 (rs:=[8,12]) qH1 qL1 ?_;refine zB4 qS0 (fun K hK=>?gO1_9) ?gL1_9
     case gO1_9=>
      go_simp
      (go_at_call 32; (with_reducible refine (HLK.out _ A5 k5 (HS5.out.below zR)).mono ?_); rintro e w7 ⟨rfl,hb7⟩; obtain ⟨ext7,d7,rfl⟩:=zA2 _ hb7; clear hb7)
      refine hK.out _ _ ?gT1_9 (fun hHeld=>?_)
      case gT1_9=>((try dsimp only); (refine ⟨?_,?_⟩ <;> go_simp))
      clear hK K
      try simp only [Act.put,zA7,zA4,zA6]
      refine tpP 9 ?_;refine tpP 10 ?_;refine tpP 11 ?_;refine zA9 (rs:=[12]) qH1 qL1 ?_;refine zB4 qS0 (fun K hK=>?_) zB0
      go_simp;refine hK.out _ _ ?gT1_13 (fun hHeld=>?_)
      case gT1_13=>((try dsimp only); (refine ⟨?_,?_⟩ <;> go_simp))
      clear hK K
      try simp only [Act.put,zA7,zA4,zA6]
      refine zA9 (rs:=[13]) qH1 qL1 ?_;refine zC5 qS0 qH1 (fun K hK=>?_) zB0
      go_simp;refine hK.out _ _ ?_;clear hK K
      try simp only [Act.put,zA7,zA4,zA6]
      refine tpQ 14 ?_;refine zC3 qH1 ?_ _;refine NoPanic.normal ?_;have HBF:=zA0 (fun (U:World) (hb:Below W.heap.size W U)=>zB6 HB6.out (zB6 hW1W hb))
      go_wp2_with fail;go_roundw
      case rel=>exact ⟨m+1,by omega,by go_num,HBF.out _ zR⟩
      case measure=>simp [intOf]; omega
     refine zB4 qS0 (fun K hK=>?gO1_16) ?gL1_16
     case gO1_16=>
      go_simp;refine hK.out _ _ ?gT1_16 (fun hHeld=>?_)
      case gT1_16=>((try dsimp only); (refine ⟨?_,?_⟩ <;> go_simp))
      clear hK K
      try simp only [Act.put,zA7,zA4,zA6]
      refine zA9 (rs:=[8]) qH1 qL1 ?_;refine zB4 qS0 (fun K hK=>?_) zB0
      go_simp
      (go_at_call 32; (with_reducible refine (HLK.out _ A5 k5 (HS5.out.below zR)).mono ?_); rintro e w7 ⟨rfl,hb7⟩; obtain ⟨ext7,d7,rfl⟩:=zA2 _ hb7; clear hb7)
      refine hK.out _ _ ?gT1_17 (fun hHeld=>?_)
      case gT1_17=>((try dsimp only); (refine ⟨?_,?_⟩ <;> go_simp))
      clear hK K
      try simp only [Act.put,zA7,zA4,zA6]
      refine tpP 9 ?_;refine tpP 10 ?_;refine tpP 11 ?_;refine zA9 (rs:=[13]) qH1 qL1 ?_;refine zC5 qS0 qH1 (fun K hK=>?_) zB0
      go_simp;refine hK.out _ _ ?_;clear hK K
      try simp only [Act.put,zA7,zA4,zA6]
      refine tpQ 14 ?_;refine zC3 qH1 ?_ _;refine NoPanic.normal ?_;have HBF:=zA0 (fun (U:World) (hb:Below W.heap.size W U)=>zB6 HB6.out (zB6 hW1W hb))
      go_wp2_with fail;go_roundw
      case rel=>exact ⟨m+1,by omega,by go_num,HBF.out _ zR⟩
      case measure=>simp [intOf]; omega
     exact zB0
    refine zB4 qS0 (fun K hK=>?gO1_23) ?gL1_23
    case gO1_23=>
     go_simp;refine hK.out _ _ ?gT1_23 (fun hHeld=>?_)
     case gT1_23=>((try dsimp only); (refine ⟨?_,?_⟩ <;> go_simp))
     clear hK K
     try simp only [Act.put,zA7,zA4,zA6]
     refine zA9 (rs:=[4]) qH1 qL1 ?_;refine zB4 qS0 (fun K hK=>?_) zB0
     go_simp
     (go_at_call 20; (rw [HWI.out]); (with_reducible refine (HCC.out _ (zB6 hW1W zR)).mono ?_); rintro e w5 ⟨A5,k5,rfl,hs5,hb5⟩; have HS5:=zA0 hs5; obtain ⟨ext5,d5,rfl⟩:=zA2 _ hb5; clear hs5 hb5)
     refine hK.out _ _ ?gT1_24 (fun hHeld=>?_)
     case gT1_24=>((try dsimp only); (refine ⟨?_,?_⟩ <;> go_simp))
     clear hK K
     try simp only [Act.put,zA7,zA4,zA6]
     refine zA9 (rs:=[8]) qH1 qL1 ?_;refine zB4 qS0 (fun K hK=>?_) zB0
     go_simp
     (go_at_call 32; (with_reducible refine (HLK.out _ A5 k5 (HS5.out.below zR)).mono ?_); rintro e w7 ⟨rfl,hb7⟩; obtain ⟨ext7,d7,rfl⟩:=zA2 _ hb7; clear hb7)
     refine hK.out _ _ ?gT1_25 (fun hHeld=>?_)
     case gT1_25=>((try dsimp only); (refine ⟨?_,?_⟩ <;> go_simp))
     clear hK K
     try simp only [Act.put,zA7,zA4,zA6]
     refine tpP 9 ?_;refine tpP 10 ?_;refine tpP 11 ?_;refine zA9 (rs:=[13]) qH1 qL1 ?_;refine zC5 qS0 qH1 (fun K hK=>?_) zB0
     go_simp;refine hK.out _ _ ?_;clear hK K
     try simp only [Act.put,zA7,zA4,zA6]
     refine tpQ 14 ?_;refine zC3 qH1 ?_ _;refine NoPanic.normal ?_;have HBF:=zA0 (fun (U:World) (hb:Below W.heap.size W U)=>zB6 HB6.out (zB6 hW1W hb))
     go_wp2_with fail;go_roundw
     case rel=>exact ⟨m+1,by omega,by go_num,HBF.out _ zR⟩
     case measure=>simp [intOf]; omega
    exact zB0
   ·have hnl:decide (m<rns.length)=false:=zA5 hlt
    clear hlt;go_wp2_with fail;exact zA1 (v:=.bool true) (by simp [results,Tryz.results30,go_sem]) rfl ⟨rfl,trivial,zC0 (HB1.out.trans (hbr.mono HB1.out.size))⟩
set_option maxRecDepth 100000 in
theorem Jkc (v:Value) (l:List Deed) (w:World) (h:Sl Jdu 13 w v l) (hd:∀ d∈l,d.path.size<=4611686018427387904) (ht:TabB w.heap.size w) :
  Calls Tryz.prog 10 #[v] w fun e w'=>e=.returned (.bool true)/\Below w.heap.size w w':=by
 have HP:=zA0 (Jgq 30 #[] (fun _=>False) (fun _ _ _ _=>True) v l w ⟨h,.inr (fun _ e=>e.elim)⟩ hd ht (fun _ e=>e.elim) (fun _ _ e=>e.elim) (fun _ _ _ _ _ _ _=>trivial) trivial (fun args W=>by simp [go_sem]) (fun b _=>Jmu b))
 obtain ⟨A,c,rfl,_⟩:=h.form;clear h hd ht;go_enter Tryz.func10,Tryz.ntmps10
 go_wp2_with ((go_at_call 12; refine (HP.out).mono ?_; rintro e w1 ⟨b,σ,Reg,E,sv,cv,dv,rfl,hb,hpl⟩; skip));exact zA1 (v:=.bool true) (by simp [results,Tryz.results10,go_sem]) rfl ⟨rfl,hpl.keep.low (zA3 _) (fun q e=>e.elim (fun e=>e.elim) id)⟩
namespace topNotes
theorem own:ownKnob Tryz.prog.godebug=none:=by kernel_rfl
theorem laidOut:laidOutB Tryz.prog=true:=by kernel_rfl
set_option maxRecDepth 100000 in
set_option maxHeartbeats 1000000 in
theorem lifted (os:Os) (started:os.Started) (H:Type) (enc:TypeId × Value->H) :
  ReturnsInHanded {} Tryz.checked os 10 .any (fun w args=>(Rows.topNotesSpec.pre enc Tryz.prog Tryz.f10 Rows.topNotesRow.domain false w args/\laidMetH Tryz.prog Rows.topNotesRow.laid w)/\sizedMet enc Tryz.prog Tryz.f10 (OpenSpec.ofChange Rows.topNotesSpec) false w args) (Rows.topNotesSpec.post enc Tryz.prog Tryz.f10 false true false false):=by
 refine returnsInHanded_of_change_and (C:=Tryz.checked) (X:=fun w _=>laidMetH Tryz.prog Rows.topNotesRow.laid w) (fun _ _ _ hh h=>h.of_heap hh) own started qH1 Tryz.func10
  (ChangeSpec.witness_shaped (enc:=enc) (C:=Tryz.checked) (os:=os) (X:=fun w _=>laidMetH Tryz.prog Rows.topNotesRow.laid w) false (World.laidAll Tryz.prog os Rows.topNotesRow.laid) #[.slice none 0 0] 8 (World.laidAll_os _ _ _)
   (World.shaped_of_ZipB qH1 qH1) qH1 qH1 qH1
   qB0) ?_
 intro W base args ds gs before hval0 hW0 _ hsz0 hL _;have hval:∀ (j:Nat) t v,Tryz.f10.params[j]?=some t->args[j]?=some v->Value.okWide Tryz.prog W .any base t v:=hval0;have hW:DataW.Whole enc Tryz.prog Tryz.f10.params.toList Rows.topNotesSpec.vars false W args.toList ds gs before:=hW0;have hlt:∀ p∈before,p.block<W.heap.size:=fun p hp=>hW.lt p hp
 have hW1:=hW;obtain ⟨p,q,hA0,hV,rfl,hfz,hnd⟩:=hW1;have hA:DataW.TrodAll enc Tryz.prog W 0 (fun _=>true) true Tryz.f10.params.toList args.toList ds p:=hA0
 obtain ⟨rfl,rfl⟩:=trodVars_none hV;rw [Tryz.params10] at hA hval;obtain ⟨v0,vs0,d0,ds0,p0,q0,hargs,rfl,rfl,h0,r0⟩:=trodAll_cons hA;obtain ⟨rfl,rfl,rfl⟩:=trodAll_nil r0;obtain rfl:args=#[v0]:=by cases args; simp_all
 have hsz:(DataW.weightsEach Tryz.prog [22] [d0]).all (·<=reachBytes)=true:=hsz0;have close:∀ e W',(e=Ending.returned (.bool true)/\Below W.heap.size W W')->∃ v,e=.returned v/\Rows.topNotesSpec.post enc Tryz.prog Tryz.f10 false true false false W #[v0] v W':=
  fun e W' ⟨he,hb⟩=>⟨_,he,JeR laidOut (of_decide_eq_true qH1) rfl rfl Tryz.underlying4 hW rfl hb⟩
 clear hA0 hsz0 hval0 hW0 hA hV hW hfz hnd
 have hlaid : laidMet Tryz.prog [("math/bits.deBruijn32tab", Rows.laid_math_bits_deBruijn32tab), ("math/bits.deBruijn64tab", Rows.laid_math_bits_deBruijn64tab), ("internal/strconv.uint64pow10", Rows.laid_internal_strconv_uint64pow10), ("unicode/utf8.acceptRanges", Rows.laid_unicode_utf8_acceptRanges), ("unicode/utf8.first", Rows.laid_unicode_utf8_first)] W := by
  have h1:=hL;rw [MakeChecks.laidMetH_plain _ _ _ qH1] at h1;exact h1
 obtain ⟨A,len,cap,rfl⟩:=okWide_slice Tryz.underlying22 (hval 0 _ v0 rfl rfl);obtain ⟨v,xs,hv,hr,hb,hx⟩:=Jc5 Tryz.underlying22 (JdB 12 h0 (Jdy hsz 0 rfl rfl));rw [show Tryz.prog.cellsOf 29=13 from by kernel_rfl] at hr
 rw [show Tryz.prog.bytesOf 29=120 from by kernel_rfl] at hb
 obtain rfl:Value.slice A len cap=v:=qnE;obtain ⟨l,rfl,hl⟩:=Jj9 (f:=Jdu) (Q:=fun r=>r.path.size<=140737488351232) (fun x hxm=>JdC (n:=0) (hx x hxm))
 have hs:Sl Jdu 13 W (.slice A len cap) l:=hr qJ1;exact (Jkc _ l W hs (fun r hr=>zB3 (hl r hr) qJ1) (Jf6 (JcX hlaid))).mono close
theorem proved:Rows.TopNotesSaid:=
 OpenClaim.holds_of_wide 10 Tryz.f10 rfl rfl rfl rfl rfl rfl rfl ⟨rfl,rfl,rfl,rfl,rfl⟩ rfl rfl rfl rfl rfl qH1 Tryz.func10 qH1
  (of_decide_eq_true qH1) qA0
  (fun os started H enc _=>lifted os started H enc)
theorem card:Rows.TopNotesCardSaid:=
 Claim7.holds_tied_plain_at .later [] Rows.topNotesCard.laidKinds true Rows.topNotesCard.stood.harness false
  proved (fun _ h=>by cases h) qH1 (fun _ h=>by cases h) topNotes_row_tie rfl ⟨rfl,rfl⟩ qH1 rfl
  (fun f fn hf hfn=>by
   obtain rfl : f = 10 := Option.some.inj ((show Tryz.prog.funcNamed "aviary/aviarytop.TopNotes" = some 10 by kernel_rfl).symm.trans hf) |>.symm
   obtain rfl:fn=Tryz.f10:=(Option.some.inj (Tryz.func10.symm.trans hfn)).symm
   exact ⟨by kernel_rfl,fun j t ht=>by
    rw [Tryz.params10] at ht;have hm:t∈[22]:=qbE;have hall:([22].all fun u=>!Tryz.prog.wantsStandIn u)=true:=by kernel_rfl
    exact (show Tryz.prog.wantsStandIn t=false by simpa using List.all_eq_true.1 hall t hm)⟩)
  qH1
end topNotes
end
end Go.Proofs.YtjnooagaghdkdaaGreatDoor
