/- The law TopLost is true for every input; no conditions. -/
import Derived.Test.YtjnooagaghdkdaaGreatDoorV44
set_option maxHeartbeats 10000000
set_option maxRecDepth 100000
set_option linter.all false
namespace Go.Proofs.YtjnooagaghdkdaaGreatDoor
section
open Go.RowKit Go.ChangeShapes Go.WideShapes Go.ChangeAt
set_option maxRecDepth 100000 in
set_option maxHeartbeats 2000000 in
theorem Jom (b:Nat):JhO 13 #[] (fun _=>False) b (fun _ _ _ _=>True):=by
 intro W σ τ Reg Reg' E E' sv cv dv d r A c hst _ hw hn _;rw [Array.append_empty];have HW:=zA0 hw;have HL:=zA0 (fun (hc:r.code=16)=>by
  have:=do_lost hst.inv d (by rw [hst.eq]; exact hc)
  rw [hst.eq] at this;exact this)
 have hdn:τ.dn.length<=300:=zB3 hst.inv'.dn.length_le (zB3 hst.inv'.len hst.inv'.k300);clear hst hn hw;obtain ⟨rc,rz,rpa,rda,⟨s1,s2,s3,s4,s5,s6,s7⟩,rns⟩:=r;simp only [rpV] at HL ⊢;go_enter Tryz.func13,Tryz.ntmps13
 by_cases hc:rc=16
 ·subst hc
  obtain ⟨h1,h2,h3⟩:=HL.out rfl;go_upto_region 3 with fail
  refine Jan (fun W1 hW1=>?_)
  have HB1:=zA0 (show Below W.heap.size W W1 by rw [hW1.out]; exact zR)
  have x0:W1.cell? ⟨W.heap.size,0,none⟩=some (.int .i64 d.kind):=qNE;have x1:W1.cell? ⟨W.heap.size+1,1,none⟩=some (.int .i64 rz):=qNE;have hs1:W.heap.size+2<=W1.heap.size:=qpE;have HA:=zA0 (wAck _ b W1 τ sv cv dv (HW.out.below HB1.out) hdn);clear hW1;go_upto_region 4 with ((go_at_call 14; refine (HA.out).mono ?_; rintro e w2 ⟨A2,c2,rfl,ho,hb⟩; have HO:=zA0 ho; have HB2:=zA0 hb; clear ho hb))
  have y0:w2.cell? ⟨W.heap.size,0,none⟩=some (.int .i64 d.kind):=(HB2.out.cell (p:=⟨W.heap.size,0,none⟩) qx0).trans x0;have y1:w2.cell? ⟨W.heap.size+1,1,none⟩=some (.int .i64 rz):=(HB2.out.cell (p:=⟨W.heap.size+1,1,none⟩) qx0).trans x1;have hs2:=HB2.out.size;have hBW2:Below W.heap.size W w2:=HB1.out.trans (HB2.out.mono HB1.out.size);clear x0 x1 HA;go_wp2_with fail;go_loopw [15] (fun i wr=>∃ m:Nat,m<=τ.dn.length/\i=.int .i64 m/\Below w2.heap.size w2 wr) (fun i _=>τ.dn.length - (intOf i).toNat)
  case atStart=>exact ⟨0,zB9 _,rfl,zB7 _ _⟩
  case round=>
   obtain ⟨m,hm,rfl,hbr⟩:=hrel;have z0:wr.cell? ⟨W.heap.size,0,none⟩=some (.int .i64 d.kind):=(hbr.cell (p:=⟨W.heap.size,0,none⟩) qx0).trans y0;have z1:wr.cell? ⟨W.heap.size+1,1,none⟩=some (.int .i64 rz):=(hbr.cell (p:=⟨W.heap.size+1,1,none⟩) qx0).trans y1;have hsr:=hbr.size
   by_cases hlt:m<τ.dn.length
   ·have hix:τ.dn[m]?=some (τ.dn[m]'hlt):=zA8 _
    obtain ⟨bd,off,hA,hbd,u0,u1,u2,u3,u4,u5,u6⟩:=(HO.out.sl.below hbr).Txn_at hix;subst hA;have hne:=h3 _ (zD1 hix);generalize τ.dn[m]'hlt=x at *;have hb1:(x.zxid == rz)=false:=zB8.2 hne;have hm0:(0:Int)<=(m:Int):=qCE;have hml:(m:Int)<(τ.dn.length:Int):=qCE;clear hix hne h3 HO HL;go_wp2_with fail;go_roundw
    case rel=>exact ⟨m+1,by omega,by go_num,zB6 hbr zR⟩
    case measure=>simp [intOf]; omega
   ·have hme:m=τ.dn.length:=by omega
    have hnl:decide (m<τ.dn.length)=false:=zA5 hlt;have HLD:=zA0 (Jj5 _ b wr τ sv cv dv ((HW.out.below HB1.out).below (HB2.out.trans (hbr.mono HB2.out.size))));rw [h2] at HLD;have hk1:(d.kind == 1)=true:=zG1.2 h1;go_wp2_with ((go_at_call 15; refine (HLD.out).mono ?_; rintro e w3 ⟨rfl,e7⟩; obtain rfl:=e7.symm));exact zA1 (v:=.bool true) (by simp [results,Tryz.results13,go_sem]) rfl ⟨rfl,trivial,zC0 (hBW2.trans (hbr.mono hBW2.size))⟩
 ·have hb:(rc != 16)=true:=zC6.2 hc
  go_wp2_with fail;exact zA1 (v:=.bool true) (by simp [results,Tryz.results13,go_sem]) rfl ⟨rfl,zC0 zR⟩
set_option maxRecDepth 100000 in
theorem Jmf (v:Value) (l:List Deed) (w:World) (h:Sl Jdu 13 w v l) (hd:∀ d∈l,d.path.size<=4611686018427387904) (ht:TabB w.heap.size w) :
  Calls Tryz.prog 3 #[v] w fun e w'=>e=.returned (.bool true)/\Below w.heap.size w w':=by
 have HP:=zA0 (Jgq 13 #[] (fun _=>False) (fun _ _ _ _=>True) v l w ⟨h,.inr (fun _ e=>e.elim)⟩ hd ht (fun _ e=>e.elim) (fun _ _ e=>e.elim) (fun _ _ _ _ _ _ _=>trivial) trivial (fun args W=>by simp [go_sem]) (fun b _=>Jom b))
 obtain ⟨A,c,rfl,_⟩:=h.form;clear h hd ht;go_enter Tryz.func3,Tryz.ntmps3
 go_wp2_with ((go_at_call 12; refine (HP.out).mono ?_; rintro e w1 ⟨b,σ,Reg,E,sv,cv,dv,rfl,hb,hpl⟩; skip));exact zA1 (v:=.bool true) (by simp [results,Tryz.results3,go_sem]) rfl ⟨rfl,hpl.keep.low (zA3 _) (fun q e=>e.elim (fun e=>e.elim) id)⟩
namespace topLost
theorem own:ownKnob Tryz.prog.godebug=none:=by kernel_rfl
theorem laidOut:laidOutB Tryz.prog=true:=by kernel_rfl
set_option maxRecDepth 100000 in
set_option maxHeartbeats 1000000 in
theorem lifted (os:Os) (started:os.Started) (H:Type) (enc:TypeId × Value->H) :
  ReturnsInHanded {} Tryz.checked os 3 .any (fun w args=>(Rows.topLostSpec.pre enc Tryz.prog Tryz.f3 Rows.topLostRow.domain false w args/\laidMetH Tryz.prog Rows.topLostRow.laid w)/\sizedMet enc Tryz.prog Tryz.f3 (OpenSpec.ofChange Rows.topLostSpec) false w args) (Rows.topLostSpec.post enc Tryz.prog Tryz.f3 false true false false):=by
 refine returnsInHanded_of_change_and (C:=Tryz.checked) (X:=fun w _=>laidMetH Tryz.prog Rows.topLostRow.laid w) (fun _ _ _ hh h=>h.of_heap hh) own started qH1 Tryz.func3
  (ChangeSpec.witness_shaped (enc:=enc) (C:=Tryz.checked) (os:=os) (X:=fun w _=>laidMetH Tryz.prog Rows.topLostRow.laid w) false (World.laidAll Tryz.prog os Rows.topLostRow.laid) #[.slice none 0 0] 8 (World.laidAll_os _ _ _)
   (World.shaped_of_ZipB qH1 qH1) qH1 qH1 qH1
   qB0) ?_
 intro W base args ds gs before hval0 hW0 _ hsz0 hL _;have hval:∀ (j:Nat) t v,Tryz.f3.params[j]?=some t->args[j]?=some v->Value.okWide Tryz.prog W .any base t v:=hval0;have hW:DataW.Whole enc Tryz.prog Tryz.f3.params.toList Rows.topLostSpec.vars false W args.toList ds gs before:=hW0;have hlt:∀ p∈before,p.block<W.heap.size:=fun p hp=>hW.lt p hp
 have hW1:=hW;obtain ⟨p,q,hA0,hV,rfl,hfz,hnd⟩:=hW1;have hA:DataW.TrodAll enc Tryz.prog W 0 (fun _=>true) true Tryz.f3.params.toList args.toList ds p:=hA0
 obtain ⟨rfl,rfl⟩:=trodVars_none hV;rw [Tryz.params3] at hA hval;obtain ⟨v0,vs0,d0,ds0,p0,q0,hargs,rfl,rfl,h0,r0⟩:=trodAll_cons hA;obtain ⟨rfl,rfl,rfl⟩:=trodAll_nil r0;obtain rfl:args=#[v0]:=by cases args; simp_all
 have hsz:(DataW.weightsEach Tryz.prog [22] [d0]).all (·<=reachBytes)=true:=hsz0;have close:∀ e W',(e=Ending.returned (.bool true)/\Below W.heap.size W W')->∃ v,e=.returned v/\Rows.topLostSpec.post enc Tryz.prog Tryz.f3 false true false false W #[v0] v W':=
  fun e W' ⟨he,hb⟩=>⟨_,he,JeR laidOut (of_decide_eq_true qH1) rfl rfl Tryz.underlying4 hW rfl hb⟩
 clear hA0 hsz0 hval0 hW0 hA hV hW hfz hnd
 have hlaid : laidMet Tryz.prog [("math/bits.deBruijn32tab", Rows.laid_math_bits_deBruijn32tab), ("math/bits.deBruijn64tab", Rows.laid_math_bits_deBruijn64tab), ("internal/strconv.uint64pow10", Rows.laid_internal_strconv_uint64pow10), ("unicode/utf8.acceptRanges", Rows.laid_unicode_utf8_acceptRanges), ("unicode/utf8.first", Rows.laid_unicode_utf8_first)] W := by
  have h1:=hL;rw [MakeChecks.laidMetH_plain _ _ _ qH1] at h1;exact h1
 obtain ⟨A,len,cap,rfl⟩:=okWide_slice Tryz.underlying22 (hval 0 _ v0 rfl rfl);obtain ⟨v,xs,hv,hr,hb,hx⟩:=Jc5 Tryz.underlying22 (JdB 12 h0 (Jdy hsz 0 rfl rfl));rw [show Tryz.prog.cellsOf 29=13 from by kernel_rfl] at hr
 rw [show Tryz.prog.bytesOf 29=120 from by kernel_rfl] at hb
 obtain rfl:Value.slice A len cap=v:=qnE;obtain ⟨l,rfl,hl⟩:=Jj9 (f:=Jdu) (Q:=fun r=>r.path.size<=140737488351232) (fun x hxm=>JdC (n:=0) (hx x hxm))
 have hs:Sl Jdu 13 W (.slice A len cap) l:=hr qJ1;exact (Jmf _ l W hs (fun r hr=>zB3 (hl r hr) qJ1) (Jf6 (JcX hlaid))).mono close
theorem proved:Rows.TopLostSaid:=
 OpenClaim.holds_of_wide 3 Tryz.f3 rfl rfl rfl rfl rfl rfl rfl ⟨rfl,rfl,rfl,rfl,rfl⟩ rfl rfl rfl rfl rfl qH1 Tryz.func3 qH1
  (of_decide_eq_true qH1) qA0
  (fun os started H enc _=>lifted os started H enc)
theorem card:Rows.TopLostCardSaid:=
 Claim7.holds_tied_plain_at .later [] Rows.topLostCard.laidKinds true Rows.topLostCard.stood.harness false
  proved (fun _ h=>by cases h) qH1 (fun _ h=>by cases h) topLost_row_tie rfl ⟨rfl,rfl⟩ qH1 rfl
  (fun f fn hf hfn=>by
   obtain rfl : f = 3 := Option.some.inj ((show Tryz.prog.funcNamed "aviary/aviarytop.TopLost" = some 3 by kernel_rfl).symm.trans hf) |>.symm
   obtain rfl:fn=Tryz.f3:=(Option.some.inj (Tryz.func3.symm.trans hfn)).symm
   exact ⟨by kernel_rfl,fun j t ht=>by
    rw [Tryz.params3] at ht;have hm:t∈[22]:=qbE;have hall:([22].all fun u=>!Tryz.prog.wantsStandIn u)=true:=by kernel_rfl
    exact (show Tryz.prog.wantsStandIn t=false by simpa using List.all_eq_true.1 hall t hm)⟩)
  qH1
end topLost
end
end Go.Proofs.YtjnooagaghdkdaaGreatDoor
