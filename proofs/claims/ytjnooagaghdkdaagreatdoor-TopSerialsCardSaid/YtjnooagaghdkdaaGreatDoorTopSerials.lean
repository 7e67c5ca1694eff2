/- The law TopSerials is true for every input; no conditions. -/
import Derived.Test.YtjnooagaghdkdaaGreatDoorZ46
set_option maxHeartbeats 10000000
set_option maxRecDepth 100000
set_option linter.all false
namespace Go.Proofs.YtjnooagaghdkdaaGreatDoor
section
open Go.RowKit Go.ChangeShapes Go.WideShapes Go.ChangeAt
set_option maxRecDepth 100000 in
set_option maxHeartbeats 2000000 in
theorem JhW (v:Value) (l:List Int) (V:World) (h:Sl cInt 1 V v l) (hlb:∀ x∈l,-9223372036854775808<=x/\x<=9223372036854775807) (ht:TabB V.heap.size V) :
  Calls Tryz.prog 4 #[v] V fun e w'=>e=.returned (.bool true)/\Below V.heap.size V w':=by
 have HP:=zA0 (fun (U:World) (hb:Below V.heap.size V U) (hbk:Bk U V.heap.size [.string noB] 9)=>gears_is V.heap.size v l U (h.apart hb (fun q e=>zH1 e.symm)) hlb (ht.new hb) hbk (fun x hx e=>by have:=ht.2 x hx; omega))
 obtain ⟨A,c,rfl,_⟩:=h.form;clear h ht hlb;go_enter Tryz.func4,Tryz.ntmps4
 go_upto_region 2 with fail
 refine Jax (fun W1 hW1=>?_)
 have HB1:=zA0 (show Below V.heap.size V W1 by rw [hW1.out]; exact zR)
 have HC:=zA0 (HP.out W1 HB1.out (by rw [hW1.out]; exact Bk.new _ _ _ rfl))
 clear hW1 HP;go_wp2_with ((go_at_call 16; refine (HC.out).mono ?_; rintro e w2 ⟨rfl,hk⟩; have HK:=zA0 hk; clear hk));refine zA1 (v:=.bool true) (by simp [results,Tryz.results4,go_sem]) rfl ⟨rfl,?_⟩
 have hs1:=HB1.out.size;exact ((zC3 HB1.out).trans HK.out (q:=fun x=>x=V.heap.size\/W1.heap.size<=x) (p:=fun x=>V.heap.size<=x) (fun x _ e=>by omega)).low (zA3 _) (fun x e=>e)
namespace topSerials
theorem own:ownKnob Tryz.prog.godebug=none:=by kernel_rfl
theorem laidOut:laidOutB Tryz.prog=true:=by kernel_rfl
set_option maxRecDepth 100000 in
set_option maxHeartbeats 1000000 in
theorem lifted (os:Os) (started:os.Started) (H:Type) (enc:TypeId × Value->H) :
  ReturnsInHanded {} Tryz.checked os 4 .any (fun w args=>(Rows.topSerialsSpec.pre enc Tryz.prog Tryz.f4 Rows.topSerialsRow.domain false w args/\laidMetH Tryz.prog Rows.topSerialsRow.laid w)/\sizedMet enc Tryz.prog Tryz.f4 (OpenSpec.ofChange Rows.topSerialsSpec) false w args) (Rows.topSerialsSpec.post enc Tryz.prog Tryz.f4 false true false false):=by
 refine returnsInHanded_of_change_and (C:=Tryz.checked) (X:=fun w _=>laidMetH Tryz.prog Rows.topSerialsRow.laid w) (fun _ _ _ hh h=>h.of_heap hh) own started qE1 Tryz.func4
  (ChangeSpec.witness_shaped (enc:=enc) (C:=Tryz.checked) (os:=os) (X:=fun w _=>laidMetH Tryz.prog Rows.topSerialsRow.laid w) false (World.laidAll Tryz.prog os Rows.topSerialsRow.laid) #[.slice none 0 0] 8 (World.laidAll_os _ _ _)
   (World.shaped_of_ZipB qE1 qE1) qE1 qE1 qE1
   (by rw [MakeChecks.laidMetH_plain _ _ _ qE1]; exact laidMet_laidAll _ qE1 qE1)) ?_
 intro W base args ds gs before hval0 hW0 _ hsz0 hL _;have hval:∀ (j:Nat) t v,Tryz.f4.params[j]?=some t->args[j]?=some v->Value.okWide Tryz.prog W .any base t v:=hval0;have hW:DataW.Whole enc Tryz.prog Tryz.f4.params.toList Rows.topSerialsSpec.vars false W args.toList ds gs before:=hW0;have hlt:∀ p∈before,p.block<W.heap.size:=fun p hp=>hW.lt p hp
 have hW1:=hW;obtain ⟨p,q,hA0,hV,rfl,hfz,hnd⟩:=hW1;have hA:DataW.TrodAll enc Tryz.prog W 0 (fun _=>true) true Tryz.f4.params.toList args.toList ds p:=hA0
 obtain ⟨rfl,rfl⟩:=trodVars_none hV;rw [Tryz.params4] at hA hval;obtain ⟨v0,vs0,d0,ds0,p0,q0,hargs,rfl,rfl,h0,r0⟩:=trodAll_cons hA;obtain ⟨rfl,rfl,rfl⟩:=trodAll_nil r0;obtain rfl:args=#[v0]:=by cases args; simp_all
 have hsz:(DataW.weightsEach Tryz.prog [43] [d0]).all (·<=reachBytes)=true:=hsz0;have close:∀ e W',(e=Ending.returned (.bool true)/\Below W.heap.size W W')->∃ v,e=.returned v/\Rows.topSerialsSpec.post enc Tryz.prog Tryz.f4 false true false false W #[v0] v W':=
  fun e W' ⟨he,hb⟩=>⟨_,he,law_post laidOut (of_decide_eq_true qE1) rfl rfl Tryz.underlying4 hW rfl hb⟩
 clear hA0 hsz0 hval0 hW0 hA hV hW hfz hnd;obtain ⟨xs0,hr0,hf0,els0,sp0,he0⟩:=JnW (ks:=[.i .i64]) 9 Tryz.underlying43 qE1 (hval 0 43 v0 rfl rfl) h0 (fun x hx=>hlt x (by simp [hx])) qG1
 have rb0:xs0.length*8<=140737488351232:=by
  rcases he0 with ⟨_,rfl⟩ | ⟨hd,hl⟩
  ·simp
  ·rw [hd] at hsz
   have:=sized_slice hsz (j:=0) rfl rfl Tryz.underlying43;rw [show Tryz.prog.bytesOf 3=8 from by kernel_rfl] at this
   simp only [reachBytes] at this;rw [hl] at this;exact zB5 (zL1 _ (Nat.le_add_right _ _)) this
 have hlaid : laidMet Tryz.prog [("math/bits.deBruijn32tab", Rows.laid_math_bits_deBruijn32tab), ("math/bits.deBruijn64tab", Rows.laid_math_bits_deBruijn64tab), ("internal/strconv.uint64pow10", Rows.laid_internal_strconv_uint64pow10), ("unicode/utf8.acceptRanges", Rows.laid_unicode_utf8_acceptRanges), ("unicode/utf8.first", Rows.laid_unicode_utf8_first)] W := by
  have h1:=hL;rw [MakeChecks.laidMetH_plain _ _ _ qE1] at h1;exact h1
 obtain ⟨l,rfl,hlo⟩:=typed (fun x hx=>fits_int (hf0 x hx))
 have hs:Sl cInt 1 W v0 l:=hr0;exact (JhW v0 l W hs (fun x hx=>hlo x hx) (tabB_of (Jma hlaid))).mono close
theorem proved:Rows.TopSerialsSaid:=
 OpenClaim.holds_of_wide 4 Tryz.f4 rfl rfl rfl rfl rfl rfl rfl ⟨rfl,rfl,rfl,rfl,rfl⟩ rfl rfl rfl rfl rfl qE1 Tryz.func4 qE1
  (of_decide_eq_true qE1) (by unfold Func.isWrapper; first | (rw [if_pos (by decide +kernel)]; kernel_rfl) | (rw [if_neg (by decide +kernel)]; exact ⟨rfl,rfl⟩))
  (fun os started H enc _=>lifted os started H enc)
theorem card:Rows.TopSerialsCardSaid:=
 Claim7.holds_tied_plain_at .later [] Rows.topSerialsCard.laidKinds true Rows.topSerialsCard.stood.harness false
  proved (fun _ h=>by cases h) qE1 (fun _ h=>by cases h) topSerials_row_tie rfl ⟨rfl,rfl⟩ qE1 rfl
  (fun f fn hf hfn=>by
   obtain rfl : f = 4 := Option.some.inj ((show Tryz.prog.funcNamed "aviary/aviarytop.TopSerials" = some 4 by kernel_rfl).symm.trans hf) |>.symm
   obtain rfl:fn=Tryz.f4:=(Option.some.inj (Tryz.func4.symm.trans hfn)).symm
   exact ⟨by kernel_rfl,fun j t ht=>by
    rw [Tryz.params4] at ht;have hm:t∈[43]:=by simpa using Array.mem_of_getElem? ht
    have hall:([43].all fun u=>!Tryz.prog.wantsStandIn u)=true:=by kernel_rfl
    exact (show Tryz.prog.wantsStandIn t=false by simpa using List.all_eq_true.1 hall t hm)⟩)
  qE1
end topSerials
end
end Go.Proofs.YtjnooagaghdkdaaGreatDoor
