/- The law TopEpochs is true for every input; no conditions. -/
import Derived.Test.YtjnooagaghdkdaaGreatDoorV44
set_option maxHeartbeats 10000000
set_option maxRecDepth 100000
set_option linter.all false
namespace Go.Proofs.YtjnooagaghdkdaaGreatDoor
section
open Go.RowKit Go.ChangeShapes Go.WideShapes Go.ChangeAt
def LastP (g:Nat) (_:Wd) (_:List Txn) (E:Int) (W:World):Prop:=∃ last:Int,Bk W g [.int .i64 last] 3/\last<=E
set_option maxRecDepth 100000 in
set_option maxHeartbeats 2000000 in
theorem JkM (g b:Nat):JhO 27 #[.pointer (some ⟨g,0,none⟩)] (fun q=>q=g) b (LastP g):=by
 intro W σ τ Reg Reg' E E' sv cv dv d r A c hst hP hw hn hp0;obtain ⟨last,hbk,hle⟩:=hP;have hle':last<=E':=Int.le_trans hle hst.le;show Calls Tryz.prog 27 #[.pointer (some ⟨b,0,none⟩),JmW d,rpV r A c,.pointer (some ⟨g,0,none⟩)] W _;have HW:=zA0 hw;have HI:=zA0 hst.inv';have HEL:=zA0 hst.el;have HBK:=zA0 hbk;have hgW:g<W.heap.size:=hbk.lt;clear hst hn hw hbk hp0;obtain ⟨rc,rz,rpa,rda,⟨s1,s2,s3,s4,s5,s6,s7⟩,rns⟩:=r;simp only [rpV] at HEL ⊢;go_enter Tryz.func27,Tryz.ntmps27
 go_upto_region 1 with fail
 refine Jan (fun W1 hW1=>?_)
 have HB1:=zA0 (show Below W.heap.size W W1 by rw [hW1.out]; exact zR)
 have x0:W1.cell? ⟨W.heap.size,0,none⟩=some (.int .i64 d.kind):=qNE;have x1:W1.cell? ⟨W.heap.size+1,0,none⟩=some (.int .i64 rc):=qNE;have hs1:W.heap.size+2<=W1.heap.size:=qpE;have HLD:=zA0 (Jj5 _ b W1 τ sv cv dv (HW.out.below HB1.out));clear hW1
 by_cases hl:τ.lead<0
 ·have hbl:decide (τ.lead<0)=true:=zB2 hl
  go_wp2_with ((go_at_call 15; refine (HLD.out).mono ?_; rintro e w3 ⟨rfl,e7⟩; obtain rfl:=e7.symm));exact zA1 (v:=.bool true) (by simp [results,Tryz.results27,go_sem]) rfl ⟨rfl,⟨last,HBK.out.below HB1.out,hle'⟩,zC0 HB1.out⟩
 ·obtain ⟨l,hl1,hl3,hu,hid,hdn,hep,_⟩:=HI.out.led hl
  rw [hl1] at HLD;have hbl:decide ((l:Int)<0)=false:=zA5 qK1;have HSV:=zA0 (Jnk (fun _=>False) _ b W1 τ sv cv dv Reg' E' τ.deeds (HW.out.below HB1.out) HI.out.toInv0 (fun _ e=>e.elim) l hl3)
  generalize τ.s l=S at *;obtain ⟨yu,yd,yi,ye,yl,yn,yt,yo,ys,yw⟩:=S;simp only at hu hid hdn hep;subst hu;subst hid;subst hdn;subst hep;clear hl hl1 HI;go_upto_region 5 with (first | (go_at_call 15; refine (HLD.out).mono ?_; rintro e w3 ⟨rfl,e7⟩; obtain rfl:=e7.symm) | (go_at_call 26; (with_reducible refine (HSV.out).mono ?_); rintro e w3 ⟨⟨ea,ec,ga,gc,ia,ic,ja,jc,ka,kc⟩,rfl,hin,hb3⟩; have HB3:=zA0 hb3; clear hin hb3))
  refine Jan (fun W4 hW4=>?_)
  have HB4:=zA0 (show Below W1.heap.size W1 W4 by rw [hW4.out]; exact zB6 HB3.out zR)
  have hs3:=HB3.out.size;have z0:W4.cell? ⟨w3.heap.size,0,none⟩=some (.bool true):=qzE;have z2:W4.cell? ⟨w3.heap.size,2,none⟩=some (.int .i64 (l:Int)):=qzE;have z3:W4.cell? ⟨w3.heap.size,3,none⟩=some (.int .i64 ye):=qzE;have z4:W4.cell? ⟨w3.heap.size,4,none⟩=some (.slice ga yl.length gc):=qzE;have z5:W4.cell? ⟨w3.heap.size,5,none⟩=some (.int .i64 (yl.length:Int)):=qzE;have hw3:w3.heap.size<W4.heap.size:=by rw [hW4.out]; simp
  have y0:=(HB4.out.cell (p:=⟨W.heap.size,0,none⟩) qx0).trans x0;have y1:=(HB4.out.cell (p:=⟨W.heap.size+1,0,none⟩) qx0).trans x1;have HBK4:=zA0 ((HBK.out.below HB1.out).below HB4.out);have u0:W4.cell? ⟨g,0,none⟩=some (.int .i64 last):=HBK4.out.cell 0;have uf:W4.frozen? ⟨g,0,none⟩=false:=HBK4.out.frozen 0;have hg4:g<W4.heap.size:=HBK4.out.lt;have hlt:decide (ye<last)=false:=zA5 qK1;have HBW4:=zA0 (HB1.out.trans (HB4.out.mono HB1.out.size));have hne:d.kind=5->rc=0->(ye == last)=false:=fun h1 h2=>zB8.2 (by have:=HEL.out h1 h2; omega)
  have HNE:=zA0 hne;have fin:Hid (LastP g τ Reg' ye (W4.setCell ⟨g,0,none⟩ (.int .i64 ye))/\Keeps (fun q=>q=g) W (W4.setCell ⟨g,0,none⟩ (.int .i64 ye))):=zA0 ⟨⟨ye,HBK4.out.put 0 (.int .i64 ye),zD9 _⟩,(zC0 HBW4.out).trans (zD5 (p:=fun q=>q=g) (zD4 _ _ _ _) (fun q e=>by injection e with e; exact e.symm)) (fun _ _ e=>e)⟩
  clear hW4 hne HB3 HB4 HBK HBK4 x0 x1 HSV HLD hle hle'
  by_cases k5:d.kind=5
  ·have b5:(d.kind == 5)=true:=zG1.2 k5
   by_cases c0:rc=0
   ·have b0:(rc == 0)=true:=zG1.2 c0
    have be:=HNE.out k5 c0;clear k5 c0;go_wp2_with fail;exact zA1 (v:=.bool true) (by simp [results,Tryz.results27,go_sem]) rfl ⟨rfl,fin.out.1,fin.out.2⟩
   ·have b0:(rc == 0)=false:=zB8.2 c0
    clear k5 c0;go_wp2_with fail;exact zA1 (v:=.bool true) (by simp [results,Tryz.results27,go_sem]) rfl ⟨rfl,fin.out.1,fin.out.2⟩
  ·have b5:(d.kind == 5)=false:=zB8.2 k5
   clear k5;go_wp2_with fail;exact zA1 (v:=.bool true) (by simp [results,Tryz.results27,go_sem]) rfl ⟨rfl,fin.out.1,fin.out.2⟩
set_option maxRecDepth 100000 in
theorem JiP (v:Value) (l:List Deed) (w:World) (h:Sl Jdu 13 w v l) (hd:∀ d∈l,d.path.size<=4611686018427387904) (ht:TabB w.heap.size w) :
  Calls Tryz.prog 8 #[v] w fun e w'=>e=.returned (.bool true)/\Below w.heap.size w w':=by
 have HP:=zA0 (fun (W:World) (hb:Below w.heap.size w W) (hbk:Bk W w.heap.size [.int .i64 0] 3)=>Jgq 27 #[.pointer (some ⟨w.heap.size,0,none⟩)] (fun q=>q=w.heap.size) (LastP w.heap.size) v l W (h.apart hb (fun q e=>zG6 e.symm)) hd (ht.new hb) (fun q e=>e▸hbk.lt) (fun g hg e=>by have:=ht.2 g hg; omega) (fun σ Reg E W1 W2 h1 ⟨last,h2,h3⟩=>⟨last,(h1 w.heap.size rfl).trans h2,h3⟩) ⟨0,hbk,zD9 _⟩ (fun args W=>by simp [go_sem]) (fun b _=>JkM w.heap.size b))
 obtain ⟨A,c,rfl,_⟩:=h.form;clear h hd ht;go_enter Tryz.func8,Tryz.ntmps8
 go_upto_region 2 with fail
 refine Jan (fun W1 hW1=>?_)
 have HB1:=zA0 (show Below w.heap.size w W1 by rw [hW1.out]; exact zR)
 have HC:=zA0 (HP.out W1 HB1.out (by rw [hW1.out]; first | exact Bk.new _ _ _ rfl | exact (Bk.new _ _ _ rfl).put 0 (.int .i64 0)))
 clear hW1 HP;go_wp2_with ((go_at_call 12; refine (HC.out).mono ?_; rintro e w2 ⟨b,σ,Reg,E,sv,cv,dv,rfl,hb,hpl⟩; skip));exact zA1 (v:=.bool true) (by simp [results,Tryz.results8,go_sem]) rfl ⟨rfl,(zC0 HB1.out |>.trans hpl.keep (q:=fun q=>q=w.heap.size\/W1.heap.size<=q) (p:=fun q=>w.heap.size<=q) (fun q _ e=>by have:=HB1.out.size; show w.heap.size<=q; omega)).low (zA3 _) (fun q e=>e)⟩
namespace topEpochs
theorem own:ownKnob Tryz.prog.godebug=none:=by kernel_rfl
theorem laidOut:laidOutB Tryz.prog=true:=by kernel_rfl
set_option maxRecDepth 100000 in
set_option maxHeartbeats 1000000 in
theorem lifted (os:Os) (started:os.Started) (H:Type) (enc:TypeId × Value->H) :
  ReturnsInHanded {} Tryz.checked os 8 .any (fun w args=>(Rows.topEpochsSpec.pre enc Tryz.prog Tryz.f8 Rows.topEpochsRow.domain false w args/\laidMetH Tryz.prog Rows.topEpochsRow.laid w)/\sizedMet enc Tryz.prog Tryz.f8 (OpenSpec.ofChange Rows.topEpochsSpec) false w args) (Rows.topEpochsSpec.post enc Tryz.prog Tryz.f8 false true false false):=by
 refine returnsInHanded_of_change_and (C:=Tryz.checked) (X:=fun w _=>laidMetH Tryz.prog Rows.topEpochsRow.laid w) (fun _ _ _ hh h=>h.of_heap hh) own started qH1 Tryz.func8
  (ChangeSpec.witness_shaped (enc:=enc) (C:=Tryz.checked) (os:=os) (X:=fun w _=>laidMetH Tryz.prog Rows.topEpochsRow.laid w) false (World.laidAll Tryz.prog os Rows.topEpochsRow.laid) #[.slice none 0 0] 8 (World.laidAll_os _ _ _)
   (World.shaped_of_ZipB qH1 qH1) qH1 qH1 qH1
   qB0) ?_
 intro W base args ds gs before hval0 hW0 _ hsz0 hL _;have hval:∀ (j:Nat) t v,Tryz.f8.params[j]?=some t->args[j]?=some v->Value.okWide Tryz.prog W .any base t v:=hval0;have hW:DataW.Whole enc Tryz.prog Tryz.f8.params.toList Rows.topEpochsSpec.vars false W args.toList ds gs before:=hW0;have hlt:∀ p∈before,p.block<W.heap.size:=fun p hp=>hW.lt p hp
 have hW1:=hW;obtain ⟨p,q,hA0,hV,rfl,hfz,hnd⟩:=hW1;have hA:DataW.TrodAll enc Tryz.prog W 0 (fun _=>true) true Tryz.f8.params.toList args.toList ds p:=hA0
 obtain ⟨rfl,rfl⟩:=trodVars_none hV;rw [Tryz.params8] at hA hval;obtain ⟨v0,vs0,d0,ds0,p0,q0,hargs,rfl,rfl,h0,r0⟩:=trodAll_cons hA;obtain ⟨rfl,rfl,rfl⟩:=trodAll_nil r0;obtain rfl:args=#[v0]:=by cases args; simp_all
 have hsz:(DataW.weightsEach Tryz.prog [22] [d0]).all (·<=reachBytes)=true:=hsz0;have close:∀ e W',(e=Ending.returned (.bool true)/\Below W.heap.size W W')->∃ v,e=.returned v/\Rows.topEpochsSpec.post enc Tryz.prog Tryz.f8 false true false false W #[v0] v W':=
  fun e W' ⟨he,hb⟩=>⟨_,he,JeR laidOut (of_decide_eq_true qH1) rfl rfl Tryz.underlying4 hW rfl hb⟩
 clear hA0 hsz0 hval0 hW0 hA hV hW hfz hnd
 have hlaid : laidMet Tryz.prog [("math/bits.deBruijn32tab", Rows.laid_math_bits_deBruijn32tab), ("math/bits.deBruijn64tab", Rows.laid_math_bits_deBruijn64tab), ("internal/strconv.uint64pow10", Rows.laid_internal_strconv_uint64pow10), ("unicode/utf8.acceptRanges", Rows.laid_unicode_utf8_acceptRanges), ("unicode/utf8.first", Rows.laid_unicode_utf8_first)] W := by
  have h1:=hL;rw [MakeChecks.laidMetH_plain _ _ _ qH1] at h1;exact h1
 obtain ⟨A,len,cap,rfl⟩:=okWide_slice Tryz.underlying22 (hval 0 _ v0 rfl rfl);obtain ⟨v,xs,hv,hr,hb,hx⟩:=Jc5 Tryz.underlying22 (JdB 12 h0 (Jdy hsz 0 rfl rfl));rw [show Tryz.prog.cellsOf 29=13 from by kernel_rfl] at hr
 rw [show Tryz.prog.bytesOf 29=120 from by kernel_rfl] at hb
 obtain rfl:Value.slice A len cap=v:=qnE;obtain ⟨l,rfl,hl⟩:=Jj9 (f:=Jdu) (Q:=fun r=>r.path.size<=140737488351232) (fun x hxm=>JdC (n:=0) (hx x hxm))
 have hs:Sl Jdu 13 W (.slice A len cap) l:=hr qJ1;exact (JiP _ l W hs (fun r hr=>zB3 (hl r hr) qJ1) (Jf6 (JcX hlaid))).mono close
theorem proved:Rows.TopEpochsSaid:=
 OpenClaim.holds_of_wide 8 Tryz.f8 rfl rfl rfl rfl rfl rfl rfl ⟨rfl,rfl,rfl,rfl,rfl⟩ rfl rfl rfl rfl rfl qH1 Tryz.func8 qH1
  (of_decide_eq_true qH1) qA0
  (fun os started H enc _=>lifted os started H enc)
theorem card:Rows.TopEpochsCardSaid:=
 Claim7.holds_tied_plain_at .later [] Rows.topEpochsCard.laidKinds true Rows.topEpochsCard.stood.harness false
  proved (fun _ h=>by cases h) qH1 (fun _ h=>by cases h) topEpochs_row_tie rfl ⟨rfl,rfl⟩ qH1 rfl
  (fun f fn hf hfn=>by
   obtain rfl : f = 8 := Option.some.inj ((show Tryz.prog.funcNamed "aviary/aviarytop.TopEpochs" = some 8 by kernel_rfl).symm.trans hf) |>.symm
   obtain rfl:fn=Tryz.f8:=(Option.some.inj (Tryz.func8.symm.trans hfn)).symm
   exact ⟨by kernel_rfl,fun j t ht=>by
    rw [Tryz.params8] at ht;have hm:t∈[22]:=qbE;have hall:([22].all fun u=>!Tryz.prog.wantsStandIn u)=true:=by kernel_rfl
    exact (show Tryz.prog.wantsStandIn t=false by simpa using List.all_eq_true.1 hall t hm)⟩)
  qH1
end topEpochs
end
end Go.Proofs.YtjnooagaghdkdaaGreatDoor
