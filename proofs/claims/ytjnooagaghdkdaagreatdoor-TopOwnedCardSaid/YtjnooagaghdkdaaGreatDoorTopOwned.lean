/- The law TopOwned is true for every input; no conditions. -/
import Derived.Test.YtjnooagaghdkdaaGreatDoorV44
set_option maxHeartbeats 10000000
set_option maxRecDepth 100000
set_option linter.all false
namespace Go.Proofs.YtjnooagaghdkdaaGreatDoor
section
open Go.RowKit Go.ChangeShapes Go.WideShapes Go.ChangeAt
theorem owned_is {S:Srv} (h:Jam (trOf S)=true) {n:Node} (hn:n∈S.nodes) (h0:n.owner≠0):isI S.sess n.owner=true:=by
 have g:=(JaP h).1;rcases g.own n hn with e | ⟨e,_⟩
 ·exact absurd e h0
 ·exact (Jfv g.sess).2 e
set_option maxRecDepth 100000 in
set_option maxHeartbeats 2000000 in
theorem Jms (b:Nat):JhO 28 #[] (fun _=>False) b (fun _ _ _ _=>True):=by
 intro W σ τ Reg Reg' E E' sv cv dv d r A c hst _ hw hn _;rw [Array.append_empty];have HW:=zA0 hw;have HI:=zA0 hst.inv';clear hst hn hw;obtain ⟨rc,rz,rpa,rda,⟨s1,s2,s3,s4,s5,s6,s7⟩,rns⟩:=r;simp only [rpV];go_enter Tryz.func28,Tryz.ntmps28
 go_wp2_with fail;go_loopw [7] (fun i wr=>∃ m:Nat,m<=3/\i=.int .i64 m/\Below W.heap.size W wr) (fun i _=>3 - (intOf i).toNat)
 case atStart=>exact ⟨0,zB9 _,rfl,zR⟩
 case round=>
  obtain ⟨m,hm,rfl,hbr⟩:=hrel
  by_cases hlt:m<3
  ·have HSV:=zA0 (Jnk (fun _=>False) _ b wr τ sv cv dv Reg' E' τ.deeds (HW.out.below hbr) HI.out.toInv0 (fun _ e=>e.elim) m hlt)
   have HGD:=zA0 (HI.out.toInv0.owned hlt);have hsl:=JhX HI.out.toInv0 hlt;have hnd:=JeN HI.out.toInv0 hlt;have HBR:=zA0 hbr;clear hbr;generalize τ.s m=S at *;obtain ⟨yu,yd,yi,ye,yl,yn,yt,yo,ys,yw⟩:=S;simp only at hsl hnd;have hfd:∀ (ea:Option Addr) (ec:Nat) (ga:Option Addr) (gc:Nat) (ia:Option Addr) (ic:Nat) (ja:Option Addr) (jc:Nat) (ka:Option Addr) (kc:Nat) (w:World),(Instr.field 71 (.agg #[.bool yu,.slice ea yd.length ec,.int .i64 yi,.int .i64 ye,.slice ga yl.length gc,.int .i64 yn,.int .i64 yt,.slice ia yo.length ic,.slice ja ys.length jc,.slice ka yw.length kc]) 3).run Tryz.prog w=.ok (.agg #[.int .i64 yt,.slice ia yo.length ic,.slice ja ys.length jc]) w:=fun _ _ _ _ _ _ _ _ _ _ _=>by kernel_rfl
   simp only [vSrv] at HSV;go_upto_region 5 with ((go_at_call 26; (with_reducible refine (HSV.out).mono ?_); rintro e w3 ⟨⟨ea,ec,ga,gc,ia,ic,ja,jc,ka,kc⟩,rfl,hin,hb3⟩; have HIN:=zA0 hin; have HB3:=zA0 hb3; clear hin hb3))
   refine Jan (fun W4 hW4=>?_)
   have hB4:Below w3.heap.size w3 W4:=qdE;have HX:=zA0 (show Bk W4 w3.heap.size [.int .i64 yt,.slice ia yo.length ic,.slice ja ys.length jc] 68 from by rw [hW4.out]; exact Bk.new _ _ _ rfl)
   have HNO:=zA0 (HIN.out.nodes.1.below hB4);have HSE:=zA0 (HIN.out.sess.1.below hB4);have HBW:=zA0 ((HBR.out.trans (HB3.out.mono HBR.out.size)).trans (hB4.mono (zB3 HBR.out.size HB3.out.size)));have HOP:=zA0 (fun (s:Int) (w:World) (hb:Below W4.heap.size W4 w)=>Jha yt (.slice ja ys.length jc) ia yo.length ic ys s w (HSE.out.below hb) qK1)
   clear hW4 hB4 HIN HB3 HBR HSV hfd;go_wp2_with fail;go_loopw [9] (fun i wr=>∃ n:Nat,n<=yo.length/\i=.int .i64 n/\Below W4.heap.size W4 wr) (fun i _=>yo.length - (intOf i).toNat)
   case atStart=>exact ⟨0,zB9 _,rfl,zB7 _ _⟩
   case round=>
    obtain ⟨n,hn,rfl,hbr⟩:=hrel;have z0:wr.cell? ⟨w3.heap.size,0,none⟩=some (.int .i64 yt):=(HX.out.below hbr).cell 0;have z1:wr.cell? ⟨w3.heap.size,1,none⟩=some (.slice ia yo.length ic):=(HX.out.below hbr).cell 1;have z2:wr.cell? ⟨w3.heap.size,2,none⟩=some (.slice ja ys.length jc):=(HX.out.below hbr).cell 2;have hlt3:w3.heap.size<wr.heap.size:=(HX.out.below hbr).lt
    by_cases hnl:n<yo.length
    ·have hix:yo[n]?=some (yo[n]'hnl):=zA8 _
     obtain ⟨bd,off,hA,hbd,u0,u1,u2,u3,u4,u5,u6,u7,u8⟩:=(HNO.out.below hbr).Node_at hix;subst hA;have HOW:=zA0 (fun h0=>owned_is HGD.out (zD1 hix) h0)
     generalize yo[n]'hnl=x at *;have hm0:(0:Int)<=(n:Int):=qCE;have hml:(n:Int)<(yo.length:Int):=qCE;clear hix u0 u1 u2 u3 u4 u5 u6 u8
     by_cases h0:x.owner=0
     ·have hb0:(x.owner != 0)=false:=by rw [h0]; rfl
      rw [h0] at u7;clear h0 HOW;go_wp2_with fail;go_roundw
      case rel=>exact ⟨n+1,by omega,by go_num,hbr⟩
      case measure=>simp [intOf]; omega
     ·have hb0:(x.owner != 0)=true:=zC6.2 h0
      have hop:=HOW.out h0;have HO1:=zA0 (HOP.out x.owner wr hbr);rw [hop] at HO1;clear h0 HOW hop;go_wp2_with ((go_at_call 29; refine zc (HO1.out) (fun ext5 d5=>?_)))
      go_roundw
      case rel=>exact ⟨n+1,by omega,by go_num,zB6 hbr zR⟩
      case measure=>simp [intOf]; omega
    ·have hne:n=yo.length:=by omega
     have hnl2:decide (n<yo.length)=false:=zA5 hnl;have HB:=zA0 (HBW.out.trans (hbr.mono HBW.out.size));go_wp2_with fail;go_roundw
     case rel=>exact ⟨m+1,by omega,by go_num,HB.out⟩
     case measure=>simp [intOf]; omega
  ·have hm3:m=3:=by omega
   subst hm3;go_wp2_with fail;exact zA1 (v:=.bool true) (by simp [results,Tryz.results28,go_sem]) rfl ⟨rfl,trivial,zC0 hbr⟩
set_option maxRecDepth 100000 in
theorem Jkb (v:Value) (l:List Deed) (w:World) (h:Sl Jdu 13 w v l) (hd:∀ d∈l,d.path.size<=4611686018427387904) (ht:TabB w.heap.size w) :
  Calls Tryz.prog 9 #[v] w fun e w'=>e=.returned (.bool true)/\Below w.heap.size w w':=by
 have HP:=zA0 (Jgq 28 #[] (fun _=>False) (fun _ _ _ _=>True) v l w ⟨h,.inr (fun _ e=>e.elim)⟩ hd ht (fun _ e=>e.elim) (fun _ _ e=>e.elim) (fun _ _ _ _ _ _ _=>trivial) trivial (fun args W=>by simp [go_sem]) (fun b _=>Jms b))
 obtain ⟨A,c,rfl,_⟩:=h.form;clear h hd ht;go_enter Tryz.func9,Tryz.ntmps9
 go_wp2_with ((go_at_call 12; refine (HP.out).mono ?_; rintro e w1 ⟨b,σ,Reg,E,sv,cv,dv,rfl,hb,hpl⟩; skip));exact zA1 (v:=.bool true) (by simp [results,Tryz.results9,go_sem]) rfl ⟨rfl,hpl.keep.low (zA3 _) (fun q e=>e.elim (fun e=>e.elim) id)⟩
namespace topOwned
theorem own:ownKnob Tryz.prog.godebug=none:=by kernel_rfl
theorem laidOut:laidOutB Tryz.prog=true:=by kernel_rfl
set_option maxRecDepth 100000 in
set_option maxHeartbeats 1000000 in
theorem lifted (os:Os) (started:os.Started) (H:Type) (enc:TypeId × Value->H) :
  ReturnsInHanded {} Tryz.checked os 9 .any (fun w args=>(Rows.topOwnedSpec.pre enc Tryz.prog Tryz.f9 Rows.topOwnedRow.domain false w args/\laidMetH Tryz.prog Rows.topOwnedRow.laid w)/\sizedMet enc Tryz.prog Tryz.f9 (OpenSpec.ofChange Rows.topOwnedSpec) false w args) (Rows.topOwnedSpec.post enc Tryz.prog Tryz.f9 false true false false):=by
 refine returnsInHanded_of_change_and (C:=Tryz.checked) (X:=fun w _=>laidMetH Tryz.prog Rows.topOwnedRow.laid w) (fun _ _ _ hh h=>h.of_heap hh) own started qH1 Tryz.func9
  (ChangeSpec.witness_shaped (enc:=enc) (C:=Tryz.checked) (os:=os) (X:=fun w _=>laidMetH Tryz.prog Rows.topOwnedRow.laid w) false (World.laidAll Tryz.prog os Rows.topOwnedRow.laid) #[.slice none 0 0] 8 (World.laidAll_os _ _ _)
   (World.shaped_of_ZipB qH1 qH1) qH1 qH1 qH1
   qB0) ?_
 intro W base args ds gs before hval0 hW0 _ hsz0 hL _;have hval:∀ (j:Nat) t v,Tryz.f9.params[j]?=some t->args[j]?=some v->Value.okWide Tryz.prog W .any base t v:=hval0;have hW:DataW.Whole enc Tryz.prog Tryz.f9.params.toList Rows.topOwnedSpec.vars false W args.toList ds gs before:=hW0;have hlt:∀ p∈before,p.block<W.heap.size:=fun p hp=>hW.lt p hp
 have hW1:=hW;obtain ⟨p,q,hA0,hV,rfl,hfz,hnd⟩:=hW1;have hA:DataW.TrodAll enc Tryz.prog W 0 (fun _=>true) true Tryz.f9.params.toList args.toList ds p:=hA0
 obtain ⟨rfl,rfl⟩:=trodVars_none hV;rw [Tryz.params9] at hA hval;obtain ⟨v0,vs0,d0,ds0,p0,q0,hargs,rfl,rfl,h0,r0⟩:=trodAll_cons hA;obtain ⟨rfl,rfl,rfl⟩:=trodAll_nil r0;obtain rfl:args=#[v0]:=by cases args; simp_all
 have hsz:(DataW.weightsEach Tryz.prog [22] [d0]).all (·<=reachBytes)=true:=hsz0;have close:∀ e W',(e=Ending.returned (.bool true)/\Below W.heap.size W W')->∃ v,e=.returned v/\Rows.topOwnedSpec.post enc Tryz.prog Tryz.f9 false true false false W #[v0] v W':=
  fun e W' ⟨he,hb⟩=>⟨_,he,JeR laidOut (of_decide_eq_true qH1) rfl rfl Tryz.underlying4 hW rfl hb⟩
 clear hA0 hsz0 hval0 hW0 hA hV hW hfz hnd
 have hlaid : laidMet Tryz.prog [("math/bits.deBruijn32tab", Rows.laid_math_bits_deBruijn32tab), ("math/bits.deBruijn64tab", Rows.laid_math_bits_deBruijn64tab), ("internal/strconv.uint64pow10", Rows.laid_internal_strconv_uint64pow10), ("unicode/utf8.acceptRanges", Rows.laid_unicode_utf8_acceptRanges), ("unicode/utf8.first", Rows.laid_unicode_utf8_first)] W := by
  have h1:=hL;rw [MakeChecks.laidMetH_plain _ _ _ qH1] at h1;exact h1
 obtain ⟨A,len,cap,rfl⟩:=okWide_slice Tryz.underlying22 (hval 0 _ v0 rfl rfl);obtain ⟨v,xs,hv,hr,hb,hx⟩:=Jc5 Tryz.underlying22 (JdB 12 h0 (Jdy hsz 0 rfl rfl));rw [show Tryz.prog.cellsOf 29=13 from by kernel_rfl] at hr
 rw [show Tryz.prog.bytesOf 29=120 from by kernel_rfl] at hb
 obtain rfl:Value.slice A len cap=v:=qnE;obtain ⟨l,rfl,hl⟩:=Jj9 (f:=Jdu) (Q:=fun r=>r.path.size<=140737488351232) (fun x hxm=>JdC (n:=0) (hx x hxm))
 have hs:Sl Jdu 13 W (.slice A len cap) l:=hr qJ1;exact (Jkb _ l W hs (fun r hr=>zB3 (hl r hr) qJ1) (Jf6 (JcX hlaid))).mono close
theorem proved:Rows.TopOwnedSaid:=
 OpenClaim.holds_of_wide 9 Tryz.f9 rfl rfl rfl rfl rfl rfl rfl ⟨rfl,rfl,rfl,rfl,rfl⟩ rfl rfl rfl rfl rfl qH1 Tryz.func9 qH1
  (of_decide_eq_true qH1) qA0
  (fun os started H enc _=>lifted os started H enc)
theorem card:Rows.TopOwnedCardSaid:=
 Claim7.holds_tied_plain_at .later [] Rows.topOwnedCard.laidKinds true Rows.topOwnedCard.stood.harness false
  proved (fun _ h=>by cases h) qH1 (fun _ h=>by cases h) topOwned_row_tie rfl ⟨rfl,rfl⟩ qH1 rfl
  (fun f fn hf hfn=>by
   obtain rfl : f = 9 := Option.some.inj ((show Tryz.prog.funcNamed "aviary/aviarytop.TopOwned" = some 9 by kernel_rfl).symm.trans hf) |>.symm
   obtain rfl:fn=Tryz.f9:=(Option.some.inj (Tryz.func9.symm.trans hfn)).symm
   exact ⟨by kernel_rfl,fun j t ht=>by
    rw [Tryz.params9] at ht;have hm:t∈[22]:=qbE;have hall:([22].all fun u=>!Tryz.prog.wantsStandIn u)=true:=by kernel_rfl
    exact (show Tryz.prog.wantsStandIn t=false by simpa using List.all_eq_true.1 hall t hm)⟩)
  qH1
end topOwned
end
end Go.Proofs.YtjnooagaghdkdaaGreatDoor
