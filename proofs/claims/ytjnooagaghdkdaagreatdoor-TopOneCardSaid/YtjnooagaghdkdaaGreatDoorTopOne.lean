/- The law TopOne is true for every input; no conditions. -/
import Derived.Test.YtjnooagaghdkdaaGreatDoorV44
set_option maxHeartbeats 10000000
set_option maxRecDepth 100000
set_option linter.all false
namespace Go.Proofs.YtjnooagaghdkdaaGreatDoor
section
open Go.RowKit Go.ChangeShapes Go.WideShapes Go.ChangeAt Go.Maps
theorem neq_txn (x:Txn) (w:World):(binOp .neq 39 (.agg #[.int .i64 x.zxid,.int .i64 x.op,.int .i64 x.session,.string x.path,.string x.data,.int .i64 x.version,.int .i64 x.owner]) (.agg #[.int .i64 x.zxid,.int .i64 x.op,.int .i64 x.session,.string x.path,.string x.data,.int .i64 x.version,.int .i64 x.owner])).run Tryz.prog w=.ok (.bool false) w:=by
 simp [go_sem]
/-- the captured variable and its map -/
structure OneI (g B:Nat) (Reg:List Txn) (W:World) (D:DataW Value) (n:Nat):Prop where
 var:Bk W g [.map (some B)] 60
 own:W.ownsMap Tryz.prog 3 mapR B n D
 has_:MapIn Reg D
 ne:g≠B
theorem OneI.below {g B:Nat} {Reg:List Txn} {W W':World} {D:DataW Value} {n:Nat} (h:OneI g B Reg W D n) (hb:Below W.heap.size W W'):OneI g B Reg W' D n:=by
 refine ⟨h.var.below hb,?_,h.has_,h.ne⟩;obtain ⟨es,clock,e1,e2⟩:=h.own;exact ⟨es,clock,(hb.block B h.own.lt).trans e1,e2⟩
theorem OneI.put {g B:Nat} {Reg:List Txn} {W W':World} {D:DataW Value} {n:Nat} (h:OneI g B Reg W D n) (hr:LogP Reg) {x:Txn} (hx:x∈Reg) {n':Nat} (ho:W'.ownsMap Tryz.prog 3 mapR B n' (D.put (kZ x.zxid) (.held (vTxn x)))) (hg:W.grownBy W' (some B)):OneI g B Reg W' (D.put (kZ x.zxid) (.held (vTxn x))) n':=
 ⟨h.var.keeps (zE0 (p:=fun q=>q=B) hg (fun q e=>by injection e with e; exact e.symm)) h.ne,ho,h.has_.put hr hx,h.ne⟩
def OneP (g B:Nat) (_:Wd) (Reg:List Txn) (_:Int) (W:World):Prop:=∃ D n,OneI g B Reg W D n
set_option maxRecDepth 100000 in
set_option maxHeartbeats 2000000 in
theorem one_look (g B b:Nat):LookIs 25 #[.pointer (some ⟨g,0,none⟩)] (fun q=>q=g\/q=B) b (OneP g B):=by
 intro W σ τ Reg Reg' E E' sv cv dv d r A c hst hP hw hn hp0;obtain ⟨D0,n0,h0⟩:=hP;show Calls Tryz.prog 25 #[.pointer (some ⟨b,0,none⟩),Jos d,rpV r A c,.pointer (some ⟨g,0,none⟩)] W _;have HW:=zA0 hw;have HI:=zA0 hst.inv';have HR:=zA0 hst.inv'.reg;have HP0:=zA0 hp0;have hrl:Reg'.length<=300:=zB4 hst.inv'.len hst.inv'.k300;have H0:=zA0 (show OneI g B Reg' W D0 n0 from ⟨h0.var,h0.own,h0.has_.more HR.out hst.pre,h0.ne⟩)
 clear hst hw hn h0 hp0;obtain ⟨rc,rz,rpa,rda,⟨s1,s2,s3,s4,s5,s6,s7⟩,rns⟩:=r;simp only [rpV];go_enter Tryz.func25,Tryz.ntmps25
 go_wp2_with fail;go_loopw [8] (fun i wr=>∃ (m:Nat) (D:DataW Value) (n:Nat),m<=3/\i=.int .i64 m/\Hid (OneI g B Reg' wr D n)/\Hid (Keeps (fun q=>q=g\/q=B) W wr)) (fun i _=>3 - (intOf i).toNat)
 case atStart=>exact ⟨0,D0,n0,zB7 _,rfl,zA0 (H0.out.below zR),zA0 (zC2 zR)⟩
 case round=>
  clear H0;obtain ⟨m,D,n,hm,rfl,ho,hk⟩:=hrel
  by_cases hlt:m<3
  ·have HSV:=zA0 (wServer (fun q=>q=g\/q=B) _ b wr τ sv cv dv Reg' E' τ.deeds (HW.out.keeps hk.out) HI.out.toInv0 (fun q hq=>zC5 (HP0.out q hq) hk.out.size) m hlt)
   have HLR:=zA0 (fun x (hx:x∈(τ.s m).log)=>(HI.out.toInv0.logs hlt).subset hx)
   have h301:=JnW HI.out.toInv0 hlt;generalize τ.s m=S at *;obtain ⟨yu,yd,yi,ye,yl,yn,yt,yo,ys,yw⟩:=S;simp only at h301 HLR;have hfd:∀ (ea:Option Addr) (ec:Nat) (ga:Option Addr) (gc:Nat) (ia:Option Addr) (ic:Nat) (ja:Option Addr) (jc:Nat) (ka:Option Addr) (kc:Nat) (w:World),(Instr.field 71 (.agg #[.bool yu,.slice ea yd.length ec,.int .i64 yi,.int .i64 ye,.slice ga yl.length gc,.int .i64 yn,.int .i64 yt,.slice ia yo.length ic,.slice ja ys.length jc,.slice ka yw.length kc]) 2).run Tryz.prog w=.ok (.agg #[.int .i64 yi,.int .i64 ye,.slice ga yl.length gc,.int .i64 yn]) w:=fun _ _ _ _ _ _ _ _ _ _ _=>by kernel_rfl
   have hfe:∀ (ga:Option Addr) (gc:Nat) (w:World),(Instr.field 62 (.agg #[.int .i64 yi,.int .i64 ye,.slice ga yl.length gc,.int .i64 yn]) 2).run Tryz.prog w=.ok (.slice ga yl.length gc) w:=fun _ _ _=>by kernel_rfl
   simp only [vSrv] at HSV;go_wp2_with ((go_at_call 26; (with_reducible refine (HSV.out).mono ?_); rintro e w3 ⟨⟨ea,ec,ga,gc,ia,ic,ja,jc,ka,kc⟩,rfl,hin,hb3⟩; have HIN:=zA0 hin; have HB3:=zA0 hb3; clear hin hb3));have HO3:=zA0 (ho.out.below HB3.out);have HK3:=zA0 (hk.out.trans (zC2 HB3.out (p:=fun q=>q=g\/q=B)) (fun _ _ e=>e))
   have HLG:=zA0 HIN.out.log;clear ho hk HB3 HIN HSV hfd hfe;go_loopw [23] (fun i wr=>∃ (k:Nat) (D:DataW Value) (n:Nat),k<=yl.length/\i=.int .i64 k/\Hid (OneI g B Reg' wr D n)/\Hid (Keeps (fun q=>q=g\/q=B) w3 wr)) (fun i _=>yl.length - (intOf i).toNat)
   case atStart=>exact ⟨0,D,n,zB7 _,rfl,HO3,zA0 (zC2 (zB5 _ _))⟩
   case round=>
    clear HO3;obtain ⟨k,D2,n2,hk2,rfl,ho,hkp⟩:=hrel
    by_cases hnl:k<yl.length
    ·have hix:yl[k]?=some (yl[k]'hnl):=zA4 _
     obtain ⟨bd,off,hA,hbd,u0,u1,u2,u3,u4,u5,u6⟩:=(HLG.out.keeps hkp.out (fun _ e=>e)).1.Txn_at hix
     subst hA;have hxr:=HLR.out _ (zC7 hix);generalize yl[k]'hnl=x at *;obtain ⟨_,hzx,_⟩:=JcY (HR.out.1.1 x hxr);have hwf:(Lit.int .i64 x.zxid).wf=true:=WalkArith.wf_i64 (by unfold Zx at hzx; omega)
     have hkey:keyOf Tryz.prog 3 (.int .i64 x.zxid)=some (kZ x.zxid):=keyOf_int_mk Tryz.underlying3 hwf;have qN:=fun w=>neq_txn x w
     have hm0:(0:Int)<=(k:Int):=qCE;have hml:(k:Int)<(yl.length:Int):=qCE;have HXR:=zA0 hxr;clear hix hxr hzx hwf;go_upto_region 7 with fail
     refine Jaq (fun W1 hW1=>?_)
     have hB1:Below wr.heap.size wr W1:=qME;have HX1:=zA0 (show Bk W1 wr.heap.size [.int .i64 x.zxid,.int .i64 x.op,.int .i64 x.session,.string x.path,.string x.data,.int .i64 x.version,.int .i64 x.owner] 39 by rw [hW1.out]; exact Bk.new _ _ _ rfl)
     have HO1:=zA0 (ho.out.below hB1);have HK1:=zA0 (hkp.out.trans (zC2 hB1 (p:=fun q=>q=g\/q=B)) (fun _ _ e=>e))
     have g0:W1.cell? ⟨g,0,none⟩=some (.map (some B)):=HO1.out.var.cell 0;have glt:g<W1.heap.size:=HO1.out.var.lt;have y0:W1.cell? ⟨wr.heap.size,0,none⟩=some (.int .i64 x.zxid):=HX1.out.cell 0;have hlt1:wr.heap.size<W1.heap.size:=HX1.out.lt;have HT:=zA0 (tight HO1.out.own);have hsz:Maps.size D2<maxLen:=Nat.lt_of_le_of_lt (zB4 HO1.out.has_.size hrl) qG1;clear hW1 hB1 ho hkp u0 u1 u2 u3 u4 u5 u6 hbd;rcases hb:Maps.has D2 (kZ x.zxid) with _ | _
     ·have hat:D2.atKey (kZ x.zxid) (.held vT0)=.held vT0:=atKey_of_not_has hb _
      go_upto_region 8 with (at_lookup; refine Jd1 _ rfl _ _ _ rfl _ _ Jk5 Tryz.underlying60 (zeroTx _) B _ D2 rfl HO1.out.own _ _ rfl hkey vT0 false hat hb ?_)
      refine Jaq (fun W2 hW2=>?_)
      have hB2:Below W1.heap.size W1 W2:=by rw [hW2.out]; exact zR
      have HX2:=zA0 (show Bk W2 W1.heap.size [.int .i64 0,.int .i64 0,.int .i64 0,.string ByteArray.empty,.string ByteArray.empty,.int .i64 0,.int .i64 0] 39 by rw [hW2.out]; exact Bk.new _ _ _ rfl)
      have HO2:=zA0 (HO1.out.below hB2);have HK2:=zA0 (HK1.out.trans (zC2 hB2 (p:=fun q=>q=g\/q=B)) (fun _ _ e=>e))
      have HXA:=zA0 (HX1.out.below hB2);have HT2:=zA0 (tight HO2.out.own);have g2:W2.cell? ⟨g,0,none⟩=some (.map (some B)):=HO2.out.var.cell 0;have a0:W2.cell? ⟨wr.heap.size,0,none⟩=some (.int .i64 x.zxid):=HXA.out.cell 0;have a1:W2.cell? ⟨wr.heap.size,1,none⟩=some (.int .i64 x.op):=HXA.out.cell 1;have a2:W2.cell? ⟨wr.heap.size,2,none⟩=some (.int .i64 x.session):=HXA.out.cell 2;have a3:W2.cell? ⟨wr.heap.size,3,none⟩=some (.string x.path):=HXA.out.cell 3;have a4:W2.cell? ⟨wr.heap.size,4,none⟩=some (.string x.data):=HXA.out.cell 4;have a5:W2.cell? ⟨wr.heap.size,5,none⟩=some (.int .i64 x.version):=HXA.out.cell 5;have a6:W2.cell? ⟨wr.heap.size,6,none⟩=some (.int .i64 x.owner):=HXA.out.cell 6;have c0:=HX2.out.cell 0;have c1:=HX2.out.cell 1;have c2:=HX2.out.cell 2;have c3:=HX2.out.cell 3;have c4:=HX2.out.cell 4;have c5:=HX2.out.cell 5;have c6:=HX2.out.cell 6;simp only [zK8,zJ6] at c0 c1 c2 c3 c4 c5 c6;have alt:wr.heap.size<W2.heap.size:=HXA.out.lt;have clt:W1.heap.size<W2.heap.size:=HX2.out.lt;have glt2:g<W2.heap.size:=HO2.out.var.lt;clear hW2 hB2 g0 glt y0 hlt1 HT;go_wp2_with (at_mapUpdate; refine wpList_mapUpdate_own _ rfl _ _ _ _ rfl _ _ Jk5 Tryz.underlying60 mapR B _ D2 rfl HT2.out hsz _ _ (kZ x.zxid) rfl rfl hkey (.held (vTxn x)) [] rfl ?_; intro w5 hown5 hg5);have HO5:=zA0 (HO2.out.put HR.out HXR.out hown5 hg5);have HK5:=zA0 (HK2.out.trans (zE0 (p:=fun q=>q=g\/q=B) hg5 (fun q e=>by injection e with e; exact .inr e.symm)) (fun _ _ e=>e))
      clear hown5 hg5;go_roundw
      case rel=>exact ⟨k+1,_,_,by omega,by go_num,HO5,HK5⟩
      case measure=>simp [intOf]; omega
     ·have hat:D2.atKey (kZ x.zxid) (.held vT0)=.held (.agg #[.int .i64 x.zxid,.int .i64 x.op,.int .i64 x.session,.string x.path,.string x.data,.int .i64 x.version,.int .i64 x.owner]):=HO1.out.has_.at_ x HXR.out hb _
      go_upto_region 8 with (at_lookup; refine Jd1 _ rfl _ _ _ rfl _ _ Jk5 Tryz.underlying60 (zeroTx _) B _ D2 rfl HO1.out.own _ _ rfl hkey (.agg #[.int .i64 x.zxid,.int .i64 x.op,.int .i64 x.session,.string x.path,.string x.data,.int .i64 x.version,.int .i64 x.owner]) true hat hb ?_)
      refine Jaq (fun W2 hW2=>?_)
      have hB2:Below W1.heap.size W1 W2:=by rw [hW2.out]; exact zR
      have HX2:=zA0 (show Bk W2 W1.heap.size [.int .i64 x.zxid,.int .i64 x.op,.int .i64 x.session,.string x.path,.string x.data,.int .i64 x.version,.int .i64 x.owner] 39 by rw [hW2.out]; exact Bk.new _ _ _ rfl)
      have HO2:=zA0 (HO1.out.below hB2);have HK2:=zA0 (HK1.out.trans (zC2 hB2 (p:=fun q=>q=g\/q=B)) (fun _ _ e=>e))
      have HXA:=zA0 (HX1.out.below hB2);have HT2:=zA0 (tight HO2.out.own);have g2:W2.cell? ⟨g,0,none⟩=some (.map (some B)):=HO2.out.var.cell 0;have a0:W2.cell? ⟨wr.heap.size,0,none⟩=some (.int .i64 x.zxid):=HXA.out.cell 0;have a1:W2.cell? ⟨wr.heap.size,1,none⟩=some (.int .i64 x.op):=HXA.out.cell 1;have a2:W2.cell? ⟨wr.heap.size,2,none⟩=some (.int .i64 x.session):=HXA.out.cell 2;have a3:W2.cell? ⟨wr.heap.size,3,none⟩=some (.string x.path):=HXA.out.cell 3;have a4:W2.cell? ⟨wr.heap.size,4,none⟩=some (.string x.data):=HXA.out.cell 4;have a5:W2.cell? ⟨wr.heap.size,5,none⟩=some (.int .i64 x.version):=HXA.out.cell 5;have a6:W2.cell? ⟨wr.heap.size,6,none⟩=some (.int .i64 x.owner):=HXA.out.cell 6;have c0:=HX2.out.cell 0;have c1:=HX2.out.cell 1;have c2:=HX2.out.cell 2;have c3:=HX2.out.cell 3;have c4:=HX2.out.cell 4;have c5:=HX2.out.cell 5;have c6:=HX2.out.cell 6;simp only [zK8,zJ6] at c0 c1 c2 c3 c4 c5 c6;have alt:wr.heap.size<W2.heap.size:=HXA.out.lt;have clt:W1.heap.size<W2.heap.size:=HX2.out.lt;have glt2:g<W2.heap.size:=HO2.out.var.lt;clear hW2 hB2 g0 glt y0 hlt1 HT;go_wp2_with (at_mapUpdate; refine wpList_mapUpdate_own _ rfl _ _ _ _ rfl _ _ Jk5 Tryz.underlying60 mapR B _ D2 rfl HT2.out hsz _ _ (kZ x.zxid) rfl rfl hkey (.held (vTxn x)) [] rfl ?_; intro w5 hown5 hg5);have HO5:=zA0 (HO2.out.put HR.out HXR.out hown5 hg5);have HK5:=zA0 (HK2.out.trans (zE0 (p:=fun q=>q=g\/q=B) hg5 (fun q e=>by injection e with e; exact .inr e.symm)) (fun _ _ e=>e))
      clear hown5 hg5;go_roundw
      case rel=>exact ⟨k+1,_,_,by omega,by go_num,HO5,HK5⟩
      case measure=>simp [intOf]; omega
    ·have hnl2:decide ((k:Int)<(yl.length:Int))=false:=zA5 qH1
     have HKE:=zA0 (HK3.out.trans hkp.out (fun _ _ e=>e))
     clear hkp;go_wp2_with fail;go_roundw
     case rel=>exact ⟨m+1,D2,n2,by omega,by go_num,ho,HKE⟩
     case measure=>simp [intOf]; omega
  ·have hm3:m=3:=by omega
   subst hm3;go_wp2_with fail;exact zA1 (v:=.bool true) (by simp [results,Tryz.results25,go_sem]) rfl ⟨rfl,⟨D,n,ho.out⟩,hk.out⟩
theorem OneI.same {g B:Nat} {Reg:List Txn} {W W':World} {D:DataW Value} {n:Nat} (h:OneI g B Reg W D n) (hs:∀ q,q=g\/q=B->W'.heap[q]?=W.heap[q]?):OneI g B Reg W' D n:=by
 refine ⟨(hs g (.inl rfl)).trans h.var,?_,h.has_,h.ne⟩;obtain ⟨es,clock,e1,e2⟩:=h.own;exact ⟨es,clock,(hs B (.inr rfl)).trans e1,e2⟩
set_option maxRecDepth 100000 in
set_option maxHeartbeats 2000000 in
theorem Jm5 (v:Value) (l:List Deed) (w:World) (h:Sl Jei 13 w v l) (hd:∀ d∈l,d.path.size<=4611686018427387904) (ht:TabB w.heap.size w) :
  Calls Tryz.prog 7 #[v] w fun e w'=>e=.returned (.bool true)/\Below w.heap.size w w':=by
 have HP:=zA0 (fun (W:World) (hb:Below w.heap.size w W) (h0:OneI (w.heap.size+1) w.heap.size [] W (.map []) 0)=>play_is 25 #[.pointer (some ⟨w.heap.size+1,0,none⟩)] (fun q=>q=w.heap.size+1\/q=w.heap.size) (OneP (w.heap.size+1) w.heap.size) v l W (h.apart hb (fun q e=>by omega)) hd (ht.new hb) (fun q e=>by
  have h1:=h0.var.lt;have h2:=h0.own.lt;rcases e with e | e <;> omega) (fun g hg e=>by have:=ht.2 g hg; omega) (fun σ Reg E W1 W2 h1 ⟨D,n,h2⟩=>⟨D,n,h2.same h1⟩) ⟨_,_,h0⟩ (fun args W=>by simp [go_sem]) (fun b _=>one_look (w.heap.size+1) w.heap.size b))
 obtain ⟨A,c,rfl,_⟩:=h.form;clear h hd ht;have hmm:=@run_makeMap Tryz.prog;go_enter Tryz.func7,Tryz.ntmps7
 go_upto_region 2 with fail
 refine Jaq (fun W1 hW1=>?_)
 have HB1:=zA0 (show Below w.heap.size w W1 by rw [hW1.out]; exact zR)
 have HC:=zA0 (HP.out W1 HB1.out ⟨by rw [hW1.out]; exact Bk.new _ _ _ qI1,by rw [hW1.out]; exact (World.ownsMap_made _ _ _ _).alloc _,JnS _,by omega⟩)
 clear hW1 HP hmm;go_wp2_with ((go_at_call 12; refine (HC.out).mono ?_; rintro e w2 ⟨b,σ,Reg,E,sv,cv,dv,rfl,hb,hpl⟩; skip));exact zA1 (v:=.bool true) (by simp [results,Tryz.results7,go_sem]) rfl ⟨rfl,(zC2 HB1.out |>.trans hpl.keep (q:=fun q=>(q=w.heap.size+1\/q=w.heap.size)\/W1.heap.size<=q) (p:=fun q=>w.heap.size<=q) (fun q _ e=>by have:=HB1.out.size; show w.heap.size<=q; omega)).low (zA3 _) (fun q e=>e)⟩
namespace topOne
theorem own:ownKnob Tryz.prog.godebug=none:=by kernel_rfl
theorem laidOut:laidOutB Tryz.prog=true:=by kernel_rfl
set_option maxRecDepth 100000 in
set_option maxHeartbeats 1000000 in
theorem lifted (os:Os) (started:os.Started) (H:Type) (enc:TypeId × Value->H) :
  ReturnsInHanded {} Tryz.checked os 7 .any (fun w args=>(Rows.topOneSpec.pre enc Tryz.prog Tryz.f7 Rows.topOneRow.domain false w args/\laidMetH Tryz.prog Rows.topOneRow.laid w)/\sizedMet enc Tryz.prog Tryz.f7 (OpenSpec.ofChange Rows.topOneSpec) false w args) (Rows.topOneSpec.post enc Tryz.prog Tryz.f7 false true false false):=by
 refine returnsInHanded_of_change_and (C:=Tryz.checked) (X:=fun w _=>laidMetH Tryz.prog Rows.topOneRow.laid w) (fun _ _ _ hh h=>h.of_heap hh) own started qE1 Tryz.func7
  (ChangeSpec.witness_shaped (enc:=enc) (C:=Tryz.checked) (os:=os) (X:=fun w _=>laidMetH Tryz.prog Rows.topOneRow.laid w) false (World.laidAll Tryz.prog os Rows.topOneRow.laid) #[.slice none 0 0] 8 (World.laidAll_os _ _ _)
   (World.shaped_of_ZipB qE1 qE1) qE1 qE1 qE1
   (by rw [MakeChecks.laidMetH_plain _ _ _ qE1]; exact laidMet_laidAll _ qE1 qE1)) ?_
 intro W base args ds gs before hval0 hW0 _ hsz0 hL _;have hval:∀ (j:Nat) t v,Tryz.f7.params[j]?=some t->args[j]?=some v->Value.okWide Tryz.prog W .any base t v:=hval0;have hW:DataW.Whole enc Tryz.prog Tryz.f7.params.toList Rows.topOneSpec.vars false W args.toList ds gs before:=hW0;have hlt:∀ p∈before,p.block<W.heap.size:=fun p hp=>hW.lt p hp
 have hW1:=hW;obtain ⟨p,q,hA0,hV,rfl,hfz,hnd⟩:=hW1;have hA:DataW.TrodAll enc Tryz.prog W 0 (fun _=>true) true Tryz.f7.params.toList args.toList ds p:=hA0
 obtain ⟨rfl,rfl⟩:=trodVars_none hV;rw [Tryz.params7] at hA hval;obtain ⟨v0,vs0,d0,ds0,p0,q0,hargs,rfl,rfl,h0,r0⟩:=trodAll_cons hA;obtain ⟨rfl,rfl,rfl⟩:=trodAll_nil r0;obtain rfl:args=#[v0]:=by cases args; simp_all
 have hsz:(DataW.weightsEach Tryz.prog [22] [d0]).all (·<=reachBytes)=true:=hsz0;have close:∀ e W',(e=Ending.returned (.bool true)/\Below W.heap.size W W')->∃ v,e=.returned v/\Rows.topOneSpec.post enc Tryz.prog Tryz.f7 false true false false W #[v0] v W':=
  fun e W' ⟨he,hb⟩=>⟨_,he,Jk8 laidOut (of_decide_eq_true qE1) rfl rfl Tryz.underlying4 hW rfl hb⟩
 clear hA0 hsz0 hval0 hW0 hA hV hW hfz hnd
 have hlaid : laidMet Tryz.prog [("math/bits.deBruijn32tab", Rows.laid_math_bits_deBruijn32tab), ("math/bits.deBruijn64tab", Rows.laid_math_bits_deBruijn64tab), ("internal/strconv.uint64pow10", Rows.laid_internal_strconv_uint64pow10), ("unicode/utf8.acceptRanges", Rows.laid_unicode_utf8_acceptRanges), ("unicode/utf8.first", Rows.laid_unicode_utf8_first)] W := by
  have h1:=hL;rw [MakeChecks.laidMetH_plain _ _ _ qE1] at h1;exact h1
 obtain ⟨A,len,cap,rfl⟩:=okWide_slice Tryz.underlying22 (hval 0 _ v0 rfl rfl);obtain ⟨v,xs,hv,hr,hb,hx⟩:=Jhm Tryz.underlying22 (JiQ 12 h0 (JiC hsz 0 rfl rfl));rw [show Tryz.prog.cellsOf 29=13 from by kernel_rfl] at hr
 rw [show Tryz.prog.bytesOf 29=120 from by kernel_rfl] at hb
 obtain rfl:Value.slice A len cap=v:=by simpa [Value.cells] using hv
 obtain ⟨l,rfl,hl⟩:=typed (f:=Jei) (Q:=fun r=>r.path.size<=140737488351232) (fun x hxm=>JiR (n:=0) (hx x hxm))
 have hs:Sl Jei 13 W (.slice A len cap) l:=hr qG1;exact (Jm5 _ l W hs (fun r hr=>zB4 (hl r hr) qG1) (Jnb (JgP hlaid))).mono close
theorem proved:Rows.TopOneSaid:=
 OpenClaim.holds_of_wide 7 Tryz.f7 rfl rfl rfl rfl rfl rfl rfl ⟨rfl,rfl,rfl,rfl,rfl⟩ rfl rfl rfl rfl rfl qE1 Tryz.func7 qE1
  (of_decide_eq_true qE1) (by unfold Func.isWrapper; first | (rw [if_pos (by decide +kernel)]; kernel_rfl) | (rw [if_neg (by decide +kernel)]; exact ⟨rfl,rfl⟩))
  (fun os started H enc _=>lifted os started H enc)
theorem card:Rows.TopOneCardSaid:=
 Claim7.holds_tied_plain_at .later [] Rows.topOneCard.laidKinds true Rows.topOneCard.stood.harness false
  proved (fun _ h=>by cases h) qE1 (fun _ h=>by cases h) topOne_row_tie rfl ⟨rfl,rfl⟩ qE1 rfl
  (fun f fn hf hfn=>by
   obtain rfl : f = 7 := Option.some.inj ((show Tryz.prog.funcNamed "aviary/aviarytop.TopOne" = some 7 by kernel_rfl).symm.trans hf) |>.symm
   obtain rfl:fn=Tryz.f7:=(Option.some.inj (Tryz.func7.symm.trans hfn)).symm
   exact ⟨by kernel_rfl,fun j t ht=>by
    rw [Tryz.params7] at ht;have hm:t∈[22]:=by simpa using Array.mem_of_getElem? ht
    have hall:([22].all fun u=>!Tryz.prog.wantsStandIn u)=true:=by kernel_rfl
    exact (show Tryz.prog.wantsStandIn t=false by simpa using List.all_eq_true.1 hall t hm)⟩)
  qE1
end topOne
end
end Go.Proofs.YtjnooagaghdkdaaGreatDoor
