/-L-/
import Derived.Test.YtjnooagaghdkdaaGreatDoorZ23
import Derived.Test.YtjnooagaghdkdaaGreatDoorZ24
set_option maxHeartbeats 10000000
set_option maxRecDepth 100000
set_option linter.all false
namespace Go.Proofs.YtjnooagaghdkdaaGreatDoor
section
open Go.RowKit Go.ChangeShapes Go.WideShapes Go.ChangeAt
def Jci (id:Int) (f:List File) (s:Srv) (c:Int):Prop:=∃ L f',JdQ f L f' c/\((c=0/\s=⟨true,f',id,Jce f,L,0,0,[rootN],[],[]⟩)\/(c≠0/\s=JcQ))
def Jpt (p:Nat->Prop) (id:Int) (f:List File) (w:World) (e:Ending) (w':World):Prop:=∃ s c,Jci id f s c/\Jdu p s c w e w'
theorem JiX (p:Nat->Prop) (id:Int) (v:Value) (f:List File) (w:World) (h:Sl Jaa 3 w v f) (hp:∀ q,p q->q<w.heap.size) (hz:∀ x∈f,x.sized) (h0:0<=id) (h3:id<3) :
  Calls Tryz.prog 35 #[.int .i64 id,.agg #[v]] w (Jpt p id f w):=by
 obtain ⟨A,c,rfl,hc1,hc2⟩:=h.form;have H:=zA0 h;have HP:=zA0 hp;have HE:=zA0 (fun (W:World) (h:Sl Jaa 3 W (.slice A f.length c) f)=>Jmb _ f W h hz)
 have HR:=zA0 (fun (W:World) (h:Sl Jaa 3 W (.slice A f.length c) f)=>Jgi _ f W h hz)
 have HB:=zA0 (fun (L:List Txn) (f':List File) (c:Int) (hr:JdQ f L f' c) (hc:c=0)=>show Jci id f ⟨true,f',id,Jce f,L,0,0,[rootN],[],[]⟩ c from ⟨L,f',hr,.inl ⟨hc,rfl⟩⟩)
 have HB2:=zA0 (fun (L:List Txn) (f':List File) (c:Int) (hr:JdQ f L f' c) (hc:c≠0)=>show Jci id f JcQ c from ⟨L,f',hr,.inr ⟨hc,rfl⟩⟩)
 generalize Jce f=ep at *;have hd1:decide (id<0)=false:=zA7 qH1;have hd2:decide (3<=id)=false:=zA7 qH1;clear h hz hp;go_enter Tryz.func35,Tryz.ntmps35
 go_upto_region 5 with (first | (go_at_call 47; refine zc (HE.out _ (H.out.below zR)) (fun ext1 d1=>?_)) | (go_at_call 48; refine (HR.out _ (H.out.below zR)).mono ?_; rintro e w1 ⟨A2,c2,L,B,k,d,code,rfl,hr,ho2,ho3,hb2⟩; obtain ⟨ext2,d2,rfl⟩:=zA2 _ hb2; have HO2:=zA0 ho2; have HO3:=zA0 ho3; have HI:=zA0 hr; clear ho2 ho3 hb2 hr HR))
 by_cases hc:code=0
 ·subst hc
  have HF:=zA0 (HB.out L d 0 HI.out rfl);clear HB HB2 HI;go_wp2_with fail;refine wp_region_noPanic ?_;refine zD8 qE1 (fun W hW=>?_)
  have cl0:W.cell? ⟨w.heap.size,0,none⟩=some (.slice B d.length k):=qAE;refine JaD (fun w'=>w'.cell? ⟨w.heap.size,0,none⟩=some (.slice B d.length k)) (fun i=>i == 7) (by (try dsimp only); go_simp) (fun hHeld=>?_)
  refine tpA 0 ?_;refine tpP 1 ?_;refine tpP 2 ?_;refine tpP 3 ?_;refine tpP 4 ?_;refine zB1 (rs:=[5]) qE1 qI1 ?_;refine zB4 qQ0 (fun K hK=>?_) zB2
  go_simp
  (go_at_call 46; refine (Jnh _).mono ?_; rintro e w3 ⟨A3,c3,rfl,ho4,hb3⟩; obtain ⟨ext3,d3,rfl⟩:=zA2 W (zB8 zR hb3); have HO4:=zA0 ho4; clear ho4 hb3; have hWW:=hW.out; subst hWW)
  refine hK.out _ _ ?gT1_6 (fun hHeld=>?_)
  case gT1_6=>((try dsimp only); go_simp)
  clear hK K
  try simp only [Act.put,zA6,zA4,zA5]
  refine tpP 6 ?_;refine zB1 (rs:=[7]) qE1 qI1 ?_;refine zC8 qQ0 qE1 (fun K hK=>?_) zB2
  go_simp;refine hK.out _ _ ?_;clear hK K
  try simp only [Act.put,zA6,zA4,zA5]
  refine tpQ 8 ?_;refine zC4 qE1 ?_ _;refine NoPanic.normal ?_;go_wp2_with fail;refine zA1 (v:=.tuple #[vSrv ⟨true,d,id,ep,L,0,0,[rootN],[],[]⟩ ⟨B,k,A2,c2,A3,c3,none,0,none,0⟩,.int .i64 0]) (by simp [results,Tryz.results35,go_sem]) rfl ⟨⟨true,d,id,ep,L,0,0,[rootN],[],[]⟩,0,HF.out,⟨B,k,A2,c2,A3,c3,none,0,none,0⟩,rfl,⟨?_,?_,?_,SlA.nil _ _ _ _,SlA.nil _ _ _ _⟩,zR⟩
  ·refine Ow.sla (Ow.moved (W':=?w1) (d':=?x1) HO3.out (zA3 _) ?b1 ?z1) (fun q hq=>zD0 (HP.out q hq) qB1)
   case b1=>exact zR
   case z1=>simp
  ·refine Ow.sla (Ow.moved (W':=?w2) (d':=?x2) HO2.out (zA3 _) ?b2 ?z2) (fun q hq=>zD0 (HP.out q hq) qB1)
   case b2=>exact zR
   case z2=>simp
  ·refine Ow.sla (Ow.moved (W':=?w3) (d':=?x3) HO4.out (zA3 _) ?b3 ?z3) (fun q hq=>zD0 (HP.out q hq) qB1)
   case b3=>exact zR
   case z3=>simp
 ·have hne:(code != 0)=true:=zC9.2 hc
  have HF:=zA0 (HB2.out L d code HI.out hc);clear HB HB2 HI hc;go_wp2_with fail;refine zA1 (v:=.tuple #[vSrv JcQ Jdr,.int .i64 code]) (by simp [results,Tryz.results35,go_sem]) rfl ⟨JcQ,code,HF.out,Jdr,rfl,JcE _ _,zR⟩
def JaQ (s:Srv) (keep:Int):Srv:=if Jbh s.disk keep=0 then ⟨false,JdG s.disk keep,s.id,0,[],0,0,[rootN],[],[]⟩ else JcQ
theorem Jmc (p p':Nat->Prop) (s:Srv) (v:SrvV) (keep:Int) (w:World) (h:SrvIn p' w s v) (hp:∀ q,p q->q<w.heap.size) (hz:∀ x∈s.disk,x.sized) :
  Calls Tryz.prog 34 #[vSrv s v,.int .i64 keep] w (Jdu p (JaQ s keep) (Jbh s.disk keep) w):=by
 have HP:=zA0 hp;obtain ⟨up,disk,id,ep,log,dn,tz,nodes,sess,wat⟩:=s;obtain ⟨da,dc,la,lc,na,nc,sa,sc,wa,wc⟩:=v;obtain ⟨hD,hG,hN,hS,hW⟩:=h;simp only at hD hG hN hS hW hz;have HD:=zA0 hD;have HA:=zA0 (fun (W:World) (h:Sl Jaa 3 W (.slice da disk.length dc) disk)=>dkCrash (.slice da disk.length dc) disk keep W h hz)
 clear hD hG hN hS hW hp hz;unfold JaQ;simp only;generalize JdG disk keep=d at *;generalize Jbh disk keep=code at *
 by_cases hc:code=0
 ·subst hc
  rw [if_pos rfl];go_enter Tryz.func34,Tryz.ntmps34
  go_wp2_with ((go_at_call 45; refine (HA.out _ (HD.out.1.below zR)).mono ?_; rintro e w1 ⟨A1,k1,rfl,ho1,hb1⟩; obtain ⟨ext1,d1,rfl⟩:=zA2 _ hb1; have HO1:=zA0 ho1; clear ho1 hb1));refine wp_region_noPanic ?_;refine zD8 qE1 (fun W hW=>?_)
  have cl0:W.cell? ⟨w.heap.size+1+1+ext1.size,0,none⟩=some (.slice A1 d.length k1):=qAE;have cl1:W.cell? ⟨w.heap.size,2,none⟩=some (.int .i64 id):=qAE;refine JaD (fun w'=>w'.cell? ⟨w.heap.size+1+1+ext1.size,0,none⟩=some (.slice A1 d.length k1)/\w'.cell? ⟨w.heap.size,2,none⟩=some (.int .i64 id)) (fun i=>i == 7) (by (try dsimp only); (refine ⟨?_,?_⟩ <;> go_simp)) (fun hHeld=>?_)
  refine tpA 0 ?_;refine tpP 1 ?_;refine tpP 2 ?_;refine tpA 3 ?_;refine tpP 4 ?_;refine zB1 (rs:=[5]) qE1 qI1 ?_;refine zB4 qQ0 (fun K hK=>?_) zB2
  go_simp
  (go_at_call 46; refine (Jnh _).mono ?_; rintro e w3 ⟨A3,c3,rfl,ho4,hb3⟩; obtain ⟨ext3,d3,rfl⟩:=zA2 W (zB8 zR hb3); have HO4:=zA0 ho4; clear ho4 hb3; have hWW:=hW.out; subst hWW)
  refine hK.out _ _ ?gT2_6 (fun hHeld=>?_)
  case gT2_6=>((try dsimp only); (refine ⟨?_,?_⟩ <;> go_simp))
  clear hK K
  try simp only [Act.put,zA6,zA4,zA5]
  refine tpP 6 ?_;refine zB1 (rs:=[7]) qE1 qI1 ?_;refine zC8 qQ0 qE1 (fun K hK=>?_) zB2
  go_simp;refine hK.out _ _ ?_;clear hK K
  try simp only [Act.put,zA6,zA4,zA5]
  refine tpQ 8 ?_;refine zC4 qE1 ?_ _;refine NoPanic.normal ?_;go_wp2_with fail;refine zA1 (v:=.tuple #[vSrv ⟨false,d,id,0,[],0,0,[rootN],[],[]⟩ ⟨A1,k1,none,0,A3,c3,none,0,none,0⟩,.int .i64 0]) (by simp [results,Tryz.results34,go_sem]) rfl ⟨⟨A1,k1,none,0,A3,c3,none,0,none,0⟩,rfl,⟨?_,SlA.nil _ _ _ _,?_,SlA.nil _ _ _ _,SlA.nil _ _ _ _⟩,zR⟩
  ·refine Ow.sla (Ow.moved (W':=?w1) (d':=?x1) HO1.out (zA3 _) ?b1 ?z1) (fun q hq=>zD0 (HP.out q hq) qB1)
   case b1=>exact zR
   case z1=>simp
  ·refine Ow.sla (Ow.moved (W':=?w3) (d':=?x3) HO4.out (zA3 _) ?b3 ?z3) (fun q hq=>zD0 (HP.out q hq) qB1)
   case b3=>exact zR
   case z3=>simp
 ·have hne:(code != 0)=true:=zC9.2 hc
  rw [if_neg hc];clear hc;go_enter Tryz.func34,Tryz.ntmps34
  go_wp2_with ((go_at_call 45; refine (HA.out _ (HD.out.1.below zR)).mono ?_; rintro e w1 ⟨A1,k1,rfl,ho1,hb1⟩; obtain ⟨ext1,d1,rfl⟩:=zA2 _ hb1; have HO1:=zA0 ho1; clear ho1 hb1));refine zA1 (v:=.tuple #[vSrv JcQ Jdr,.int .i64 code]) (by simp [results,Tryz.results34,go_sem]) rfl ⟨Jdr,rfl,JcE _ _,zR⟩
end
end Go.Proofs.YtjnooagaghdkdaaGreatDoor
