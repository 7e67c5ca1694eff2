/-L-/
import Derived.Deep.DeepCutAuto
import Derived.Test.YtjnooagaghdkdaaGreatDoorZ22
set_option maxHeartbeats 10000000
set_option maxRecDepth 100000
set_option linter.all false
namespace Go.Proofs.YtjnooagaghdkdaaGreatDoor
section
open Go.RowKit Go.ChangeShapes Go.WideShapes Go.ChangeAt
def JiV (s:Srv) (x:Txn) (safe:Bool):Int:=if x.zxid<=Jao s.log then 13 else appE s.disk x safe
def Jcm (s:Srv) (x:Txn) (safe:Bool):Srv:=if JiV s x safe=0 then { s with disk:=appL s.disk x safe,log:=s.log ++ [x] } else JcQ
theorem JiW (p:Nat->Prop) (s:Srv) (v:SrvV) (x:Txn) (safe:Bool) (w:World) (h:SrvIn p w s v) (hp:∀ q,p q->q<w.heap.size) (hz:∀ f∈s.disk,f.sized) (hn:(s.log.length+1)*72<=140737488355328) (hx:x.path.size<=9223372036854775807) :
  Calls Tryz.prog 72 #[vSrv s v,vTxn x,.bool safe] w (Jdu p (Jcm s x safe) (JiV s x safe) w):=by
 have HP:=zA0 hp;obtain ⟨up,disk,id,ep,log,dn,tz,nodes,sess,wat⟩:=s;obtain ⟨da,dc,la,lc,na,nc,sa,sc,wa,wc⟩:=v;obtain ⟨hD,hG,hN,hS,hW⟩:=h;simp only at hD hG hN hS hW hz hn;have HD:=zA0 hD;have HG:=zA0 hG;have HG1:Hid (Sl cTxn 7 w (.slice la log.length lc) log):=zA0 hG.1;have HN:=zA0 hN;have HS:=zA0 hS;have HW:=zA0 hW;have HL:=zA0 (fun (W:World) (h:Sl cTxn 7 W (.slice la log.length lc) log)=>Jel (.slice la log.length lc) log W h)
 have HA:=zA0 (fun (W:World) (h:Sl Jaa 3 W (.slice da disk.length dc) disk)=>Jnb (.slice da disk.length dc) disk x safe W h hz hx)
 clear hD hG hN hS hW hp hz hx;unfold Jcm JiV;simp only
 by_cases hle:x.zxid<=Jao log
 ·rw [if_pos hle]
  have hd:decide (x.zxid<=Jao log)=true:=zB0 hle;generalize Jao log=z at *;clear hle HA;obtain ⟨xz,xo,xs,xp,xd,xv,xw⟩:=x;simp only [if_neg (show ¬ (13:Int)=0 by decide)]
  go_enter Tryz.func72,Tryz.ntmps72
  go_wp2_with fail;go_quiet (first | (go_at_call 84; with_reducible refine Calls.quiet_of_same ((HL.out _ ?_).mono fun e w' h=>⟨h.1,h.2.symm⟩); exact ((((HG1.out.alloc _).alloc _).alloc _).drewN _)))
  go_wp2_with fail;refine zA1 (v:=.tuple #[vSrv JcQ Jdr,.int .i64 13]) (by simp [results,Tryz.results72,go_sem]) rfl ⟨Jdr,rfl,JcE _ _,zR⟩
 ·rw [if_neg hle]
  have hd:decide (x.zxid<=Jao log)=false:=zA7 hle;generalize Jao log=z at *;clear hle
  by_cases h0:appE disk x safe=0
  ·rw [if_pos h0,h0]
   rw [h0] at HA;generalize appL disk x safe=a at *;have HN1:=zA0 hn;clear h0 hn;obtain ⟨xz,xo,xs,xp,xd,xv,xw⟩:=x;go_enter Tryz.func72,Tryz.ntmps72
   go_wp2_with fail;go_quiet (first | (go_at_call 84; with_reducible refine Calls.quiet_of_same ((HL.out _ ?_).mono fun e w' h=>⟨h.1,h.2.symm⟩); exact ((((HG1.out.alloc _).alloc _).alloc _).drewN _)))
   go_upto_region 7 with ((go_at_call 105; refine (HA.out _ (HD.out.1.below zR)).mono ?_; rintro e w1 ⟨A1,k1,rfl,ho1,hb1⟩; obtain ⟨ext1,d1,rfl⟩:=zA2 _ hb1; have HO1:=zA0 ho1; clear ho1 hb1))
   refine wp_region_noPanic ?_;refine zD8 qE1 (fun W hW=>?_)
   have cl0:W.cell? ⟨w.heap.size,4,none⟩=some (.slice la log.length lc):=qAE;have cl1:W.cell? ⟨w.heap.size+1,0,none⟩=some (.int .i64 xz):=qAE;have cl2:W.cell? ⟨w.heap.size+1,1,none⟩=some (.int .i64 xo):=qAE;have cl3:W.cell? ⟨w.heap.size+1,2,none⟩=some (.int .i64 xs):=qAE;have cl4:W.cell? ⟨w.heap.size+1,3,none⟩=some (.string xp):=qAE;have cl5:W.cell? ⟨w.heap.size+1,4,none⟩=some (.string xd):=qAE;have cl6:W.cell? ⟨w.heap.size+1,5,none⟩=some (.int .i64 xv):=qAE;have cl7:W.cell? ⟨w.heap.size+1,6,none⟩=some (.int .i64 xw):=qAE;have fz0:W.frozen? ⟨w.heap.size,4,none⟩=false:=qAE;have SL:Hid (Sl cTxn 7 W (.slice la log.length lc) log):=zA0 (HG1.out.below qr0);refine JaD (fun w'=>w'.cell? ⟨w.heap.size,4,none⟩=some (.slice la log.length lc)/\w'.cell? ⟨w.heap.size+1,0,none⟩=some (.int .i64 xz)/\w'.cell? ⟨w.heap.size+1,1,none⟩=some (.int .i64 xo)/\w'.cell? ⟨w.heap.size+1,2,none⟩=some (.int .i64 xs)/\w'.cell? ⟨w.heap.size+1,3,none⟩=some (.string xp)/\w'.cell? ⟨w.heap.size+1,4,none⟩=some (.string xd)/\w'.cell? ⟨w.heap.size+1,5,none⟩=some (.int .i64 xv)/\w'.cell? ⟨w.heap.size+1,6,none⟩=some (.int .i64 xw)) (fun i=>i == 15) (by (try dsimp only); (refine ⟨?_,?_,?_,?_,?_,?_,?_,?_⟩ <;> go_simp)) (fun hHeld=>?_)
   refine tpP 0 ?_;refine tpP 1 ?_;refine tpA 2 ?_;refine tpP 3 ?_;refine tpP 4 ?_;refine tpP 6 ?_;refine tpP 7 ?_;refine tpA 8 ?_;refine tpA 10 ?_;refine zB1 (rs:=[5,11]) qE1 qI1 ?_;refine zB4 qQ0 (fun K hK=>?gO1_10) ?gL1_10
   case gO1_10=>
    (refine Jk9 qJ1 (.const (.int .i64 0)) (.tmp 36) _ rfl Jfr (f:=cTxn) (B:=W.heap.size) (n:=log.length+1) rfl rfl (by have:=HN1.out; unfold IntKind.wrap; simp [IntKind.signed,IntKind.bits]; omega) HN1.out qT0 qy0 ?_; intro w1 hown hg; (first | (have HNE:=zA0 (HB.out.apart (x:=.slice (some ⟨_,0,none⟩) 0 (log.length+1)) rfl (zA3 _)); replace HB:=zA0 (HB.out.kept hg (.inr qp0))) | skip); obtain ⟨ext2,d2,rfl⟩:=JcF (W:=W) zR hg qI1; have HM:=zA0 hown; clear hown hg)
    refine hK.out _ _ ?gT1_10 (fun hHeld=>?_)
    case gT1_10=>((try dsimp only); (refine ⟨?_,?_,?_,?_,?_,?_,?_,?_⟩ <;> go_simp))
    clear hK K
    try simp only [Act.put,zA6,zA4,zA5]
    refine zB1 (rs:=[9,11]) qE1 qI1 ?_;refine zB4 qQ0 (fun K hK=>?gO1_11) ?gL1_11
    case gO1_11=>
     (refine JbV qJ1 (.tmp 37) (.tmp 40) _ rfl Jfr (B:=W.heap.size) (v:=.slice (some ⟨_,0,none⟩) 0 (log.length+1)) (l:=[]) (m:=log) rfl rfl (HM.out.below zR) (SL.out.below zR) JbY qT0 qd0 qy0 ?_; intro v2 w2 hown2 hg2 _; rw [zE0] at hown2; obtain ⟨A2,c2,rfl,_⟩:=hown2.form; (first | replace HB:=zA0 (HB.out.kept hg2 (.inr (by simpa using HNE.out))) | skip); obtain ⟨ext3,d3,rfl⟩:=JcF (W:=W) zR hg2 HM.out.above; have HA1:=zA0 hown2; clear hown2 hg2)
     refine hK.out _ _ ?gT1_11 (fun hHeld=>?_)
     case gT1_11=>((try dsimp only); (refine ⟨?_,?_,?_,?_,?_,?_,?_,?_⟩ <;> go_simp))
     clear hK K
     try simp only [Act.put,zA6,zA4,zA5]
     refine zB1 (rs:=[11]) qE1 qI1 ?_;refine zB4 qQ0 (fun K hK=>?_) zB2
     go_simp
     ((first | refine Jb0 (n:=W.heap.size+ext3.size) qg0 W.heap.size qI1 cTxn 7 ⟨xz,xo,xs,xp,xd,xv,xw⟩ rfl rfl (fun w' hB hbB=>?_) | refine Jb0 (n:=W.heap.size+ext2.size) qg0 W.heap.size qI1 cTxn 7 ⟨xz,xo,xs,xp,xd,xv,xw⟩ rfl rfl (fun w' hB hbB=>?_) | refine Jb0 (n:=W.heap.size) qg0 W.heap.size qI1 cTxn 7 ⟨xz,xo,xs,xp,xd,xv,xw⟩ rfl rfl (fun w' hB hbB=>?_)); have HB:=zA0 hB; (first | (have HNE:=zA0 (Ne.symm (HM.out.apart (x:=.slice (some ⟨W.heap.size+ext2.size,0,none⟩) 1 1) rfl qI1))) | skip); (first | replace HM:=zA0 (HM.out.below hbB) | skip); (first | replace HA1:=zA0 (HA1.out.below hbB) | skip); obtain ⟨ext4,d4,rfl⟩:=zA2 W (zB8 zR hbB); clear hbB hB)
     refine hK.out _ _ ?gT1_12 (fun hHeld=>?_)
     case gT1_12=>((try dsimp only); (refine ⟨?_,?_,?_,?_,?_,?_,?_,?_⟩ <;> go_simp))
     clear hK K
     try simp only [Act.put,zA6,zA4,zA5]
     refine zB1 (rs:=[12]) qE1 qI1 ?_;refine zB4 qQ0 (fun K hK=>?_) zB2
     (refine JbV qJ1 (.tmp 41) (.tmp 43) _ rfl Jfr (B:=W.heap.size) (v:=.slice A2 log.length c2) (l:=log) (m:=[⟨xz,xo,xs,xp,xd,xv,xw⟩]) rfl rfl HA1.out HB.out.sl JbY qT0 qd0 qy0 ?_; intro v5 w5 hown5 hg5 _; obtain ⟨A5,c5,rfl,_⟩:=hown5.form; obtain ⟨ext5,d5,rfl⟩:=JcF (W:=W) zR hg5 HA1.out.above; have HA2:=zA0 hown5; clear hown5 hg5)
     refine hK.out _ _ ?gT1_13 (fun hHeld=>?_)
     case gT1_13=>((try dsimp only); (refine ⟨?_,?_,?_,?_,?_,?_,?_,?_⟩ <;> go_simp))
     clear hK K
     try simp only [Act.put,zA6,zA4,zA5]
     refine tpP 13 ?_;refine tpP 14 ?_;refine zB1 (rs:=[15]) qE1 qI1 ?_;refine zC8 qQ0 qE1 (fun K hK=>?_) zB2
     go_simp;refine hK.out _ _ ?_;clear hK K
     try simp only [Act.put,zA6,zA4,zA5]
     refine zC4 qE1 ?_ _;refine NoPanic.normal ?_;have hWW:=hW.out;subst hWW;go_wp2_with fail;refine zA1 (v:=.tuple #[vSrv ⟨up,a,id,ep,log ++ [⟨xz,xo,xs,xp,xd,xv,xw⟩],dn,tz,nodes,sess,wat⟩ ⟨A1,k1,A5,c5,na,nc,sa,sc,wa,wc⟩,.int .i64 0]) (by simp [results,Tryz.results72,go_sem]) rfl ⟨⟨A1,k1,A5,c5,na,nc,sa,sc,wa,wc⟩,rfl,⟨?_,?_,HN.out.below zR,HS.out.below zR,HW.out.below zR⟩,zR⟩
     ·refine Ow.sla (Ow.moved (W':=?hw1_16) (d':=?hd1_16) HO1.out (zA3 _) ?hb1_16 ?hz1_16) (fun q hq=>zD0 (HP.out q hq) qB1)
      case hb1_16=>exact zR
      case hz1_16=>simp
     ·refine Ow.sla (Ow.moved (W':=?hv1_16) (d':=?he1_16) HA2.out (zA3 _) ?hc1_16 ?hy1_16) (fun q hq=>zD0 (HP.out q hq) qB1)
      case hc1_16=>exact zR
      case hy1_16=>simp
    refine zB4 qQ0 (fun K hK=>?gO1_17) ?gL1_17
    case gO1_17=>
     go_simp
     ((first | refine Jb0 (n:=W.heap.size+ext3.size) qg0 W.heap.size qI1 cTxn 7 ⟨xz,xo,xs,xp,xd,xv,xw⟩ rfl rfl (fun w' hB hbB=>?_) | refine Jb0 (n:=W.heap.size+ext2.size) qg0 W.heap.size qI1 cTxn 7 ⟨xz,xo,xs,xp,xd,xv,xw⟩ rfl rfl (fun w' hB hbB=>?_) | refine Jb0 (n:=W.heap.size) qg0 W.heap.size qI1 cTxn 7 ⟨xz,xo,xs,xp,xd,xv,xw⟩ rfl rfl (fun w' hB hbB=>?_)); have HB:=zA0 hB; (first | (have HNE:=zA0 (Ne.symm (HM.out.apart (x:=.slice (some ⟨W.heap.size+ext2.size,0,none⟩) 1 1) rfl qI1))) | skip); (first | replace HM:=zA0 (HM.out.below hbB) | skip); (first | replace HA1:=zA0 (HA1.out.below hbB) | skip); obtain ⟨ext4,d4,rfl⟩:=zA2 W (zB8 zR hbB); clear hbB hB)
     refine hK.out _ _ ?gT1_17 (fun hHeld=>?_)
     case gT1_17=>((try dsimp only); (refine ⟨?_,?_,?_,?_,?_,?_,?_,?_⟩ <;> go_simp))
     clear hK K
     try simp only [Act.put,zA6,zA4,zA5]
     refine zB1 (rs:=[9]) qE1 qI1 ?_;refine zB4 qQ0 (fun K hK=>?_) zB2
     (refine JbV qJ1 (.tmp 37) (.tmp 40) _ rfl Jfr (B:=W.heap.size) (v:=.slice (some ⟨_,0,none⟩) 0 (log.length+1)) (l:=[]) (m:=log) rfl rfl (HM.out.below zR) (SL.out.below zR) JbY qT0 qd0 qy0 ?_; intro v2 w2 hown2 hg2 _; rw [zE0] at hown2; obtain ⟨A2,c2,rfl,_⟩:=hown2.form; (first | replace HB:=zA0 (HB.out.kept hg2 (.inr (by simpa using HNE.out))) | skip); obtain ⟨ext3,d3,rfl⟩:=JcF (W:=W) zR hg2 HM.out.above; have HA1:=zA0 hown2; clear hown2 hg2)
     refine hK.out _ _ ?gT1_18 (fun hHeld=>?_)
     case gT1_18=>((try dsimp only); (refine ⟨?_,?_,?_,?_,?_,?_,?_,?_⟩ <;> go_simp))
     clear hK K
     try simp only [Act.put,zA6,zA4,zA5]
     refine zB1 (rs:=[12]) qE1 qI1 ?_;refine zB4 qQ0 (fun K hK=>?_) zB2
     (refine JbV qJ1 (.tmp 41) (.tmp 43) _ rfl Jfr (B:=W.heap.size) (v:=.slice A2 log.length c2) (l:=log) (m:=[⟨xz,xo,xs,xp,xd,xv,xw⟩]) rfl rfl HA1.out HB.out.sl JbY qT0 qd0 qy0 ?_; intro v5 w5 hown5 hg5 _; obtain ⟨A5,c5,rfl,_⟩:=hown5.form; obtain ⟨ext5,d5,rfl⟩:=JcF (W:=W) zR hg5 HA1.out.above; have HA2:=zA0 hown5; clear hown5 hg5)
     refine hK.out _ _ ?gT1_19 (fun hHeld=>?_)
     case gT1_19=>((try dsimp only); (refine ⟨?_,?_,?_,?_,?_,?_,?_,?_⟩ <;> go_simp))
     clear hK K
     try simp only [Act.put,zA6,zA4,zA5]
     refine tpP 13 ?_;refine tpP 14 ?_;refine zB1 (rs:=[15]) qE1 qI1 ?_;refine zC8 qQ0 qE1 (fun K hK=>?_) zB2
     go_simp;refine hK.out _ _ ?_;clear hK K
     try simp only [Act.put,zA6,zA4,zA5]
     refine zC4 qE1 ?_ _;refine NoPanic.normal ?_;have hWW:=hW.out;subst hWW;go_wp2_with fail;refine zA1 (v:=.tuple #[vSrv ⟨up,a,id,ep,log ++ [⟨xz,xo,xs,xp,xd,xv,xw⟩],dn,tz,nodes,sess,wat⟩ ⟨A1,k1,A5,c5,na,nc,sa,sc,wa,wc⟩,.int .i64 0]) (by simp [results,Tryz.results72,go_sem]) rfl ⟨⟨A1,k1,A5,c5,na,nc,sa,sc,wa,wc⟩,rfl,⟨?_,?_,HN.out.below zR,HS.out.below zR,HW.out.below zR⟩,zR⟩
     ·refine Ow.sla (Ow.moved (W':=?hw1_22) (d':=?hd1_22) HO1.out (zA3 _) ?hb1_22 ?hz1_22) (fun q hq=>zD0 (HP.out q hq) qB1)
      case hb1_22=>exact zR
      case hz1_22=>simp
     ·refine Ow.sla (Ow.moved (W':=?hv1_22) (d':=?he1_22) HA2.out (zA3 _) ?hc1_22 ?hy1_22) (fun q hq=>zD0 (HP.out q hq) qB1)
      case hc1_22=>exact zR
      case hy1_22=>simp
    exact zB2
   refine zB4 qQ0 (fun K hK=>?gO1_23) ?gL1_23
   case gO1_23=>
    go_simp
    ((first | refine Jb0 (n:=W.heap.size+ext3.size) qg0 W.heap.size qI1 cTxn 7 ⟨xz,xo,xs,xp,xd,xv,xw⟩ rfl rfl (fun w' hB hbB=>?_) | refine Jb0 (n:=W.heap.size+ext2.size) qg0 W.heap.size qI1 cTxn 7 ⟨xz,xo,xs,xp,xd,xv,xw⟩ rfl rfl (fun w' hB hbB=>?_) | refine Jb0 (n:=W.heap.size) qg0 W.heap.size qI1 cTxn 7 ⟨xz,xo,xs,xp,xd,xv,xw⟩ rfl rfl (fun w' hB hbB=>?_)); have HB:=zA0 hB; (first | (have HNE:=zA0 (Ne.symm (HM.out.apart (x:=.slice (some ⟨W.heap.size+ext2.size,0,none⟩) 1 1) rfl qI1))) | skip); (first | replace HM:=zA0 (HM.out.below hbB) | skip); (first | replace HA1:=zA0 (HA1.out.below hbB) | skip); obtain ⟨ext4,d4,rfl⟩:=zA2 W (zB8 zR hbB); clear hbB hB)
    refine hK.out _ _ ?gT1_23 (fun hHeld=>?_)
    case gT1_23=>((try dsimp only); (refine ⟨?_,?_,?_,?_,?_,?_,?_,?_⟩ <;> go_simp))
    clear hK K
    try simp only [Act.put,zA6,zA4,zA5]
    refine zB1 (rs:=[5]) qE1 qI1 ?_;refine zB4 qQ0 (fun K hK=>?_) zB2
    (refine Jk9 qJ1 (.const (.int .i64 0)) (.tmp 36) _ rfl Jfr (f:=cTxn) (B:=W.heap.size) (n:=log.length+1) rfl rfl (by have:=HN1.out; unfold IntKind.wrap; simp [IntKind.signed,IntKind.bits]; omega) HN1.out qT0 qy0 ?_; intro w1 hown hg; (first | (have HNE:=zA0 (HB.out.apart (x:=.slice (some ⟨_,0,none⟩) 0 (log.length+1)) rfl (zA3 _)); replace HB:=zA0 (HB.out.kept hg (.inr qp0))) | skip); obtain ⟨ext2,d2,rfl⟩:=JcF (W:=W) zR hg qI1; have HM:=zA0 hown; clear hown hg)
    refine hK.out _ _ ?gT1_24 (fun hHeld=>?_)
    case gT1_24=>((try dsimp only); (refine ⟨?_,?_,?_,?_,?_,?_,?_,?_⟩ <;> go_simp))
    clear hK K
    try simp only [Act.put,zA6,zA4,zA5]
    refine zB1 (rs:=[9]) qE1 qI1 ?_;refine zB4 qQ0 (fun K hK=>?_) zB2
    (refine JbV qJ1 (.tmp 37) (.tmp 40) _ rfl Jfr (B:=W.heap.size) (v:=.slice (some ⟨_,0,none⟩) 0 (log.length+1)) (l:=[]) (m:=log) rfl rfl (HM.out.below zR) (SL.out.below zR) JbY qT0 qd0 qy0 ?_; intro v2 w2 hown2 hg2 _; rw [zE0] at hown2; obtain ⟨A2,c2,rfl,_⟩:=hown2.form; (first | replace HB:=zA0 (HB.out.kept hg2 (.inr (by simpa using HNE.out))) | skip); obtain ⟨ext3,d3,rfl⟩:=JcF (W:=W) zR hg2 HM.out.above; have HA1:=zA0 hown2; clear hown2 hg2)
    refine hK.out _ _ ?gT1_25 (fun hHeld=>?_)
    case gT1_25=>((try dsimp only); (refine ⟨?_,?_,?_,?_,?_,?_,?_,?_⟩ <;> go_simp))
    clear hK K
    try simp only [Act.put,zA6,zA4,zA5]
    refine zB1 (rs:=[12]) qE1 qI1 ?_;refine zB4 qQ0 (fun K hK=>?_) zB2
    (refine JbV qJ1 (.tmp 41) (.tmp 43) _ rfl Jfr (B:=W.heap.size) (v:=.slice A2 log.length c2) (l:=log) (m:=[⟨xz,xo,xs,xp,xd,xv,xw⟩]) rfl rfl HA1.out HB.out.sl JbY qT0 qd0 qy0 ?_; intro v5 w5 hown5 hg5 _; obtain ⟨A5,c5,rfl,_⟩:=hown5.form; obtain ⟨ext5,d5,rfl⟩:=JcF (W:=W) zR hg5 HA1.out.above; have HA2:=zA0 hown5; clear hown5 hg5)
    refine hK.out _ _ ?gT1_26 (fun hHeld=>?_)
    case gT1_26=>((try dsimp only); (refine ⟨?_,?_,?_,?_,?_,?_,?_,?_⟩ <;> go_simp))
    clear hK K
    try simp only [Act.put,zA6,zA4,zA5]
    refine tpP 13 ?_;refine tpP 14 ?_;refine zB1 (rs:=[15]) qE1 qI1 ?_;refine zC8 qQ0 qE1 (fun K hK=>?_) zB2
    go_simp;refine hK.out _ _ ?_;clear hK K
    try simp only [Act.put,zA6,zA4,zA5]
    refine zC4 qE1 ?_ _;refine NoPanic.normal ?_;have hWW:=hW.out;subst hWW;go_wp2_with fail;refine zA1 (v:=.tuple #[vSrv ⟨up,a,id,ep,log ++ [⟨xz,xo,xs,xp,xd,xv,xw⟩],dn,tz,nodes,sess,wat⟩ ⟨A1,k1,A5,c5,na,nc,sa,sc,wa,wc⟩,.int .i64 0]) (by simp [results,Tryz.results72,go_sem]) rfl ⟨⟨A1,k1,A5,c5,na,nc,sa,sc,wa,wc⟩,rfl,⟨?_,?_,HN.out.below zR,HS.out.below zR,HW.out.below zR⟩,zR⟩
    ·refine Ow.sla (Ow.moved (W':=?hw1_29) (d':=?hd1_29) HO1.out (zA3 _) ?hb1_29 ?hz1_29) (fun q hq=>zD0 (HP.out q hq) qB1)
     case hb1_29=>exact zR
     case hz1_29=>simp
    ·refine Ow.sla (Ow.moved (W':=?hv1_29) (d':=?he1_29) HA2.out (zA3 _) ?hc1_29 ?hy1_29) (fun q hq=>zD0 (HP.out q hq) qB1)
     case hc1_29=>exact zR
     case hy1_29=>simp
   exact zB2
  ·have hne:(appE disk x safe != 0)=true:=zC9.2 h0
   rw [if_neg h0];generalize appL disk x safe=a at *;generalize appE disk x safe=ae at *;clear h0;obtain ⟨xz,xo,xs,xp,xd,xv,xw⟩:=x;go_enter Tryz.func72,Tryz.ntmps72
   go_wp2_with fail;go_quiet (first | (go_at_call 84; with_reducible refine Calls.quiet_of_same ((HL.out _ ?_).mono fun e w' h=>⟨h.1,h.2.symm⟩); exact ((((HG1.out.alloc _).alloc _).alloc _).drewN _)))
   go_wp2_with ((go_at_call 105; refine (HA.out _ (HD.out.1.below zR)).mono ?_; rintro e w1 ⟨A1,k1,rfl,ho1,hb1⟩; obtain ⟨ext1,d1,rfl⟩:=zA2 _ hb1; have HO1:=zA0 ho1; clear ho1 hb1));refine zA1 (v:=.tuple #[vSrv JcQ Jdr,.int .i64 ae]) (by simp [results,Tryz.results72,go_sem]) rfl ⟨Jdr,rfl,JcE _ _,zR⟩
end
end Go.Proofs.YtjnooagaghdkdaaGreatDoor
