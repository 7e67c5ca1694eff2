/- The law TopQuorum is true for every input; no conditions. -/
import Derived.Test.YtjnooagaghdkdaaGreatDoorY44
set_option maxHeartbeats 10000000
set_option maxRecDepth 100000
set_option linter.all false
namespace Go.Proofs.YtjnooagaghdkdaaGreatDoor
section
open Go.RowKit Go.ChangeShapes Go.WideShapes Go.ChangeAt
theorem Jky {Reg:List Txn} {K i:Nat} {s:Srv} (h:UpIn Reg K i s) (hr:LogP Reg) (hn:Reg.length<=301) {q:Option (ByteArray × ByteArray)} {m1 m2:List Txn} (e:s.disk=dskB q (bS (recs m1)) (bS (recs m2))) (hl:s.log=m1 ++ m2) (hq:EpQ q s.epoch) :
  (∀ f∈(JaM s 0).disk,f.sized)/\(Jcf (i:Int) (JaM s 0).disk).log.length<=301:=by
 have hz:=h.size hr hn hl;have hb:=Jdl h hr hn e hl hq;refine ⟨?_,?_⟩
 ·have hc:=Jfg hq.size hq.safe (zB3 hz qH1) 0
  rw [<-e] at hc;have hd:(JaM s 0).disk=dskB q (bS (recs m1)) noB:=by
   have hc1:Jbv s.disk 0=0:=hc.1;have hc2:JdB s.disk 0=dskB q (bS (recs m1) ++ (bS (recs m2)).extract 0 (min 0 (bS (recs m2)).size)) noB:=hc.2;unfold JaM;rw [if_pos hc1,hc2];show dskB q _ noB=_;congr 1;apply JbV;rw [Nat.zero_min];have e1:bs ((bS (recs m2)).extract 0 0)=[]:=by rw [JaD]; simp
   have e2:bs (bS (recs m1) ++ (bS (recs m2)).extract 0 0)=bs (bS (recs m1)) ++ bs ((bS (recs m2)).extract 0 0):=JaP _ _;rw [e2,e1,zF3]
  rw [hd];exact JbI hq.size (by show _+0<=_; omega)
 ·rw [hb.2.2]
  have h1:s.log.length<=301:=zB3 h.lg.sub.length_le hn;rw [hl] at h1;simp at h1;omega
theorem Inv0.crashed {Reg:List Txn} {E:Int} {K:Nat} {σ:Wd} (h:Inv0 Reg E K σ) {i:Nat} (hi:i<3) (hu:(σ.s i).up=true):(∀ f∈(JaM (σ.s i) 0).disk,f.sized)/\(Jcf (i:Int) (JaM (σ.s i) 0).disk).log.length<=301/\∃ d:Nat,(σ.s i).done_=(d:Int)/\d<=(σ.s i).log.length/\(σ.s i).log.length<=301:=by
 have u:=h.up hi hu;obtain ⟨q,m1,m2,e,hl,hq⟩:=u.dk;obtain ⟨d,e1,e2,_⟩:=u.dn;have hh:=Jky u h.reg h.small e hl hq;exact ⟨hh.1,hh.2,d,e1,e2,zB3 u.lg.sub.length_le h.small⟩
theorem JoA (σ:Wd) (x:Txn) (k:Nat):Jea σ x k<=k:=by
 unfold Jea;exact zB3 (zL1 _ _) qJ1
theorem qB_down {σ:Wd} {x:Txn} {i:Nat} (h:¬ (σ.s i).up=true):qB σ x i=false:=by
 unfold qB;have:(σ.s i).up=false:=by simpa using h
 rw [this,zI8]
theorem qB_up {σ:Wd} {x:Txn} {i d:Nat} (h:(σ.s i).up=true) (hd:(σ.s i).done_=(d:Int)):qB σ x i=(hasB x (Jcf (i:Int) (JaM (σ.s i) 0).disk).log && hasB x ((σ.s i).log.take d)):=by
 unfold qB;rw [h,hd,zG7,zK8]
set_option maxRecDepth 100000 in
set_option maxHeartbeats 2000000 in
theorem Jj5 (b:Nat):LookIs 33 #[] (fun _=>False) b (fun _ _ _ _=>True):=by
 intro W σ τ Reg Reg' E E' sv cv dv d r A c hst _ hw hn _;rw [Array.append_empty];have HW:=zA0 hw;have HI:=zA0 hst.inv';have HQ:=zA0 (fun (hk:d.kind=1) (hc:r.code=0)=>by
  have:=Jol hst.inv d hk (by rw [hst.eq]; exact hc)
  rw [hst.eq] at this;exact this)
 have hdn:τ.dn.length<=300:=zB3 hst.inv'.dn.length_le (zB3 hst.inv'.len hst.inv'.k300);clear hst hn hw;obtain ⟨rc,rz,rpa,rda,⟨s1,s2,s3,s4,s5,s6,s7⟩,rns⟩:=r;simp only [rpV] at HQ ⊢;go_enter Tryz.func33,Tryz.ntmps33
 go_upto_region 1 with fail
 refine Jaq (fun W1 hW1=>?_)
 have HB1:=zA0 (show Below W.heap.size W W1 by rw [hW1.out]; exact zR)
 have x0:W1.cell? ⟨W.heap.size,0,none⟩=some (.int .i64 d.kind):=qvE;have x1:W1.cell? ⟨W.heap.size+1,0,none⟩=some (.int .i64 rc):=qvE;have hs1:W.heap.size+2<=W1.heap.size:=by rw [hW1.out]; simp
 clear hW1
 by_cases k1:d.kind=1
 ·have b1:(d.kind != 1)=false:=by rw [k1]; rfl
  by_cases c0:rc=0
  ·have b0:(rc != 0)=false:=by rw [c0]; rfl
   obtain ⟨x,hx1,hx2⟩:=HQ.out k1 c0;have HA:=zA0 (wAck _ b W1 τ sv cv dv (HW.out.below HB1.out) hdn);have hD:τ.dn.length=σ.dn.length+1:=by rw [hx1]; simp
   have hx:τ.dn[σ.dn.length]?=some x:=by rw [hx1]; simp
   rw [hD] at HA hdn;generalize σ.dn.length=n at *;clear HQ hx1 hD k1 c0;have hl0:((n:Int)+1 == 0)=false:=zB7.2 qI1;have hjj:(n:Int)<(n:Int)+1:=qCE;have hn0:(0:Int)<=(n:Int):=qCE;have hm2:n+1<=9223372036854775807:=qCE;go_upto_region 4 with ((go_at_call 14; refine (HA.out).mono ?_; rintro e w2 ⟨A2,c2,rfl,ho,hb⟩; have HO:=zA0 ho; have HB2:=zA0 hb; clear ho hb))
   obtain ⟨bd,off,hA,hbd,u0,u1,u2,u3,u4,u5,u6⟩:=HO.out.sl.Txn_at hx;subst hA;clear hx HO HA;go_upto_region 7 with fail
   refine Jaq (fun W2 hW2=>?_)
   have HX:=zA0 (show Bk W2 w2.heap.size [.int .i64 x.zxid,.int .i64 x.op,.int .i64 x.session,.string x.path,.string x.data,.int .i64 x.version,.int .i64 x.owner] 39 by rw [hW2.out]; exact Bk.new _ _ _ rfl)
   have HBW2:=zA0 (show Below W.heap.size W W2 from HB1.out.trans ((HB2.out.trans ((show Below w2.heap.size w2 W2 by rw [hW2.out]; exact zR).mono HB2.out.size)).mono HB1.out.size))
   clear hW2 u0 u1 u2 u3 u4 u5 u6 hbd hl0 hjj hn0 hm2 x0 x1 hdn HB2;go_wp2_with fail;go_loopw [9,10] (fun q i wr=>∃ m:Nat,m<=3/\i=.int .i64 m/\q=.int .i64 (Jea τ x m)/\Below W2.heap.size W2 wr) (fun _ i _=>3 - (intOf i).toNat)
   case atStart=>exact ⟨0,zB9 _,rfl,rfl,zB6 _ _⟩
   case round=>
    obtain ⟨m,hm,rfl,rfl,hbr⟩:=hrel
    by_cases hlt:m<3
    ·have HSV:=zA0 (wServer (fun _=>False) _ b wr τ sv cv dv Reg' E' τ.deeds ((HW.out.below HBW2.out).below hbr) HI.out.toInv0 (fun _ e=>e.elim) m hlt)
     have HCR:=zA0 (fun (w:World) (v:SrvV) (h:SrvIn (fun _=>False) w (τ.s m) v)=>JgT (fun _=>False) (fun _=>False) (τ.s m) v 0 w h (fun _ e=>e.elim) (HI.out.toInv0.sized hlt))
     have HBT:=zA0 (fun (hz:∀ f∈(JaM (τ.s m) 0).disk,f.sized) (w:World) (v:Value) (h:Sl Jaa 3 w v (JaM (τ.s m) 0).disk)=>Jhr (JfU (fun _=>False) (m:Int) v (JaM (τ.s m) 0).disk w h (fun _ e=>e.elim) hz qI1 qI1))
     have hcs:=Jdm τ x m;have hck:=zB3 (JoA τ x m) hm;have HBR:=zA0 hbr;clear hbr
     by_cases hu:(τ.s m).up=true
     ·obtain ⟨e1,e2⟩:=HI.out.toInv0.codes hlt hu
      obtain ⟨hz,h301,dd,hd1,hd2,hd3⟩:=HI.out.toInv0.crashed hlt hu;rw [e1] at HCR;rw [e2] at HBT;rw [qB_up hu hd1] at hcs;have HBT2:=zA0 (HBT.out hz);clear HBT e1 e2 hz;generalize Jcf (m:Int) (JaM (τ.s m) 0).disk=Bt at *;generalize JaM (τ.s m) 0=C at *;generalize τ.s m=S at *;obtain ⟨yu,yd,yi,ye,yl,yn,yt,yo,ys,yw⟩:=S;obtain ⟨cu,cd,ci,ce,cl,cn,ct,co,cs,cw⟩:=C;obtain ⟨bu,bdd,bi,be,bl,bn,bt,bo,bss,bw⟩:=Bt;simp only at hu hd1 hd2 hd3 h301 hcs HBT2;subst hu;subst hd1;simp only [vSrv] at HSV;go_upto_region 12 with ((go_at_call 26; (with_reducible refine (HSV.out).mono ?_); rintro e w3 ⟨⟨ea,ec,ga,gc,ia,ic,ja,jc,ka,kc⟩,rfl,hin,hb3⟩; have HIN:=zA0 hin; have HB3:=zA0 hb3; clear hin hb3))
      refine Jaq (fun W4 hW4=>?_)
      have hB4:Below w3.heap.size w3 W4:=qbE;have HX4:=zA0 (show Bk W4 w3.heap.size [.bool true,.slice ea yd.length ec,.int .i64 yi,.int .i64 ye,.slice ga yl.length gc,.int .i64 (dd:Int),.int .i64 yt,.slice ia yo.length ic,.slice ja ys.length jc,.slice ka yw.length kc] 71 from by rw [hW4.out]; exact Bk.new _ _ _ rfl)
      have HBR4:=zA0 (show Below W2.heap.size W2 W4 from HBR.out.trans ((HB3.out.trans (hB4.mono HB3.out.size)).mono HBR.out.size))
      have HC4:=zA0 (HCR.out W4 _ (HIN.out.below hB4));unfold JcO at HC4;simp only [vSrv] at HC4;have HLG:=zA0 (HIN.out.log.1.below hB4);have hw3:w3.heap.size<W4.heap.size:=HX4.out.lt;have z0:W4.cell? ⟨w3.heap.size,0,none⟩=some (.bool true):=HX4.out.cell 0;have z1:W4.cell? ⟨w3.heap.size,1,none⟩=some (.slice ea yd.length ec):=HX4.out.cell 1;have z2:W4.cell? ⟨w3.heap.size,2,none⟩=some (.int .i64 yi):=HX4.out.cell 2;have z3:W4.cell? ⟨w3.heap.size,3,none⟩=some (.int .i64 ye):=HX4.out.cell 3;have z4:W4.cell? ⟨w3.heap.size,4,none⟩=some (.slice ga yl.length gc):=HX4.out.cell 4;have z5:W4.cell? ⟨w3.heap.size,5,none⟩=some (.int .i64 (dd:Int)):=HX4.out.cell 5;have z6:W4.cell? ⟨w3.heap.size,6,none⟩=some (.int .i64 yt):=HX4.out.cell 6;have z7:W4.cell? ⟨w3.heap.size,7,none⟩=some (.slice ia yo.length ic):=HX4.out.cell 7;have z8:W4.cell? ⟨w3.heap.size,8,none⟩=some (.slice ja ys.length jc):=HX4.out.cell 8;have z9:W4.cell? ⟨w3.heap.size,9,none⟩=some (.slice ka yw.length kc):=HX4.out.cell 9;clear hW4 hB4 HSV HIN HB3 HBR HCR;go_upto_region 14 with ((go_at_call 34; refine (HC4.out).mono ?_; rintro e w5 ⟨⟨da,dc,la,lc,na,nc,sa,sc,wa,wc⟩,rfl,hin,hb5⟩; have HIN5:=zA0 hin; have HB5:=zA0 hb5; clear hin hb5))
      refine Jaq (fun W6 hW6=>?_)
      have hB6:Below w5.heap.size w5 W6:=by rw [hW6.out]; exact zR
      have y1:W6.cell? ⟨w5.heap.size,1,none⟩=some (.slice da cd.length dc):=by rw [hW6.out]; exact JhK rfl rfl
      have hw5:w5.heap.size<W6.heap.size:=by rw [hW6.out]; simp
      have HBR6:=zA0 (show Below W4.heap.size W4 W6 from HB5.out.trans (hB6.mono HB5.out.size))
      have HC6:=zA0 (HBT2.out W6 _ (HIN5.out.disk.1.below hB6));unfold JcO at HC6;simp only [vSrv] at HC6;clear hW6 hB6 HIN5 HB5 HBT2 HC4 z0 z1 z2 z3 z4 z5 z6 z7 z8 z9;go_upto_region 15 with ((go_at_call 35; refine (HC6.out).mono ?_; rintro e w7 ⟨⟨pa,pc,qa,qc,ra,rc',ta,tc,va,vc⟩,rfl,hin,hb7⟩; have HIN7:=zA0 hin; have HB7:=zA0 hb7; clear hin hb7))
      refine Jaq (fun W8 hW8=>?_)
      have hB8:Below w7.heap.size w7 W8:=by rw [hW8.out]; exact zR
      have v4:W8.cell? ⟨w7.heap.size,4,none⟩=some (.slice qa bl.length qc):=by rw [hW8.out]; exact JhK rfl rfl
      have hw7:w7.heap.size<W8.heap.size:=by rw [hW8.out]; simp
      have hBL:Sl cTxn 7 W8 (.slice qa bl.length qc) bl:=HIN7.out.log.1.below hB8;have HBR8:=zA0 (show Below W4.heap.size W4 W8 from HBR6.out.trans ((HB7.out.trans (hB8.mono HB7.out.size)).mono HBR6.out.size))
      have HX8:=zA0 (HX4.out.below HBR8.out);have z4:W8.cell? ⟨w3.heap.size,4,none⟩=some (.slice ga yl.length gc):=HX8.out.cell 4;have z5:W8.cell? ⟨w3.heap.size,5,none⟩=some (.int .i64 (dd:Int)):=HX8.out.cell 5;have hw3b:w3.heap.size<W8.heap.size:=HX8.out.lt;have HBRF:=zA0 (show Below W2.heap.size W2 W8 from HBR4.out.trans (HBR8.out.mono HBR4.out.size))
      have HXF:=zA0 (HX.out.below HBRF.out);have o0:W8.cell? ⟨w2.heap.size,0,none⟩=some (.int .i64 x.zxid):=HXF.out.cell 0;have o1:W8.cell? ⟨w2.heap.size,1,none⟩=some (.int .i64 x.op):=HXF.out.cell 1;have o2:W8.cell? ⟨w2.heap.size,2,none⟩=some (.int .i64 x.session):=HXF.out.cell 2;have o3:W8.cell? ⟨w2.heap.size,3,none⟩=some (.string x.path):=HXF.out.cell 3;have o4:W8.cell? ⟨w2.heap.size,4,none⟩=some (.string x.data):=HXF.out.cell 4;have o5:W8.cell? ⟨w2.heap.size,5,none⟩=some (.int .i64 x.version):=HXF.out.cell 5;have o6:W8.cell? ⟨w2.heap.size,6,none⟩=some (.int .i64 x.owner):=HXF.out.cell 6;have hw2b:w2.heap.size<W8.heap.size:=HXF.out.lt;have HLG8:=HLG.out.below HBR8.out;have htk:(yl.take dd).length=dd:=qWE;have HWI1:=zA0 (fun (U:World) (A:Option Addr) (c:Nat) (hb:Below W8.heap.size W8 U) (h:Sl cTxn 7 U (.slice A 1 c) [x])=>Jim x A c qa qc bl U h (hBL.below hb) h301)
      have HWI2:=zA0 (fun (U:World) (A:Option Addr) (c:Nat) (hb:Below W8.heap.size W8 U) (h:Sl cTxn 7 U (.slice A 1 c) [x])=>Jim x A c ga gc (yl.take dd) U h ((HLG8.pre2 (List.take_prefix dd yl)).below hb) qI1)
      rw [htk] at HWI2;have hcap:=HLG8.caps;have hdg:dd<=gc:=qCE;have hgm:gc<=9223372036854775807:=zB3 hcap.2 qH1;generalize hasB x bl=B1 at *;generalize hasB x (yl.take dd)=B2 at *;have HCS:=zA0 hcs;generalize Jea τ x m=k at *;have HK1:=zA0 hlt;clear hW8 hB8 HIN7 HB7 HC6 HBR8 HBR6 HBR4 HX8 HX4 HXF HLG HLG8 hBL htk hcap y1 hw5 hw3 hcs h301 hd2 hd3;go_upto_region 17 with fail
      cases B1 with
      | false=>
       refine wp_region_noPanic ?_;refine wp_region_held_drew (S:=(fun w'=>w'.cell? ⟨w2.heap.size,0,none⟩=some (.int .i64 x.zxid)/\w'.cell? ⟨w2.heap.size,1,none⟩=some (.int .i64 x.op)/\w'.cell? ⟨w2.heap.size,2,none⟩=some (.int .i64 x.session)/\w'.cell? ⟨w2.heap.size,3,none⟩=some (.string x.path)/\w'.cell? ⟨w2.heap.size,4,none⟩=some (.string x.data)/\w'.cell? ⟨w2.heap.size,5,none⟩=some (.int .i64 x.version)/\w'.cell? ⟨w2.heap.size,6,none⟩=some (.int .i64 x.owner)/\w'.cell? ⟨w7.heap.size,4,none⟩=some (.slice qa bl.length qc)/\w'.cell? ⟨w3.heap.size,4,none⟩=some (.slice ga yl.length gc)/\w'.cell? ⟨w3.heap.size,5,none⟩=some (.int .i64 (dd:Int)))) qE1 ?h1gS (fun hHeld=>?h1gW)
       case h1gS=>((try dsimp only); (refine ⟨?_,?_,?_,?_,?_,?_,?_,?_,?_,?_⟩ <;> go_simp))
       first | (refine wpAnyH_take (i:=0) (v:=?h1gV0) qQ0 qE1 qE1 qE1 (fun _ _ _ h=>h) (Or.inl ⟨by rfl,?h1gY0⟩) qF1 ?h1gR0; case h1gY0=>(intro w hSw; (try dsimp only at hSw); go_simp <;> with_reducible rfl)) | (refine wpAnyH_take (i:=0) (v:=undef) qQ0 qE1 qE1 qE1 (fun _ _ _ h=>h) (Or.inr ⟨by rfl,rfl⟩) qF1 ?_)
       try simp only [Act.put,zA6,zA4,zA5]
       first | (refine wpAnyH_take (i:=2) (v:=?h1gV2) qQ0 qE1 qE1 qE1 (fun _ _ _ h=>h) (Or.inl ⟨by rfl,?h1gY2⟩) qF1 ?h1gR2; case h1gY2=>(intro w hSw; (try dsimp only at hSw); go_simp <;> with_reducible rfl)) | (refine wpAnyH_take (i:=2) (v:=undef) qQ0 qE1 qE1 qE1 (fun _ _ _ h=>h) (Or.inr ⟨by rfl,rfl⟩) qF1 ?_)
       try simp only [Act.put,zA6,zA4,zA5]
       first | (refine wpAnyH_take (i:=3) (v:=?h1gV3) qQ0 qE1 qE1 qE1 (fun _ _ _ h=>h) (Or.inl ⟨by rfl,?h1gY3⟩) qF1 ?h1gR3; case h1gY3=>(intro w hSw; (try dsimp only at hSw); go_simp <;> with_reducible rfl)) | (refine wpAnyH_take (i:=3) (v:=undef) qQ0 qE1 qE1 qE1 (fun _ _ _ h=>h) (Or.inr ⟨by rfl,rfl⟩) qF1 ?_)
       try simp only [Act.put,zA6,zA4,zA5]
       first | (refine wpAnyH_take (i:=4) (v:=?h1gV4) qQ0 qE1 qE1 qE1 (fun _ _ _ h=>h) (Or.inl ⟨by rfl,?h1gY4⟩) qF1 ?h1gR4; case h1gY4=>(intro w hSw; (try dsimp only at hSw); go_simp <;> with_reducible rfl)) | (refine wpAnyH_take (i:=4) (v:=undef) qQ0 qE1 qE1 qE1 (fun _ _ _ h=>h) (Or.inr ⟨by rfl,rfl⟩) qF1 ?_)
       try simp only [Act.put,zA6,zA4,zA5]
       refine wpAnyH_ready (rs:=[1]) qE1 qJ1 ?_;refine AllReadyH.cons qQ0 (fun K hK=>?h1gN1) ?h1gM1
       case h1gM1=>exact AllReadyH.nil
       go_simp
       skip
       refine hK.out _ _ ?h1gT1 (fun hHeld=>?h1gX1)
       case h1gT1=>((try dsimp only); (refine ⟨?_,?_,?_,?_,?_,?_,?_,?_,?_,?_⟩ <;> go_simp))
       clear hK K
       try simp only [Act.put,zA6,zA4,zA5]
       refine wpAnyH_ready (rs:=[5]) qE1 qJ1 ?_;refine AllReadyH.cons qQ0 (fun K hK=>?h1gN5) ?h1gM5
       case h1gM5=>exact AllReadyH.nil
       go_simp
       (go_at_call 36; refine Calls.mono (HWI1.out _ _ _ ?hbHWI1 ?hsHWI1) ?_; (case hbHWI1=>exact zR); (case hsHWI1=>exact Sl.one_at cTxn 7 _ x _ rfl _ rfl qI1 qJ1); rintro e w9 ⟨rfl,hb⟩; obtain ⟨extw9,dw9,rfl⟩:=zA2 _ hb; clear hb)
       refine hK.out _ _ ?h1gT5 (fun hHeld=>?h1gX5)
       case h1gT5=>((try dsimp only); (refine ⟨?_,?_,?_,?_,?_,?_,?_,?_,?_,?_⟩ <;> go_simp))
       clear hK K
       try simp only [Act.put,zA6,zA4,zA5]
       first | (refine wpAnyH_take (i:=6) (v:=?h1gV6) qQ0 qE1 qE1 qE1 (fun _ _ _ h=>h) (Or.inl ⟨by rfl,?h1gY6⟩) qF1 ?h1gR6; case h1gY6=>(intro w hSw; (try dsimp only at hSw); go_simp <;> with_reducible rfl)) | (refine wpAnyH_take (i:=6) (v:=undef) qQ0 qE1 qE1 qE1 (fun _ _ _ h=>h) (Or.inr ⟨by rfl,rfl⟩) qF1 ?_)
       try simp only [Act.put,zA6,zA4,zA5]
       first | (refine wpAnyH_take (i:=7) (v:=?h1gV7) qQ0 qE1 qE1 qE1 (fun _ _ _ h=>h) (Or.inl ⟨by rfl,?h1gY7⟩) qF1 ?h1gR7; case h1gY7=>(intro w hSw; (try dsimp only at hSw); go_simp <;> with_reducible rfl)) | (refine wpAnyH_take (i:=7) (v:=undef) qQ0 qE1 qE1 qE1 (fun _ _ _ h=>h) (Or.inr ⟨by rfl,rfl⟩) qF1 ?_)
       try simp only [Act.put,zA6,zA4,zA5]
       first | (refine wpAnyH_take (i:=8) (v:=?h1gV8) qQ0 qE1 qE1 qE1 (fun _ _ _ h=>h) (Or.inl ⟨by rfl,?h1gY8⟩) qF1 ?h1gR8; case h1gY8=>(intro w hSw; (try dsimp only at hSw); go_simp <;> with_reducible rfl)) | (refine wpAnyH_take (i:=8) (v:=undef) qQ0 qE1 qE1 qE1 (fun _ _ _ h=>h) (Or.inr ⟨by rfl,rfl⟩) qF1 ?_)
       try simp only [Act.put,zA6,zA4,zA5]
       first | (refine wpAnyH_take (i:=9) (v:=?h1gV9) qQ0 qE1 qE1 qE1 (fun _ _ _ h=>h) (Or.inl ⟨by rfl,?h1gY9⟩) qF1 ?h1gR9; case h1gY9=>(intro w hSw; (try dsimp only at hSw); go_simp <;> with_reducible rfl)) | (refine wpAnyH_take (i:=9) (v:=undef) qQ0 qE1 qE1 qE1 (fun _ _ _ h=>h) (Or.inr ⟨by rfl,rfl⟩) qF1 ?_)
       try simp only [Act.put,zA6,zA4,zA5]
       first | (refine wpAnyH_take (i:=10) (v:=?h1gV10) qQ0 qE1 qE1 qE1 (fun _ _ _ h=>h) (Or.inl ⟨by rfl,?h1gY10⟩) qF1 ?h1gR10; case h1gY10=>(intro w hSw; (try dsimp only at hSw); go_simp <;> with_reducible rfl)) | (refine wpAnyH_take (i:=10) (v:=undef) qQ0 qE1 qE1 qE1 (fun _ _ _ h=>h) (Or.inr ⟨by rfl,rfl⟩) qF1 ?_)
       try simp only [Act.put,zA6,zA4,zA5]
       first | (refine wpAnyH_take (i:=11) (v:=?h1gV11) qQ0 qE1 qE1 qE1 (fun _ _ _ h=>h) (Or.inl ⟨by rfl,?h1gY11⟩) qF1 ?h1gR11; case h1gY11=>(intro w hSw; (try dsimp only at hSw); go_simp <;> with_reducible rfl)) | (refine wpAnyH_take (i:=11) (v:=undef) qQ0 qE1 qE1 qE1 (fun _ _ _ h=>h) (Or.inr ⟨by rfl,rfl⟩) qF1 ?_)
       try simp only [Act.put,zA6,zA4,zA5]
       first | (refine wpAnyH_take (i:=12) (v:=?h1gV12) qQ0 qE1 qE1 qE1 (fun _ _ _ h=>h) (Or.inl ⟨by rfl,?h1gY12⟩) qF1 ?h1gR12; case h1gY12=>(intro w hSw; (try dsimp only at hSw); go_simp <;> with_reducible rfl)) | (refine wpAnyH_take (i:=12) (v:=undef) qQ0 qE1 qE1 qE1 (fun _ _ _ h=>h) (Or.inr ⟨by rfl,rfl⟩) qF1 ?_)
       try simp only [Act.put,zA6,zA4,zA5]
       first | (refine wpAnyH_take (i:=13) (v:=?h1gV13) qQ0 qE1 qE1 qE1 (fun _ _ _ h=>h) (Or.inl ⟨by rfl,?h1gY13⟩) qF1 ?h1gR13; case h1gY13=>(intro w hSw; (try dsimp only at hSw); go_simp <;> with_reducible rfl)) | (refine wpAnyH_take (i:=13) (v:=undef) qQ0 qE1 qE1 qE1 (fun _ _ _ h=>h) (Or.inr ⟨by rfl,rfl⟩) qF1 ?_)
       try simp only [Act.put,zA6,zA4,zA5]
       first | (refine wpAnyH_take (i:=14) (v:=?h1gV14) qQ0 qE1 qE1 qE1 (fun _ _ _ h=>h) (Or.inl ⟨by rfl,?h1gY14⟩) qF1 ?h1gR14; case h1gY14=>(intro w hSw; (try dsimp only at hSw); go_simp <;> with_reducible rfl)) | (refine wpAnyH_take (i:=14) (v:=undef) qQ0 qE1 qE1 qE1 (fun _ _ _ h=>h) (Or.inr ⟨by rfl,rfl⟩) qF1 ?_)
       try simp only [Act.put,zA6,zA4,zA5]
       first | (refine wpAnyH_take (i:=15) (v:=?h1gV15) qQ0 qE1 qE1 qE1 (fun _ _ _ h=>h) (Or.inl ⟨by rfl,?h1gY15⟩) qF1 ?h1gR15; case h1gY15=>(intro w hSw; (try dsimp only at hSw); go_simp <;> with_reducible rfl)) | (refine wpAnyH_take (i:=15) (v:=undef) qQ0 qE1 qE1 qE1 (fun _ _ _ h=>h) (Or.inr ⟨by rfl,rfl⟩) qF1 ?_)
       try simp only [Act.put,zA6,zA4,zA5]
       first | (refine wpAnyH_take (i:=16) (v:=?h1gV16) qQ0 qE1 qE1 qE1 (fun _ _ _ h=>h) (Or.inl ⟨by rfl,?h1gY16⟩) qF1 ?h1gR16; case h1gY16=>(intro w hSw; (try dsimp only at hSw); go_simp <;> with_reducible rfl)) | (refine wpAnyH_take (i:=16) (v:=undef) qQ0 qE1 qE1 qE1 (fun _ _ _ h=>h) (Or.inr ⟨by rfl,rfl⟩) qF1 ?_)
       try simp only [Act.put,zA6,zA4,zA5]
       first | (refine wpAnyH_take (i:=17) (v:=?h1gV17) qQ0 qE1 qE1 qE1 (fun _ _ _ h=>h) (Or.inl ⟨by rfl,?h1gY17⟩) qF1 ?h1gR17; case h1gY17=>(intro w hSw; (try dsimp only at hSw); go_simp <;> with_reducible rfl)) | (refine wpAnyH_take (i:=17) (v:=undef) qQ0 qE1 qE1 qE1 (fun _ _ _ h=>h) (Or.inr ⟨by rfl,rfl⟩) qF1 ?_)
       try simp only [Act.put,zA6,zA4,zA5]
       refine wpAnyH_done qE1 ?_ _;refine NoPanic.normal ?_;go_wp2_with fail;go_roundw
       case rel=>exact ⟨m+1,by omega,by go_num,by rw [HCS.out]; first | rfl | go_num,HBRF.out.trans ((show Below W8.heap.size W8 _ from zR).mono HBRF.out.size)⟩
       case measure=>simp [intOf]; omega
      | true=>
       refine wp_region_noPanic ?_;refine wp_region_held_drew (S:=(fun w'=>w'.cell? ⟨w2.heap.size,0,none⟩=some (.int .i64 x.zxid)/\w'.cell? ⟨w2.heap.size,1,none⟩=some (.int .i64 x.op)/\w'.cell? ⟨w2.heap.size,2,none⟩=some (.int .i64 x.session)/\w'.cell? ⟨w2.heap.size,3,none⟩=some (.string x.path)/\w'.cell? ⟨w2.heap.size,4,none⟩=some (.string x.data)/\w'.cell? ⟨w2.heap.size,5,none⟩=some (.int .i64 x.version)/\w'.cell? ⟨w2.heap.size,6,none⟩=some (.int .i64 x.owner)/\w'.cell? ⟨w7.heap.size,4,none⟩=some (.slice qa bl.length qc)/\w'.cell? ⟨w3.heap.size,4,none⟩=some (.slice ga yl.length gc)/\w'.cell? ⟨w3.heap.size,5,none⟩=some (.int .i64 (dd:Int)))) qE1 ?h2gS (fun hHeld=>?h2gW)
       case h2gS=>((try dsimp only); (refine ⟨?_,?_,?_,?_,?_,?_,?_,?_,?_,?_⟩ <;> go_simp))
       first | (refine wpAnyH_take (i:=0) (v:=?h2gV0) qQ0 qE1 qE1 qE1 (fun _ _ _ h=>h) (Or.inl ⟨by rfl,?h2gY0⟩) qF1 ?h2gR0; case h2gY0=>(intro w hSw; (try dsimp only at hSw); go_simp <;> with_reducible rfl)) | (refine wpAnyH_take (i:=0) (v:=undef) qQ0 qE1 qE1 qE1 (fun _ _ _ h=>h) (Or.inr ⟨by rfl,rfl⟩) qF1 ?_)
       try simp only [Act.put,zA6,zA4,zA5]
       first | (refine wpAnyH_take (i:=2) (v:=?h2gV2) qQ0 qE1 qE1 qE1 (fun _ _ _ h=>h) (Or.inl ⟨by rfl,?h2gY2⟩) qF1 ?h2gR2; case h2gY2=>(intro w hSw; (try dsimp only at hSw); go_simp <;> with_reducible rfl)) | (refine wpAnyH_take (i:=2) (v:=undef) qQ0 qE1 qE1 qE1 (fun _ _ _ h=>h) (Or.inr ⟨by rfl,rfl⟩) qF1 ?_)
       try simp only [Act.put,zA6,zA4,zA5]
       first | (refine wpAnyH_take (i:=3) (v:=?h2gV3) qQ0 qE1 qE1 qE1 (fun _ _ _ h=>h) (Or.inl ⟨by rfl,?h2gY3⟩) qF1 ?h2gR3; case h2gY3=>(intro w hSw; (try dsimp only at hSw); go_simp <;> with_reducible rfl)) | (refine wpAnyH_take (i:=3) (v:=undef) qQ0 qE1 qE1 qE1 (fun _ _ _ h=>h) (Or.inr ⟨by rfl,rfl⟩) qF1 ?_)
       try simp only [Act.put,zA6,zA4,zA5]
       first | (refine wpAnyH_take (i:=4) (v:=?h2gV4) qQ0 qE1 qE1 qE1 (fun _ _ _ h=>h) (Or.inl ⟨by rfl,?h2gY4⟩) qF1 ?h2gR4; case h2gY4=>(intro w hSw; (try dsimp only at hSw); go_simp <;> with_reducible rfl)) | (refine wpAnyH_take (i:=4) (v:=undef) qQ0 qE1 qE1 qE1 (fun _ _ _ h=>h) (Or.inr ⟨by rfl,rfl⟩) qF1 ?_)
       try simp only [Act.put,zA6,zA4,zA5]
       refine wpAnyH_ready (rs:=[1]) qE1 qJ1 ?_;refine AllReadyH.cons qQ0 (fun K hK=>?h2gN1) ?h2gM1
       case h2gM1=>exact AllReadyH.nil
       go_simp
       skip
       refine hK.out _ _ ?h2gT1 (fun hHeld=>?h2gX1)
       case h2gT1=>((try dsimp only); (refine ⟨?_,?_,?_,?_,?_,?_,?_,?_,?_,?_⟩ <;> go_simp))
       clear hK K
       try simp only [Act.put,zA6,zA4,zA5]
       refine wpAnyH_ready (rs:=[5]) qE1 qJ1 ?_;refine AllReadyH.cons qQ0 (fun K hK=>?h2gN5) ?h2gM5
       case h2gM5=>exact AllReadyH.nil
       go_simp
       (go_at_call 36; refine Calls.mono (HWI1.out _ _ _ ?hbHWI1 ?hsHWI1) ?_; (case hbHWI1=>exact zR); (case hsHWI1=>exact Sl.one_at cTxn 7 _ x _ rfl _ rfl qI1 qJ1); rintro e w9 ⟨rfl,hb⟩; obtain ⟨extw9,dw9,rfl⟩:=zA2 _ hb; clear hb)
       refine hK.out _ _ ?h2gT5 (fun hHeld=>?h2gX5)
       case h2gT5=>((try dsimp only); (refine ⟨?_,?_,?_,?_,?_,?_,?_,?_,?_,?_⟩ <;> go_simp))
       clear hK K
       try simp only [Act.put,zA6,zA4,zA5]
       first | (refine wpAnyH_take (i:=6) (v:=?h2gV6) qQ0 qE1 qE1 qE1 (fun _ _ _ h=>h) (Or.inl ⟨by rfl,?h2gY6⟩) qF1 ?h2gR6; case h2gY6=>(intro w hSw; (try dsimp only at hSw); go_simp <;> with_reducible rfl)) | (refine wpAnyH_take (i:=6) (v:=undef) qQ0 qE1 qE1 qE1 (fun _ _ _ h=>h) (Or.inr ⟨by rfl,rfl⟩) qF1 ?_)
       try simp only [Act.put,zA6,zA4,zA5]
       first | (refine wpAnyH_take (i:=7) (v:=?h2gV7) qQ0 qE1 qE1 qE1 (fun _ _ _ h=>h) (Or.inl ⟨by rfl,?h2gY7⟩) qF1 ?h2gR7; case h2gY7=>(intro w hSw; (try dsimp only at hSw); go_simp <;> with_reducible rfl)) | (refine wpAnyH_take (i:=7) (v:=undef) qQ0 qE1 qE1 qE1 (fun _ _ _ h=>h) (Or.inr ⟨by rfl,rfl⟩) qF1 ?_)
       try simp only [Act.put,zA6,zA4,zA5]
       first | (refine wpAnyH_take (i:=9) (v:=?h2gV9) qQ0 qE1 qE1 qE1 (fun _ _ _ h=>h) (Or.inl ⟨by rfl,?h2gY9⟩) qF1 ?h2gR9; case h2gY9=>(intro w hSw; (try dsimp only at hSw); go_simp <;> with_reducible rfl)) | (refine wpAnyH_take (i:=9) (v:=undef) qQ0 qE1 qE1 qE1 (fun _ _ _ h=>h) (Or.inr ⟨by rfl,rfl⟩) qF1 ?_)
       try simp only [Act.put,zA6,zA4,zA5]
       first | (refine wpAnyH_take (i:=10) (v:=?h2gV10) qQ0 qE1 qE1 qE1 (fun _ _ _ h=>h) (Or.inl ⟨by rfl,?h2gY10⟩) qF1 ?h2gR10; case h2gY10=>(intro w hSw; (try dsimp only at hSw); go_simp <;> with_reducible rfl)) | (refine wpAnyH_take (i:=10) (v:=undef) qQ0 qE1 qE1 qE1 (fun _ _ _ h=>h) (Or.inr ⟨by rfl,rfl⟩) qF1 ?_)
       try simp only [Act.put,zA6,zA4,zA5]
       first | (refine wpAnyH_take (i:=11) (v:=?h2gV11) qQ0 qE1 qE1 qE1 (fun _ _ _ h=>h) (Or.inl ⟨by rfl,?h2gY11⟩) qF1 ?h2gR11; case h2gY11=>(intro w hSw; (try dsimp only at hSw); go_simp <;> with_reducible rfl)) | (refine wpAnyH_take (i:=11) (v:=undef) qQ0 qE1 qE1 qE1 (fun _ _ _ h=>h) (Or.inr ⟨by rfl,rfl⟩) qF1 ?_)
       try simp only [Act.put,zA6,zA4,zA5]
       first | (refine wpAnyH_take (i:=12) (v:=?h2gV12) qQ0 qE1 qE1 qE1 (fun _ _ _ h=>h) (Or.inl ⟨by rfl,?h2gY12⟩) qF1 ?h2gR12; case h2gY12=>(intro w hSw; (try dsimp only at hSw); go_simp <;> with_reducible rfl)) | (refine wpAnyH_take (i:=12) (v:=undef) qQ0 qE1 qE1 qE1 (fun _ _ _ h=>h) (Or.inr ⟨by rfl,rfl⟩) qF1 ?_)
       try simp only [Act.put,zA6,zA4,zA5]
       first | (refine wpAnyH_take (i:=13) (v:=?h2gV13) qQ0 qE1 qE1 qE1 (fun _ _ _ h=>h) (Or.inl ⟨by rfl,?h2gY13⟩) qF1 ?h2gR13; case h2gY13=>(intro w hSw; (try dsimp only at hSw); go_simp <;> with_reducible rfl)) | (refine wpAnyH_take (i:=13) (v:=undef) qQ0 qE1 qE1 qE1 (fun _ _ _ h=>h) (Or.inr ⟨by rfl,rfl⟩) qF1 ?_)
       try simp only [Act.put,zA6,zA4,zA5]
       first | (refine wpAnyH_take (i:=14) (v:=?h2gV14) qQ0 qE1 qE1 qE1 (fun _ _ _ h=>h) (Or.inl ⟨by rfl,?h2gY14⟩) qF1 ?h2gR14; case h2gY14=>(intro w hSw; (try dsimp only at hSw); go_simp <;> with_reducible rfl)) | (refine wpAnyH_take (i:=14) (v:=undef) qQ0 qE1 qE1 qE1 (fun _ _ _ h=>h) (Or.inr ⟨by rfl,rfl⟩) qF1 ?_)
       try simp only [Act.put,zA6,zA4,zA5]
       first | (refine wpAnyH_take (i:=15) (v:=?h2gV15) qQ0 qE1 qE1 qE1 (fun _ _ _ h=>h) (Or.inl ⟨by rfl,?h2gY15⟩) qF1 ?h2gR15; case h2gY15=>(intro w hSw; (try dsimp only at hSw); go_simp <;> with_reducible rfl)) | (refine wpAnyH_take (i:=15) (v:=undef) qQ0 qE1 qE1 qE1 (fun _ _ _ h=>h) (Or.inr ⟨by rfl,rfl⟩) qF1 ?_)
       try simp only [Act.put,zA6,zA4,zA5]
       refine wpAnyH_ready (rs:=[8]) qE1 qJ1 ?_;refine AllReadyH.cons qQ0 (fun K hK=>?h2gN8) ?h2gM8
       case h2gM8=>exact AllReadyH.nil
       go_simp
       skip
       refine hK.out _ _ ?h2gT8 (fun hHeld=>?h2gX8)
       case h2gT8=>((try dsimp only); (refine ⟨?_,?_,?_,?_,?_,?_,?_,?_,?_,?_⟩ <;> go_simp))
       clear hK K
       try simp only [Act.put,zA6,zA4,zA5]
       refine wpAnyH_ready (rs:=[16]) qE1 qJ1 ?_;refine AllReadyH.cons qQ0 (fun K hK=>?h2gN16) ?h2gM16
       case h2gM16=>exact AllReadyH.nil
       go_simp
       (go_at_call 36; refine Calls.mono (HWI2.out _ _ _ ?hbHWI2 ?hsHWI2) ?_; (case hbHWI2=>exact zR); (case hsHWI2=>exact Sl.one_at cTxn 7 _ x _ rfl _ rfl qI1 qJ1); rintro e w10 ⟨rfl,hb⟩; obtain ⟨extw10,dw10,rfl⟩:=zA2 _ hb; clear hb)
       refine hK.out _ _ ?h2gT16 (fun hHeld=>?h2gX16)
       case h2gT16=>((try dsimp only); (refine ⟨?_,?_,?_,?_,?_,?_,?_,?_,?_,?_⟩ <;> go_simp))
       clear hK K
       try simp only [Act.put,zA6,zA4,zA5]
       first | (refine wpAnyH_take (i:=17) (v:=?h2gV17) qQ0 qE1 qE1 qE1 (fun _ _ _ h=>h) (Or.inl ⟨by rfl,?h2gY17⟩) qF1 ?h2gR17; case h2gY17=>(intro w hSw; (try dsimp only at hSw); go_simp <;> with_reducible rfl)) | (refine wpAnyH_take (i:=17) (v:=undef) qQ0 qE1 qE1 qE1 (fun _ _ _ h=>h) (Or.inr ⟨by rfl,rfl⟩) qF1 ?_)
       try simp only [Act.put,zA6,zA4,zA5]
       refine wpAnyH_done qE1 ?_ _;refine NoPanic.normal ?_;cases B2 with
       | false=>
        go_wp2_with fail;go_roundw
        case rel=>exact ⟨m+1,by omega,by go_num,by rw [HCS.out]; first | rfl | go_num,HBRF.out.trans ((show Below W8.heap.size W8 _ from zR).mono HBRF.out.size)⟩
        case measure=>simp [intOf]; omega
       | true=>
        go_wp2_with fail;go_roundw
        case rel=>exact ⟨m+1,by omega,by go_num,by rw [HCS.out]; first | rfl | go_num,HBRF.out.trans ((show Below W8.heap.size W8 _ from zR).mono HBRF.out.size)⟩
        case measure=>simp [intOf]; omega
     ·rw [qB_down hu] at hcs
      have hu':(τ.s m).up=false:=by simpa using hu
      clear HCR HBT hu;generalize τ.s m=S at *;obtain ⟨yu,yd,yi,ye,yl,yn,yt,yo,ys,yw⟩:=S;simp only at hu';subst hu';simp only [vSrv] at HSV;go_upto_region 12 with ((go_at_call 26; (with_reducible refine (HSV.out).mono ?_); rintro e w3 ⟨⟨ea,ec,ga,gc,ia,ic,ja,jc,ka,kc⟩,rfl,hin,hb3⟩; have HB3:=zA0 hb3; clear hin hb3))
      refine Jaq (fun W4 hW4=>?_)
      have HB4:=zA0 (show Below w3.heap.size w3 W4 by rw [hW4.out]; exact zR)
      have z0:W4.cell? ⟨w3.heap.size,0,none⟩=some (.bool false):=by rw [hW4.out]; exact JhK rfl rfl
      have hw3:w3.heap.size<W4.heap.size:=by rw [hW4.out]; simp
      clear hW4 HSV;go_wp2_with fail;go_roundw
      case rel=>exact ⟨m+1,by omega,by go_num,by rw [hcs]; rfl,HBR.out.trans ((HB3.out.trans (HB4.out.mono HB3.out.size)).mono HBR.out.size)⟩
      case measure=>simp [intOf]; omega
    ·have hm3:m=3:=by omega
     subst hm3;generalize Jea τ x 3=k at *;have hg1:decide ((2:Int)<=(k:Int))=true:=zB0 qI1;have hg2:decide (2<=k)=true:=zB0 hx2;go_wp2_with fail;exact zA1 (v:=.bool true) (by simp [results,Tryz.results33,go_sem]) rfl ⟨rfl,trivial,zC3 (HBW2.out.trans (hbr.mono HBW2.out.size))⟩
  ·have b0:(rc != 0)=true:=zD0.2 c0
   clear HQ c0;go_wp2_with fail;exact zA1 (v:=.bool true) (by simp [results,Tryz.results33,go_sem]) rfl (by first | exact ⟨rfl,trivial,zC3 HB1.out⟩ | exact ⟨rfl,zC3 HB1.out⟩)
 ·have b1:(d.kind != 1)=true:=zD0.2 k1
  clear HQ k1;go_wp2_with fail;exact zA1 (v:=.bool true) (by simp [results,Tryz.results33,go_sem]) rfl (by first | exact ⟨rfl,trivial,zC3 HB1.out⟩ | exact ⟨rfl,zC3 HB1.out⟩)
set_option maxRecDepth 100000 in
theorem Jix (v:Value) (l:List Deed) (w:World) (h:Sl Jmy 13 w v l) (hd:∀ d∈l,d.path.size<=4611686018427387904) (ht:TabB w.heap.size w) :
  Calls Tryz.prog 11 #[v] w fun e w'=>e=.returned (.bool true)/\Below w.heap.size w w':=by
 have HP:=zA0 (play_is 33 #[] (fun _=>False) (fun _ _ _ _=>True) v l w ⟨h,.inr (fun _ e=>e.elim)⟩ hd ht (fun _ e=>e.elim) (fun _ _ e=>e.elim) (fun _ _ _ _ _ _ _=>trivial) trivial (fun args W=>by simp [go_sem]) (fun b _=>Jj5 b))
 obtain ⟨A,c,rfl,_⟩:=h.form;clear h hd ht;go_enter Tryz.func11,Tryz.ntmps11
 go_wp2_with ((go_at_call 12; refine (HP.out).mono ?_; rintro e w1 ⟨b,σ,Reg,E,sv,cv,dv,rfl,hb,hpl⟩; skip));exact zA1 (v:=.bool true) (by simp [results,Tryz.results11,go_sem]) rfl ⟨rfl,hpl.keep.low (zA3 _) (fun q e=>e.elim (fun e=>e.elim) id)⟩
namespace topQuorum
theorem own:ownKnob Tryz.prog.godebug=none:=by kernel_rfl
theorem laidOut:laidOutB Tryz.prog=true:=by kernel_rfl
set_option maxRecDepth 100000 in
set_option maxHeartbeats 1000000 in
theorem lifted (os:Os) (started:os.Started) (H:Type) (enc:TypeId × Value->H) :
  ReturnsInHanded {} Tryz.checked os 11 .any (fun w args=>(Rows.topQuorumSpec.pre enc Tryz.prog Tryz.f11 Rows.topQuorumRow.domain false w args/\laidMetH Tryz.prog Rows.topQuorumRow.laid w)/\sizedMet enc Tryz.prog Tryz.f11 (OpenSpec.ofChange Rows.topQuorumSpec) false w args) (Rows.topQuorumSpec.post enc Tryz.prog Tryz.f11 false true false false):=by
 refine returnsInHanded_of_change_and (C:=Tryz.checked) (X:=fun w _=>laidMetH Tryz.prog Rows.topQuorumRow.laid w) (fun _ _ _ hh h=>h.of_heap hh) own started qE1 Tryz.func11
  (ChangeSpec.witness_shaped (enc:=enc) (C:=Tryz.checked) (os:=os) (X:=fun w _=>laidMetH Tryz.prog Rows.topQuorumRow.laid w) false (World.laidAll Tryz.prog os Rows.topQuorumRow.laid) #[.slice none 0 0] 8 (World.laidAll_os _ _ _)
   (World.shaped_of_ZipB qE1 qE1) qE1 qE1 qE1
   (by rw [MakeChecks.laidMetH_plain _ _ _ qE1]; exact laidMet_laidAll _ qE1 qE1)) ?_
 intro W base args ds gs before hval0 hW0 _ hsz0 hL _;have hval:∀ (j:Nat) t v,Tryz.f11.params[j]?=some t->args[j]?=some v->Value.okWide Tryz.prog W .any base t v:=hval0;have hW:DataW.Whole enc Tryz.prog Tryz.f11.params.toList Rows.topQuorumSpec.vars false W args.toList ds gs before:=hW0;have hlt:∀ p∈before,p.block<W.heap.size:=fun p hp=>hW.lt p hp
 have hW1:=hW;obtain ⟨p,q,hA0,hV,rfl,hfz,hnd⟩:=hW1;have hA:DataW.TrodAll enc Tryz.prog W 0 (fun _=>true) true Tryz.f11.params.toList args.toList ds p:=hA0
 obtain ⟨rfl,rfl⟩:=trodVars_none hV;rw [Tryz.params11] at hA hval;obtain ⟨v0,vs0,d0,ds0,p0,q0,hargs,rfl,rfl,h0,r0⟩:=trodAll_cons hA;obtain ⟨rfl,rfl,rfl⟩:=trodAll_nil r0;obtain rfl:args=#[v0]:=by cases args; simp_all
 have hsz:(DataW.weightsEach Tryz.prog [22] [d0]).all (·<=reachBytes)=true:=hsz0;have close:∀ e W',(e=Ending.returned (.bool true)/\Below W.heap.size W W')->∃ v,e=.returned v/\Rows.topQuorumSpec.post enc Tryz.prog Tryz.f11 false true false false W #[v0] v W':=
  fun e W' ⟨he,hb⟩=>⟨_,he,law_post laidOut (of_decide_eq_true qE1) rfl rfl Tryz.underlying4 hW rfl hb⟩
 clear hA0 hsz0 hval0 hW0 hA hV hW hfz hnd
 have hlaid : laidMet Tryz.prog [("math/bits.deBruijn32tab", Rows.laid_math_bits_deBruijn32tab), ("math/bits.deBruijn64tab", Rows.laid_math_bits_deBruijn64tab), ("internal/strconv.uint64pow10", Rows.laid_internal_strconv_uint64pow10), ("unicode/utf8.acceptRanges", Rows.laid_unicode_utf8_acceptRanges), ("unicode/utf8.first", Rows.laid_unicode_utf8_first)] W := by
  have h1:=hL;rw [MakeChecks.laidMetH_plain _ _ _ qE1] at h1;exact h1
 obtain ⟨A,len,cap,rfl⟩:=okWide_slice Tryz.underlying22 (hval 0 _ v0 rfl rfl);obtain ⟨v,xs,hv,hr,hb,hx⟩:=Jmq Tryz.underlying22 (JnC 12 h0 (Jng hsz 0 rfl rfl));rw [show Tryz.prog.cellsOf 29=13 from by kernel_rfl] at hr
 rw [show Tryz.prog.bytesOf 29=120 from by kernel_rfl] at hb
 obtain rfl:Value.slice A len cap=v:=by simpa [Value.cells] using hv
 obtain ⟨l,rfl,hl⟩:=typed (f:=Jmy) (Q:=fun r=>r.path.size<=140737488351232) (fun x hxm=>JnD (n:=0) (hx x hxm))
 have hs:Sl Jmy 13 W (.slice A len cap) l:=hr qH1;exact (Jix _ l W hs (fun r hr=>zB3 (hl r hr) qH1) (tabB_of (JlP hlaid))).mono close
theorem proved:Rows.TopQuorumSaid:=
 OpenClaim.holds_of_wide 11 Tryz.f11 rfl rfl rfl rfl rfl rfl rfl ⟨rfl,rfl,rfl,rfl,rfl⟩ rfl rfl rfl rfl rfl qE1 Tryz.func11 qE1
  (of_decide_eq_true qE1) (by unfold Func.isWrapper; first | (rw [if_pos (by decide +kernel)]; kernel_rfl) | (rw [if_neg (by decide +kernel)]; exact ⟨rfl,rfl⟩))
  (fun os started H enc _=>lifted os started H enc)
theorem card:Rows.TopQuorumCardSaid:=
 Claim7.holds_tied_plain_at .later [] Rows.topQuorumCard.laidKinds true Rows.topQuorumCard.stood.harness false
  proved (fun _ h=>by cases h) qE1 (fun _ h=>by cases h) topQuorum_row_tie rfl ⟨rfl,rfl⟩ qE1 rfl
  (fun f fn hf hfn=>by
   obtain rfl : f = 11 := Option.some.inj ((show Tryz.prog.funcNamed "aviary/aviarytop.TopQuorum" = some 11 by kernel_rfl).symm.trans hf) |>.symm
   obtain rfl:fn=Tryz.f11:=(Option.some.inj (Tryz.func11.symm.trans hfn)).symm
   exact ⟨by kernel_rfl,fun j t ht=>by
    rw [Tryz.params11] at ht;have hm:t∈[22]:=by simpa using Array.mem_of_getElem? ht
    have hall:([22].all fun u=>!Tryz.prog.wantsStandIn u)=true:=by kernel_rfl
    exact (show Tryz.prog.wantsStandIn t=false by simpa using List.all_eq_true.1 hall t hm)⟩)
  qE1
end topQuorum
end
end Go.Proofs.YtjnooagaghdkdaaGreatDoor
