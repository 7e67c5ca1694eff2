/-L-/
import Derived.Test.YtjnooagaghdkdaaGreatDoorZ44
set_option maxHeartbeats 10000000
set_option maxRecDepth 100000
set_option linter.all false
namespace Go.Proofs.YtjnooagaghdkdaaGreatDoor
section
open Go.RowKit Go.ChangeShapes Go.WideShapes Go.ChangeAt
theorem At.of {cs vs:List Value} {o:Nat} (h:(cs.drop o).take vs.length=vs):At cs o vs:=by
 intro j v hv;have hj:=(zB3.1 hv).1;have e:((cs.drop o).take vs.length)[j]?=some v:=by rw [h]; exact hv
 rw [zL5 hj,zF3] at e;exact e
def zeroC:List Value:=[.bool false,.slice none 0 0,.int .i64 0,.int .i64 0,.slice none 0 0,.int .i64 0,.int .i64 0,.slice none 0 0,.slice none 0 0,.slice none 0 0,.bool false,.slice none 0 0,.int .i64 0,.int .i64 0,.slice none 0 0,.int .i64 0,.int .i64 0,.slice none 0 0,.slice none 0 0,.slice none 0 0,.bool false,.slice none 0 0,.int .i64 0,.int .i64 0,.slice none 0 0,.int .i64 0,.int .i64 0,.slice none 0 0,.slice none 0 0,.slice none 0 0,.int .i64 0,.int .i64 0,.slice none 0 0,.int .i64 0,.int .i64 0,.slice none 0 0,.int .i64 0,.int .i64 0,.slice none 0 0,.int .i64 0,.int .i64 0,.slice none 0 0,.int .i64 0,.int .i64 0,.slice none 0 0,.int .i64 0,.int .i64 0,.slice none 0 0,.int .i64 0,.int .i64 0,.slice none 0 0,.int .i64 0,.int .i64 0,.slice none 0 0,.int .i64 0,.int .i64 0,.slice none 0 0,.int .i64 0,.int .i64 0,.slice none 0 0,.int .i64 0,.int .i64 0,.slice none 0 0,.int .i64 0,.int .i64 0,.slice none 0 0,.int .i64 0,.int .i64 0,.slice none 0 0,.int .i64 0,.int .i64 0,.slice none 0 0,.int .i64 0,.int .i64 0,.slice none 0 0,.int .i64 0,.int .i64 0,.slice none 0 0,.int .i64 (-1),.bool false,.bool false,.bool false,.slice none 0 0,.int .i64 0]
def zeroW:Wd:=⟨[JcQ,JcQ,JcQ],List.replicate 16 ⟨0,0,[]⟩,-1,[false,false,false],[],0⟩
theorem zero_cl:∀ i,i<16->At zeroC (30+i*3) (clC (zeroW.c i) ⟨none,0⟩)
 | 0,_=>At.of rfl
 | 1,_=>At.of rfl
 | 2,_=>At.of rfl
 | 3,_=>At.of rfl
 | 4,_=>At.of rfl
 | 5,_=>At.of rfl
 | 6,_=>At.of rfl
 | 7,_=>At.of rfl
 | 8,_=>At.of rfl
 | 9,_=>At.of rfl
 | 10,_=>At.of rfl
 | 11,_=>At.of rfl
 | 12,_=>At.of rfl
 | 13,_=>At.of rfl
 | 14,_=>At.of rfl
 | 15,_=>At.of rfl
 | n+16,h=>absurd h qH1
theorem zero_in {p0:Nat->Prop} {b:Nat} {w:World} (h:Bk w b zeroC 96) (hp:∀ q,p0 q->q<b):WIn p0 b w zeroW (fun _=>Jdr) (fun _=>⟨none,0⟩) (.slice none 0 0) where
 n3:=rfl
 f3:=rfl
 c16:=rfl
 box:=⟨zeroC,h,rfl,fun i hi=>by
  match i,hi with
  | 0,_=>exact At.of rfl
  | 1,_=>exact At.of rfl
  | 2,_=>exact At.of rfl,zero_cl,At.of rfl⟩
 srv:=fun i hi=>by
  match i,hi with
  | 0,_=>exact JcE _ _
  | 1,_=>exact JcE _ _
  | 2,_=>exact JcE _ _
 cl:=fun i hi=>by
  have:zeroW.c i=⟨0,0,[]⟩:=by
   show (List.replicate 16 (⟨0,0,[]⟩:Cli)).getD i noCl=_;rw [zE6,List.getElem?_replicate,if_pos hi];rfl
  rw [this];exact SlA.nil _ _ _ _
 dn:=Ow.nil _ _ _ _ _
 bp:=fun e=>by have:=hp b e; omega
 dp:=fun _ _ e=>by cases e
def newS (k:Nat):Wd:={ zeroW with srv:=(List.range 3).map (fun i=>if i<k then srv0 i else JcQ) }
def newK (k:Nat):Wd:={ newS 3 with cl:=(List.range 16).map (fun i=>if i<k then ⟨(i:Int)+1,0,[]⟩ else ⟨0,0,[]⟩) }
theorem Jn3 {k:Nat} (h:k<3):newS (k+1)={ newS k with srv:=(newS k).srv.set k (srv0 k) }:=by
 match k,h with
 | 0,_=>rfl
 | 1,_=>rfl
 | 2,_=>rfl
theorem Jn4 {k:Nat} (h:k<16):newK (k+1)={ newK k with cl:=(newK k).cl.set k ⟨(k:Int)+1,0,[]⟩ }:=by
 match k,h with
 | 0,_=>rfl
 | 1,_=>rfl
 | 2,_=>rfl
 | 3,_=>rfl
 | 4,_=>rfl
 | 5,_=>rfl
 | 6,_=>rfl
 | 7,_=>rfl
 | 8,_=>rfl
 | 9,_=>rfl
 | 10,_=>rfl
 | 11,_=>rfl
 | 12,_=>rfl
 | 13,_=>rfl
 | 14,_=>rfl
 | 15,_=>rfl
 | n+16,h=>exact absurd h qH1
theorem newK_0:newK 0=newS 3:=rfl
theorem newS_0:newS 0=zeroW:=rfl
theorem newK_16:newK 16=newW:=rfl
theorem boot_new (p:Nat->Prop) (i:Nat) (w:World) (hi:i<3) (hp:∀ q,p q->q<w.heap.size):Calls Tryz.prog 35 #[.int .i64 (i:Int),.agg #[.slice none 0 0]] w fun e w'=>∃ v,e=.returned (.tuple #[vSrv (srv0 i) v,.int .i64 0])/\SrvIn p w' (srv0 i) v/\Below w.heap.size w w':=by
 refine (JiX p (i:Int) (.slice none 0 0) [] w (Sl.nil _ _ _) hp qI1 qH1 qH1).mono ?_;rintro e w' ⟨s,c,hb,v,rfl,hin,hbw⟩;obtain ⟨rfl,rfl⟩:=JgZ hb (boot0 (i:Int));exact ⟨v,rfl,hin,hbw⟩
theorem wNew (p0:Nat->Prop) (w:World) (hp0:∀ q,p0 q->q<w.heap.size) :
  Calls Tryz.prog 37 #[] w fun e w'=>∃ sv cv,e=.returned (.pointer (some ⟨w.heap.size,0,none⟩))/\WIn p0 w.heap.size w' newW sv cv (.slice none 0 0)/\Below w.heap.size w w':=by
 have HP0:=zA0 hp0;go_enter Tryz.func37,Tryz.ntmps37
 go_upto_region 2 with fail
 refine Jax (fun W0 hW0=>?_)
 have hB0:Below w.heap.size w W0:=qaE;have H0:=zA0 (show WIn p0 w.heap.size W0 (newS 0) _ _ _ from newS_0▸zero_in (by rw [hW0.out]; exact Bk.new _ _ _ rfl) hp0)
 clear hW0;go_wp2_with fail;go_loopw [6] (fun i wr=>∃ (m:Nat) (tv:Nat->SrvV),m<=3/\i=.int .i64 m/\Below w.heap.size w wr/\Hid (WIn p0 w.heap.size wr (newS m) tv (fun _=>⟨none,0⟩) (.slice none 0 0))) (fun i _=>3 - (intOf i).toNat)
 case atStart=>exact ⟨0,_,zB9 _,rfl,hB0,H0⟩
 case round=>
  obtain ⟨m,tv,hm,rfl,hbr,hx⟩:=hrel;have hlt:w.heap.size<wr.heap.size:=hx.out.lt;have hfb:∀ j,wr.frozen? ⟨w.heap.size,j,none⟩=false:=fun j=>hx.out.frozen j
  by_cases h3:m<3
  ·have g2:(0:Int)<=(m:Int):=by omega
   have g3:(m:Int)<3:=qCE;obtain ⟨c0,c1,c2,c3,c4,c5,c6,c7,c8,c9⟩:=hx.out.srvCells h3;have HBO:=zA0 (fun (W:World) (hb:Below wr.heap.size wr W)=>boot_new (pW p0 w.heap.size (.slice none 0 0)) m W h3 (fun q hq=>by
    have h1:=hb.size;have h2:=hbr.size;rcases hq with hq | hq | hq
    ·have:=HP0.out q hq; omega
    ·omega
    ·cases hq))
   have hS:=Jn3 h3;have HSS:=zA0 hS;clear hS H0 hB0;generalize hss:srv0 m=S at *;clear hss;obtain ⟨yu,yd,yi,ye,yl,yn,yt,yo,ys,yw⟩:=S;generalize hnn:(newS m).s m=N at *;clear hnn;go_upto_region 5 with fail
   refine wp_region_noPanic ?_;refine zD8 qE1 (fun W hW=>?_)
   have cl0:W.cell? ⟨w.heap.size,m*10,none⟩=some (.bool N.up):=qAE;have cl1:W.cell? ⟨w.heap.size,m*10+1,none⟩=some (.slice (tv m).da N.disk.length (tv m).dc):=qAE;have cl2:W.cell? ⟨w.heap.size,m*10+2,none⟩=some (.int .i64 N.id):=qAE;have cl3:W.cell? ⟨w.heap.size,m*10+3,none⟩=some (.int .i64 N.epoch):=qAE;have cl4:W.cell? ⟨w.heap.size,m*10+4,none⟩=some (.slice (tv m).la N.log.length (tv m).lc):=qAE;have cl5:W.cell? ⟨w.heap.size,m*10+5,none⟩=some (.int .i64 N.done_):=qAE;have cl6:W.cell? ⟨w.heap.size,m*10+6,none⟩=some (.int .i64 N.tz):=qAE;have cl7:W.cell? ⟨w.heap.size,m*10+7,none⟩=some (.slice (tv m).na N.nodes.length (tv m).nc):=qAE;have cl8:W.cell? ⟨w.heap.size,m*10+8,none⟩=some (.slice (tv m).sa N.sess.length (tv m).sc):=qAE;have cl9:W.cell? ⟨w.heap.size,m*10+9,none⟩=some (.slice (tv m).wa N.watches.length (tv m).wc):=qAE;have hWs1:W.heap.size=wr.heap.size:=qWE;have hW1W:Below wr.heap.size wr W:=qIE;have hbW:w.heap.size<W.heap.size:=qCE;have hfW:∀ j,W.frozen? ⟨w.heap.size,j,none⟩=false:=by rw [hW.out]; exact hfb
   have HWW:=zA0 (hx.out.below hW1W);refine JaD (fun w'=>w'.cell? ⟨w.heap.size,m*10,none⟩=some (.bool N.up)/\w'.cell? ⟨w.heap.size,m*10+1,none⟩=some (.slice (tv m).da N.disk.length (tv m).dc)/\w'.cell? ⟨w.heap.size,m*10+2,none⟩=some (.int .i64 N.id)/\w'.cell? ⟨w.heap.size,m*10+3,none⟩=some (.int .i64 N.epoch)/\w'.cell? ⟨w.heap.size,m*10+4,none⟩=some (.slice (tv m).la N.log.length (tv m).lc)/\w'.cell? ⟨w.heap.size,m*10+5,none⟩=some (.int .i64 N.done_)/\w'.cell? ⟨w.heap.size,m*10+6,none⟩=some (.int .i64 N.tz)/\w'.cell? ⟨w.heap.size,m*10+7,none⟩=some (.slice (tv m).na N.nodes.length (tv m).nc)/\w'.cell? ⟨w.heap.size,m*10+8,none⟩=some (.slice (tv m).sa N.sess.length (tv m).sc)/\w'.cell? ⟨w.heap.size,m*10+9,none⟩=some (.slice (tv m).wa N.watches.length (tv m).wc)) (fun i=>i == 11) (by (try dsimp only); (refine ⟨?_,?_,?_,?_,?_,?_,?_,?_,?_,?_⟩ <;> go_simp)) (fun hHeld=>?_)
   refine tpP 0 ?_;refine tpP 1 ?_;refine tpP 2 ?_;refine tpP 3 ?_;refine tpP 8 ?_;refine tpP 9 ?_;refine zB1 (rs:=[4]) qE1 qI1 ?_;refine zB4 qQ0 (fun K hK=>?_) zB2
   go_simp
   (go_at_call 35; (with_reducible refine (HBO.out _ (zB8 hW1W zR)).mono ?_); rintro e w3 ⟨⟨ea,ec,ga,gc,ia,ic,ja,jc,ka,kc⟩,rfl,hin,hb3⟩; obtain ⟨ext3,d3,rfl⟩:=zA2 _ hb3; have HS3:=zA0 hin; clear hin hb3)
   refine hK.out _ _ ?gT1_7 (fun hHeld=>?_)
   case gT1_7=>((try dsimp only); (refine ⟨?_,?_,?_,?_,?_,?_,?_,?_,?_,?_⟩ <;> go_simp))
   clear hK K
   try simp only [Act.put,zA6,zA4,zA5]
   refine tpP 5 ?_;refine tpP 6 ?_;refine tpP 7 ?_;refine tpP 10 ?_;refine zB1 (rs:=[11]) qE1 qI1 ?_;refine zC8 qQ0 qE1 (fun K hK=>?_) zB2
   go_simp;refine hK.out _ _ ?_;clear hK K
   try simp only [Act.put,zA6,zA4,zA5]
   refine zC4 qE1 ?_ _;refine NoPanic.normal ?_;obtain ⟨hp1,hp2⟩:=(HWW.out.below (w':=grow W ext3 d3) zR).putSrvC h3 HS3.out;rw [Jhg hbW] at hp1 hp2;have HN:=zA0 hp1;have HB:=zA0 (((zC3 (hbr.trans ((zB8 hW1W (show Below W.heap.size W (grow W ext3 d3) from zR)).mono hbr.size)) (p:=fun q=>w.heap.size<=q)).trans (zE8 (p:=fun q=>q=w.heap.size) hp2 (fun q e=>by injection e with e; exact e.symm)) (fun q _ e=>zH1 e.symm)).low (zA3 _) (fun _ e=>e))
   clear hp1 hp2;go_wp2_with fail;go_roundw
   case rel=>exact ⟨m+1,_,by omega,by go_num,HB.out,zA0 (HSS.out▸HN.out)⟩
   case measure=>simp [intOf]; omega
  ·have hm3:m=3:=by omega
   subst hm3;have HX:=hx;have HBR:=zA0 hbr;clear hx hbr H0 hB0 hfb hlt;go_wp2_with fail;go_loopw [21] (fun i wr=>∃ (m:Nat) (cw:Nat->ClV),m<=16/\i=.int .i64 m/\Below w.heap.size w wr/\Hid (WIn p0 w.heap.size wr (newK m) tv cw (.slice none 0 0))) (fun i _=>16 - (intOf i).toNat)
   case atStart=>exact ⟨0,_,zB9 _,rfl,HBR.out,zA0 (newK_0▸HX.out)⟩
   case round=>
    obtain ⟨m,cw,hm,rfl,hbr,hx⟩:=hrel;have hlt:w.heap.size<wr.heap.size:=hx.out.lt;have hfb:∀ j,wr.frozen? ⟨w.heap.size,j,none⟩=false:=fun j=>hx.out.frozen j
    by_cases h3:m<16
    ·have g2:(0:Int)<=(m:Int):=by omega
     have g3:(m:Int)<16:=qCE;obtain ⟨c0,c1,c2⟩:=hx.out.clCells h3;have HNE:=zA0 (fun (W:World)=>clNew_ok ((m:Int)+1) W qH1 qH1)
     have HSS:=zA0 (Jn4 h3);have HWI:=zA0 (show IntKind.i64.wrap ((m:Int)+1)=(m:Int)+1 by rw [zP8] <;> omega)
     clear HX HBR;generalize hnn:(newK m).c m=N at *;clear hnn;go_upto_region 10 with fail
     refine wp_region_noPanic ?_;refine zD8 qE1 (fun W hW=>?_)
     have cl0:W.cell? ⟨w.heap.size,30+m*3,none⟩=some (.int .i64 N.session):=qAE;have cl1:W.cell? ⟨w.heap.size,30+m*3+1,none⟩=some (.int .i64 N.seen):=qAE;have cl2:W.cell? ⟨w.heap.size,30+m*3+2,none⟩=some (.slice (cw m).a N.cache.length (cw m).c):=qAE;have hWs1:W.heap.size=wr.heap.size:=qWE;have hW1W:Below wr.heap.size wr W:=qIE;have hbW:w.heap.size<W.heap.size:=qCE;have hfW:∀ j,W.frozen? ⟨w.heap.size,j,none⟩=false:=by rw [hW.out]; exact hfb
     have HWW:=zA0 (hx.out.below hW1W);refine JaD (fun w'=>w'.cell? ⟨w.heap.size,30+m*3,none⟩=some (.int .i64 N.session)/\w'.cell? ⟨w.heap.size,30+m*3+1,none⟩=some (.int .i64 N.seen)/\w'.cell? ⟨w.heap.size,30+m*3+2,none⟩=some (.slice (cw m).a N.cache.length (cw m).c)) (fun i=>i == 11) (by (try dsimp only); (refine ⟨?_,?_,?_⟩ <;> go_simp)) (fun hHeld=>?_)
     refine tpP 0 ?_;refine tpP 1 ?_;refine tpP 2 ?_;refine tpP 3 ?_;refine tpP 8 ?_;refine tpP 9 ?_;refine zB1 (rs:=[4]) qE1 qI1 ?_;refine zB4 qQ0 (fun K hK=>?_) zB2
     go_simp
     (go_at_call 49; (rw [HWI.out]); (with_reducible refine (HNE.out _).mono ?_); rintro e w3 ⟨rfl,hb3⟩; obtain ⟨ext3,d3,rfl⟩:=zA2 _ hb3; clear hb3)
     refine hK.out _ _ ?gT2_7 (fun hHeld=>?_)
     case gT2_7=>((try dsimp only); (refine ⟨?_,?_,?_⟩ <;> go_simp))
     clear hK K
     try simp only [Act.put,zA6,zA4,zA5]
     refine tpP 5 ?_;refine tpP 6 ?_;refine tpP 7 ?_;refine tpP 10 ?_;refine zB1 (rs:=[11]) qE1 qI1 ?_;refine zC8 qQ0 qE1 (fun K hK=>?_) zB2
     go_simp;refine hK.out _ _ ?_;clear hK K
     try simp only [Act.put,zA6,zA4,zA5]
     refine zC4 qE1 ?_ _;refine NoPanic.normal ?_;obtain ⟨hp1,hp2⟩:=(HWW.out.below (w':=grow W ext3 d3) zR).putClC h3 (c:=⟨(m:Int)+1,0,[]⟩) (v:=⟨none,0⟩) (SlA.nil _ _ _ _);rw [Jgg hbW] at hp1 hp2;have HN:=zA0 hp1;have HB:=zA0 (((zC3 (hbr.trans ((zB8 hW1W (show Below W.heap.size W (grow W ext3 d3) from zR)).mono hbr.size)) (p:=fun q=>w.heap.size<=q)).trans (zE8 (p:=fun q=>q=w.heap.size) hp2 (fun q e=>by injection e with e; exact e.symm)) (fun q _ e=>zH1 e.symm)).low (zA3 _) (fun _ e=>e))
     clear hp1 hp2;go_wp2_with fail;go_roundw
     case rel=>exact ⟨m+1,by omega,by omega,HB.out,_,zA0 (HSS.out▸HN.out)⟩
     case measure=>simp [intOf]; omega
    ·have hm3:m=16:=by omega
     subst hm3;go_wp2_with fail;refine zA1 (v:=.pointer (some ⟨w.heap.size,0,none⟩)) (by simp [results,Tryz.results37,go_sem]) rfl ⟨tv,cw,rfl,newK_16▸hx.out,hbr⟩
theorem WIn.keepsB {p0:Nat->Prop} {b:Nat} {w w':World} {σ:Wd} {sv:Nat->SrvV} {cv:Nat->ClV} {dv:Value} (h:WIn p0 b w σ sv cv dv) (hk:Keeps (fun q=>q=b\/dv.ownBlock=some q) w w'):Below b w w':=
 hk.low (zG5 h.lt) (fun k e=>by
  rcases e with e | e
  ·omega
  ·have:=(h.dn.own_in e).1
   omega)
theorem alive_is (w:World) (ht:TabB w.heap.size w):Calls Tryz.prog 21 #[] w fun e w'=>e=.returned (.bool true)/\Below w.heap.size w w':=by
 have HT:=zA0 ht;have HN:=zA0 (wNew (fun _=>False) w (fun _ e=>e.elim))
 clear ht;go_enter Tryz.func21,Tryz.ntmps21
 go_upto_region 2 with ((go_at_call 37; refine (HN.out).mono ?_; rintro e w1 ⟨sv,cv,rfl,hin,hb⟩; skip))
 have H1:=zA0 hin;have HB1:=zA0 hb;have hs1:w.heap.size<w1.heap.size:=hin.lt;clear hin hb HN;generalize hbb:w.heap.size=b at *;have HT1:=zA0 (HT.out.low HB1.out);have HD:=zA0 (wDo (fun _=>False) b w1 newW sv cv (.slice none 0 0) [] 0 H1.out (fun _ e=>e.elim) new_inv HT1.out Jcz qG1)
 have HF:=zA0 new_first;have HE:=zA0 Jji;unfold DoRes at HD;generalize doW newW Jcz=R at *;obtain ⟨σ,rr⟩:=R;obtain ⟨rc,rz,rpa,rda,⟨s1,s2,s3,s4,s5,s6,s7⟩,rns⟩:=rr;simp only [rpV] at HD;simp only at HF HE;obtain ⟨c0,c1,_,_⟩:=HE.out;have c0:rc=0:=c0;subst c0;have c1:σ.lead=2:=c1;clear HE;have hfd:∀ (A:Option Addr) (k:Nat) (w:World),(Instr.field 35 (.agg #[.int .i64 0,.int .i64 rz,.string rpa,.string rda,.int .i64 s1,.int .i64 s2,.int .i64 s3,.int .i64 s4,.int .i64 s5,.int .i64 s6,.int .i64 s7,.slice A rns.length k]) 0).run Tryz.prog w=.ok (.int .i64 0) w:=fun _ _ _=>by kernel_rfl
 go_upto_region 4 with (first | ((go_at_call 38; (with_reducible refine (HD.out).mono ?_); rintro e w2 ⟨sv2,cv2,dv2,A2,k2,rfl,hin,hsn,hk,hm⟩; have H2:=zA0 hin; have HK2:=zA0 (H1.out.keepsB hk); have HL:=zA0 (wLeader _ b w2 σ sv2 cv2 dv2 hin); rw [c1] at HL; clear hin hsn hk hm)) | (go_at_call 15; refine (HL.out).mono ?_; rintro e w3 ⟨rfl,e7⟩; obtain rfl:=e7.symm))
 have HI2:=zA0 (show Inv [] 1 σ.deeds σ from by have h1:=HF.out.inv; have h2:=HF.out.deeds; rw [h2]; exact h1)
 have HT2:=zA0 (HT1.out.low HK2.out);have HD2:=zA0 (wDo (fun _=>False) b w2 σ sv2 cv2 dv2 [] 1 H2.out (fun _ e=>e.elim) HI2.out HT2.out (Jdp 0) qG1)
 have HE2:=zA0 (JmF HF.out);unfold DoRes at HD2;generalize doW σ (Jdp 0)=R2 at *;obtain ⟨υ,rr2⟩:=R2;obtain ⟨tc,tz,tpa,tda,⟨t1,t2,t3,t4,t5,t6,t7⟩,tns⟩:=rr2;simp only [rpV] at HD2;simp only at HE2;obtain ⟨d0,d1,d2⟩:=HE2.out;have d0:tc=0:=d0;have d1:tz=2147483649:=d1;have d2:υ.dn.length=1:=d2;subst d0;subst d1;clear HE2 HD HL hfd;go_upto_region 5 with ((go_at_call 38; (with_reducible refine (HD2.out).mono ?_); rintro e w4 ⟨sv4,cv4,dv4,A4,k4,rfl,hin,hsn,hk,hm⟩; have H4:=zA0 hin; have HK4:=zA0 (H2.out.keepsB hk); clear hin hsn hk hm))
 refine Jax (fun W5 hW5=>?_)
 have hB5:Below w4.heap.size w4 W5:=by rw [hW5.out]; exact zR
 have HX5:=zA0 (show Bk W5 w4.heap.size [.int .i64 0,.int .i64 2147483649,.string tpa,.string tda,.int .i64 t1,.int .i64 t2,.int .i64 t3,.int .i64 t4,.int .i64 t5,.int .i64 t6,.int .i64 t7,.slice A4 tns.length k4] 35 from by rw [hW5.out]; exact Bk.new _ _ _ rfl)
 have HAK:=zA0 (wAck _ b W5 υ sv4 cv4 dv4 (H4.out.below hB5) qH1);rw [d2] at HAK;have HB5:=zA0 hB5;have hs4:b<=w4.heap.size:=zG5 H4.out.lt;clear hW5 hB5 H4;have x0:W5.cell? ⟨w4.heap.size,0,none⟩=some (.int .i64 0):=HX5.out.cell 0;have x1:W5.cell? ⟨w4.heap.size,1,none⟩=some (.int .i64 2147483649):=HX5.out.cell 1;go_wp2_with ((go_at_call 14; refine (HAK.out).mono ?_; rintro e w6 ⟨A6,k6,rfl,ho6,hb6⟩; have HB6:=zA0 hb6; clear ho6 hb6));refine zA1 (v:=.bool true) (by simp [results,Tryz.results21,go_sem]) rfl ⟨rfl,?_⟩
 have hs5:=HB5.out.size;rw [hbb];exact (((HB1.out.trans HK2.out).trans HK4.out).trans (HB5.out.mono hs4)).trans (HB6.out.mono qH1)
end
end Go.Proofs.YtjnooagaghdkdaaGreatDoor
