/- The law TopSeen is true for every input; no conditions. -/
import Derived.Test.YtjnooagaghdkdaaGreatDoorV44
set_option maxHeartbeats 10000000
set_option maxRecDepth 100000
set_option linter.all false
namespace Go.Proofs.YtjnooagaghdkdaaGreatDoor
section
open Go.RowKit Go.ChangeShapes Go.WideShapes Go.ChangeAt
def Jfm (σ:Wd):List Value:=(List.range 16).map (fun i=>.int .i64 (σ.c i).seen)
theorem Jeo (σ:Wd) {k:Nat} (hk:k<16):(Jfm σ)[k]?=some (.int .i64 (σ.c k).seen):=by
 unfold Jfm;rw [zH2,List.getElem?_range hk];rfl
theorem JhY {σ τ:Wd} {k:Nat} {z:Int} (hk:k<16) (h:∀ i,i<16->(τ.c i).seen=if k=i then z else (σ.c i).seen):(Jfm σ).set k (.int .i64 z)=Jfm τ:=by
 unfold Jfm;apply zM2;intro i;rw [zJ5,zH2,zH2,zF4,List.length_range]
 by_cases hi:i<16
 ·rw [List.getElem?_range hi]
  simp only [Option.map_some,h i hi]
  by_cases e:k=i
  ·subst e
   simp [hk]
  ·simp [e]
 ·have:(List.range 16)[i]?=none:=zL0 qE1
  rw [this,if_neg qK1];rfl
theorem JnQ {σ τ:Wd} (h:∀ i,i<16->(τ.c i).seen=(σ.c i).seen):Jfm τ=Jfm σ:=by
 unfold Jfm;refine List.map_congr_left (fun i hi=>?_)
 rw [h i (zI3.1 hi)]
def Jk6 (g:Nat) (σ:Wd) (_:List Txn) (_:Int) (W:World):Prop:=Bk W g (Jfm σ) 48
set_option maxRecDepth 100000 in
set_option maxHeartbeats 2000000 in
theorem JnR (g b:Nat):JhO 19 #[.pointer (some ⟨g,0,none⟩)] (fun q=>q=g) b (Jk6 g):=by
 intro V σ τ Reg Reg' E E' sv cv dv d r A c hst hbk hw hn hp0;show Calls Tryz.prog 19 #[.pointer (some ⟨b,0,none⟩),JmW d,rpV r A c,.pointer (some ⟨g,0,none⟩)] V _;have HS:=do_seen hst.inv d;rw [hst.eq] at HS;have HW:=zA0 hw;have HI:=zA0 hst.inv';have HBK:=zA0 hbk;have hgW:g<V.heap.size:=hbk.lt;clear hst hn hw hbk hp0;obtain ⟨rc,rz,rpa,rda,⟨s1,s2,s3,s4,s5,s6,s7⟩,rns⟩:=r;simp only [rpV] at HS ⊢;obtain ⟨hno,hyes⟩:=HS;have HN:=zA0 hno;have HT:=zA0 hyes;clear hno hyes;go_enter Tryz.func19,Tryz.ntmps19
 go_upto_region 1 with fail
 refine Jan (fun W1 hW1=>?_)
 have HB1:=zA0 (show Below V.heap.size V W1 by rw [hW1.out]; exact zR)
 have x0:W1.cell? ⟨V.heap.size,0,none⟩=some (.int .i64 d.kind):=qNE;have x1:W1.cell? ⟨V.heap.size,1,none⟩=some (.int .i64 d.client):=qNE;have x2:W1.cell? ⟨V.heap.size+1,0,none⟩=some (.int .i64 rc):=qNE;have x3:W1.cell? ⟨V.heap.size+1,1,none⟩=some (.int .i64 rz):=qNE;have hs1:V.heap.size+2<=W1.heap.size:=qpE;have HBK1:=zA0 (HBK.out.below HB1.out);clear hW1 HBK;have quiet:JcP d.kind rc=false->Hid (Jk6 g τ Reg' E' W1/\Keeps (fun q=>q=g) V W1):=fun h=>zA0 ⟨by unfold Jk6; rw [JnQ (HN.out h)]; exact HBK1.out,zC0 HB1.out⟩
 by_cases k2:d.kind=2
 ·have b2:(d.kind == 2)=true:=zG1.2 k2
  by_cases c0:rc=0
  ·have htold:JcP d.kind rc=true:=by simp [JcP,k2,c0]
   have b0:(rc == 0)=true:=zG1.2 c0;clear k2 c0 quiet HN;obtain ⟨t1,t2,t3,t4⟩:=HT.out htold;obtain ⟨k,hk,hke⟩:∃ k:Nat,k<16/\d.client=(k:Int):=⟨d.client.toNat,by omega,by omega⟩
   rw [hke] at x1 t3 t4;rw [zG5] at t3 t4;have hb1:decide ((k:Int)<0)=false:=zA5 qK1;have hb2:decide (16<=(k:Int))=false:=zA5 qK1;have hb3:decide (rz<(σ.c k).seen)=false:=zA5 qK1;have hk0:(0:Int)<=(k:Int):=qCE;have hk1:(k:Int)<16:=qCE;have u0:W1.cell? ⟨g,k,none⟩=some (.int .i64 (σ.c k).seen):=(HBK1.out.cell k).trans (Jeo σ hk);have uf:∀ j,W1.frozen? ⟨g,j,none⟩=false:=fun j=>HBK1.out.frozen j
   have hgW1:g<W1.heap.size:=HBK1.out.lt;have hsn:(τ.c k).seen=rz:=by rw [t4 k hk,if_pos rfl]
   have HSL:=zA0 (JhY hk t4);have HSN:=zA0 hsn;clear t1 t2 t3 t4 hke htold HT hsn;go_upto_region 4 with fail
   go_region;refine JaY (fun W2 hW2=>?_)
   have HB2:=zA0 (show Below W1.heap.size W1 W2 by rw [hW2.out]; exact zR)
   have HBK2:=zA0 (HBK1.out.below HB2.out);have v1:=(HB2.out.cell (p:=⟨V.heap.size,1,none⟩) qx0).trans x1;have v3:=(HB2.out.cell (p:=⟨V.heap.size+1,1,none⟩) qx0).trans x3;have u2:W2.cell? ⟨g,k,none⟩=some (.int .i64 (σ.c k).seen):=(HBK2.out.cell k).trans (Jeo σ hk);have uf2:∀ j,W2.frozen? ⟨g,j,none⟩=false:=fun j=>HBK2.out.frozen j
   have hgW2:g<W2.heap.size:=HBK2.out.lt;have hs2:=HB2.out.size;clear hW2 u0 uf x1 x3 hb1 hb2 hb3;go_upto_region 7 with fail
   refine Jan (fun W3 hW3=>?_)
   have hG3:W2.grownBy W3 (some g):=hW3.out▸zD4 _ _ _ _;have HBK3:=zA0 (show Bk W3 g (Jfm τ) 48 from hW3.out▸HSL.out▸HBK2.out.put k (.int .i64 rz))
   have HW3:=zA0 (((HW.out.below HB1.out).below HB2.out).other hG3 rfl);have HK3:=zA0 ((zC0 (HB1.out.trans (HB2.out.mono HB1.out.size)) (p:=fun q=>q=g)).trans (zD5 (p:=fun q=>q=g) hG3 (fun q e=>by injection e with e; exact e.symm)) (fun _ _ e=>e))
   have r1:W3.cell? ⟨V.heap.size,1,none⟩=some (.int .i64 (k:Int)):=(JaJ hG3 qK1 (fun e=>by injection e with e; omega) 1).trans v1
   have r3:W3.cell? ⟨V.heap.size+1,1,none⟩=some (.int .i64 rz):=(JaJ hG3 qK1 (fun e=>by injection e with e; omega) 1).trans v3
   have hs3:W2.heap.size<=W3.heap.size:=hG3.size;have HCC:=zA0 (fun (U:World) (hb:Below W3.heap.size W3 U)=>JfZ _ b U τ sv cv dv (HW3.out.below hb) k hk (zB3 (HI.out.cl k hk).len HI.out.k300))
   rw [HSN.out] at HCC;clear hW3 u2 uf2 v1 v3 hG3 HW;have hfd:∀ (se:Int) (A:Option Addr) (n c:Nat) (w:World),(Instr.field 51 (.agg #[.int .i64 se,.int .i64 rz,.slice A n c]) 1).run Tryz.prog w=.ok (.int .i64 rz) w:=fun _ _ _ _ _=>by kernel_rfl
   refine wp_region_noPanic ?_;refine zD3 qH1 (fun W hW=>?_)
   have cl0:W.cell? ⟨V.heap.size,1,none⟩=some (.int .i64 (k:Int)):=qAE;have cl1:W.cell? ⟨V.heap.size+1,1,none⟩=some (.int .i64 rz):=qAE;have hWs1:W.heap.size=W3.heap.size:=qLE;have hW1W:Below W3.heap.size W3 W:=qHE;have hbW:V.heap.size<W.heap.size:=qCE;have hrW:V.heap.size+1<W.heap.size:=qCE;refine Jaw (fun w'=>w'.cell? ⟨V.heap.size,1,none⟩=some (.int .i64 (k:Int))/\w'.cell? ⟨V.heap.size+1,1,none⟩=some (.int .i64 rz)) (fun i=>i == 8) (by (try dsimp only); (refine ⟨?_,?_⟩ <;> go_simp)) (fun hHeld=>?_)
   refine tpP 0 ?_;refine tpP 1 ?_;refine tpA 2 ?_;refine tpP 5 ?_;refine tpA 6 ?_;refine zA9 (rs:=[3]) qH1 qL1 ?_;refine zB4 qS0 (fun K hK=>?_) zB0
   go_simp
   (go_at_call 20; (with_reducible refine (HCC.out _ hW1W).mono ?_); rintro e w5 ⟨A5,k5,rfl,hs5,hb5⟩; obtain ⟨ext5,d5,rfl⟩:=zA2 _ hb5; clear hs5 hb5)
   refine hK.out _ _ ?gT1_6 (fun hHeld=>?_)
   case gT1_6=>((try dsimp only); (refine ⟨?_,?_⟩ <;> go_simp))
   clear hK K
   try simp only [Act.put,zA7,zA4,zA6]
   refine tpP 4 ?_;refine tpP 7 ?_;refine zA9 (rs:=[8]) qH1 qL1 ?_;refine zC5 qS0 qH1 (fun K hK=>?_) zB0
   go_simp;refine hK.out _ _ ?_;clear hK K
   try simp only [Act.put,zA7,zA4,zA6]
   refine zC3 qH1 ?_ _;refine NoPanic.normal ?_;have fin:Hid (Jk6 g τ Reg' E' (grow W ext5 d5)/\Keeps (fun q=>q=g) V (grow W ext5 d5)):=zA0 ⟨(HBK3.out.below hW1W).below zR,(HK3.out.trans (zC0 hW1W (p:=fun q=>q=g)) (fun _ _ e=>e)).trans (zC0 (p:=fun q=>q=g) zR) (fun _ _ e=>e)⟩
   go_wp2_with fail;exact zA1 (v:=.bool true) (by simp [results,Tryz.results19,go_sem]) rfl ⟨rfl,fin.out.1,fin.out.2⟩
  ·by_cases c7:rc=7
   ·have htold:JcP d.kind rc=true:=by simp [JcP,k2,c7]
    have b0:(rc == 0)=false:=zB8.2 c0;have b7:(rc == 7)=true:=zG1.2 c7;clear k2 c0 c7 quiet HN;obtain ⟨t1,t2,t3,t4⟩:=HT.out htold;obtain ⟨k,hk,hke⟩:∃ k:Nat,k<16/\d.client=(k:Int):=⟨d.client.toNat,by omega,by omega⟩
    rw [hke] at x1 t3 t4;rw [zG5] at t3 t4;have hb1:decide ((k:Int)<0)=false:=zA5 qK1;have hb2:decide (16<=(k:Int))=false:=zA5 qK1;have hb3:decide (rz<(σ.c k).seen)=false:=zA5 qK1;have hk0:(0:Int)<=(k:Int):=qCE;have hk1:(k:Int)<16:=qCE;have u0:W1.cell? ⟨g,k,none⟩=some (.int .i64 (σ.c k).seen):=(HBK1.out.cell k).trans (Jeo σ hk);have uf:∀ j,W1.frozen? ⟨g,j,none⟩=false:=fun j=>HBK1.out.frozen j
    have hgW1:g<W1.heap.size:=HBK1.out.lt;have hsn:(τ.c k).seen=rz:=by rw [t4 k hk,if_pos rfl]
    have HSL:=zA0 (JhY hk t4);have HSN:=zA0 hsn;clear t1 t2 t3 t4 hke htold HT hsn;go_upto_region 4 with fail
    go_region;refine JaY (fun W2 hW2=>?_)
    have HB2:=zA0 (show Below W1.heap.size W1 W2 by rw [hW2.out]; exact zR)
    have HBK2:=zA0 (HBK1.out.below HB2.out);have v1:=(HB2.out.cell (p:=⟨V.heap.size,1,none⟩) qx0).trans x1;have v3:=(HB2.out.cell (p:=⟨V.heap.size+1,1,none⟩) qx0).trans x3;have u2:W2.cell? ⟨g,k,none⟩=some (.int .i64 (σ.c k).seen):=(HBK2.out.cell k).trans (Jeo σ hk);have uf2:∀ j,W2.frozen? ⟨g,j,none⟩=false:=fun j=>HBK2.out.frozen j
    have hgW2:g<W2.heap.size:=HBK2.out.lt;have hs2:=HB2.out.size;clear hW2 u0 uf x1 x3 hb1 hb2 hb3;go_upto_region 7 with fail
    refine Jan (fun W3 hW3=>?_)
    have hG3:W2.grownBy W3 (some g):=hW3.out▸zD4 _ _ _ _;have HBK3:=zA0 (show Bk W3 g (Jfm τ) 48 from hW3.out▸HSL.out▸HBK2.out.put k (.int .i64 rz))
    have HW3:=zA0 (((HW.out.below HB1.out).below HB2.out).other hG3 rfl);have HK3:=zA0 ((zC0 (HB1.out.trans (HB2.out.mono HB1.out.size)) (p:=fun q=>q=g)).trans (zD5 (p:=fun q=>q=g) hG3 (fun q e=>by injection e with e; exact e.symm)) (fun _ _ e=>e))
    have r1:W3.cell? ⟨V.heap.size,1,none⟩=some (.int .i64 (k:Int)):=(JaJ hG3 qK1 (fun e=>by injection e with e; omega) 1).trans v1
    have r3:W3.cell? ⟨V.heap.size+1,1,none⟩=some (.int .i64 rz):=(JaJ hG3 qK1 (fun e=>by injection e with e; omega) 1).trans v3
    have hs3:W2.heap.size<=W3.heap.size:=hG3.size;have HCC:=zA0 (fun (U:World) (hb:Below W3.heap.size W3 U)=>JfZ _ b U τ sv cv dv (HW3.out.below hb) k hk (zB3 (HI.out.cl k hk).len HI.out.k300))
    rw [HSN.out] at HCC;clear hW3 u2 uf2 v1 v3 hG3 HW;have hfd:∀ (se:Int) (A:Option Addr) (n c:Nat) (w:World),(Instr.field 51 (.agg #[.int .i64 se,.int .i64 rz,.slice A n c]) 1).run Tryz.prog w=.ok (.int .i64 rz) w:=fun _ _ _ _ _=>by kernel_rfl
    refine wp_region_noPanic ?_;refine zD3 qH1 (fun W hW=>?_)
    have cl0:W.cell? ⟨V.heap.size,1,none⟩=some (.int .i64 (k:Int)):=qAE;have cl1:W.cell? ⟨V.heap.size+1,1,none⟩=some (.int .i64 rz):=qAE;have hWs1:W.heap.size=W3.heap.size:=qLE;have hW1W:Below W3.heap.size W3 W:=qHE;have hbW:V.heap.size<W.heap.size:=qCE;have hrW:V.heap.size+1<W.heap.size:=qCE;refine Jaw (fun w'=>w'.cell? ⟨V.heap.size,1,none⟩=some (.int .i64 (k:Int))/\w'.cell? ⟨V.heap.size+1,1,none⟩=some (.int .i64 rz)) (fun i=>i == 8) (by (try dsimp only); (refine ⟨?_,?_⟩ <;> go_simp)) (fun hHeld=>?_)
    refine tpP 0 ?_;refine tpP 1 ?_;refine tpA 2 ?_;refine tpP 5 ?_;refine tpA 6 ?_;refine zA9 (rs:=[3]) qH1 qL1 ?_;refine zB4 qS0 (fun K hK=>?_) zB0
    go_simp
    (go_at_call 20; (with_reducible refine (HCC.out _ hW1W).mono ?_); rintro e w5 ⟨A5,k5,rfl,hs5,hb5⟩; obtain ⟨ext5,d5,rfl⟩:=zA2 _ hb5; clear hs5 hb5)
    refine hK.out _ _ ?gT2_6 (fun hHeld=>?_)
    case gT2_6=>((try dsimp only); (refine ⟨?_,?_⟩ <;> go_simp))
    clear hK K
    try simp only [Act.put,zA7,zA4,zA6]
    refine tpP 4 ?_;refine tpP 7 ?_;refine zA9 (rs:=[8]) qH1 qL1 ?_;refine zC5 qS0 qH1 (fun K hK=>?_) zB0
    go_simp;refine hK.out _ _ ?_;clear hK K
    try simp only [Act.put,zA7,zA4,zA6]
    refine zC3 qH1 ?_ _;refine NoPanic.normal ?_;have fin:Hid (Jk6 g τ Reg' E' (grow W ext5 d5)/\Keeps (fun q=>q=g) V (grow W ext5 d5)):=zA0 ⟨(HBK3.out.below hW1W).below zR,(HK3.out.trans (zC0 hW1W (p:=fun q=>q=g)) (fun _ _ e=>e)).trans (zC0 (p:=fun q=>q=g) zR) (fun _ _ e=>e)⟩
    go_wp2_with fail;exact zA1 (v:=.bool true) (by simp [results,Tryz.results19,go_sem]) rfl ⟨rfl,fin.out.1,fin.out.2⟩
   ·have hq:=quiet (by simp [JcP,k2,c0,c7])
    have b0:(rc == 0)=false:=zB8.2 c0;have b7:(rc == 7)=false:=zB8.2 c7;have b1:(d.kind != 1)=true:=zC6.2 qK1;clear k2 c0 c7 quiet HN HT;go_wp2_with fail;exact zA1 (v:=.bool true) (by simp [results,Tryz.results19,go_sem]) rfl ⟨rfl,hq.out.1,hq.out.2⟩
 ·have b2:(d.kind == 2)=false:=zB8.2 k2
  by_cases k1:d.kind=1
  ·have b1:(d.kind != 1)=false:=by rw [k1]; rfl
   by_cases c0:rc=0
   ·have htold:JcP d.kind rc=true:=by simp [JcP,k1,c0]
    have b0:(rc != 0)=false:=by rw [c0]; rfl
    clear k2 k1 c0 quiet HN;obtain ⟨t1,t2,t3,t4⟩:=HT.out htold;obtain ⟨k,hk,hke⟩:∃ k:Nat,k<16/\d.client=(k:Int):=⟨d.client.toNat,by omega,by omega⟩
    rw [hke] at x1 t3 t4;rw [zG5] at t3 t4;have hb1:decide ((k:Int)<0)=false:=zA5 qK1;have hb2:decide (16<=(k:Int))=false:=zA5 qK1;have hb3:decide (rz<(σ.c k).seen)=false:=zA5 qK1;have hk0:(0:Int)<=(k:Int):=qCE;have hk1:(k:Int)<16:=qCE;have u0:W1.cell? ⟨g,k,none⟩=some (.int .i64 (σ.c k).seen):=(HBK1.out.cell k).trans (Jeo σ hk);have uf:∀ j,W1.frozen? ⟨g,j,none⟩=false:=fun j=>HBK1.out.frozen j
    have hgW1:g<W1.heap.size:=HBK1.out.lt;have hsn:(τ.c k).seen=rz:=by rw [t4 k hk,if_pos rfl]
    have HSL:=zA0 (JhY hk t4);have HSN:=zA0 hsn;clear t1 t2 t3 t4 hke htold HT hsn;go_upto_region 4 with fail
    go_region;refine JaY (fun W2 hW2=>?_)
    have HB2:=zA0 (show Below W1.heap.size W1 W2 by rw [hW2.out]; exact zR)
    have HBK2:=zA0 (HBK1.out.below HB2.out);have v1:=(HB2.out.cell (p:=⟨V.heap.size,1,none⟩) qx0).trans x1;have v3:=(HB2.out.cell (p:=⟨V.heap.size+1,1,none⟩) qx0).trans x3;have u2:W2.cell? ⟨g,k,none⟩=some (.int .i64 (σ.c k).seen):=(HBK2.out.cell k).trans (Jeo σ hk);have uf2:∀ j,W2.frozen? ⟨g,j,none⟩=false:=fun j=>HBK2.out.frozen j
    have hgW2:g<W2.heap.size:=HBK2.out.lt;have hs2:=HB2.out.size;clear hW2 u0 uf x1 x3 hb1 hb2 hb3;go_upto_region 7 with fail
    refine Jan (fun W3 hW3=>?_)
    have hG3:W2.grownBy W3 (some g):=hW3.out▸zD4 _ _ _ _;have HBK3:=zA0 (show Bk W3 g (Jfm τ) 48 from hW3.out▸HSL.out▸HBK2.out.put k (.int .i64 rz))
    have HW3:=zA0 (((HW.out.below HB1.out).below HB2.out).other hG3 rfl);have HK3:=zA0 ((zC0 (HB1.out.trans (HB2.out.mono HB1.out.size)) (p:=fun q=>q=g)).trans (zD5 (p:=fun q=>q=g) hG3 (fun q e=>by injection e with e; exact e.symm)) (fun _ _ e=>e))
    have r1:W3.cell? ⟨V.heap.size,1,none⟩=some (.int .i64 (k:Int)):=(JaJ hG3 qK1 (fun e=>by injection e with e; omega) 1).trans v1
    have r3:W3.cell? ⟨V.heap.size+1,1,none⟩=some (.int .i64 rz):=(JaJ hG3 qK1 (fun e=>by injection e with e; omega) 1).trans v3
    have hs3:W2.heap.size<=W3.heap.size:=hG3.size;have HCC:=zA0 (fun (U:World) (hb:Below W3.heap.size W3 U)=>JfZ _ b U τ sv cv dv (HW3.out.below hb) k hk (zB3 (HI.out.cl k hk).len HI.out.k300))
    rw [HSN.out] at HCC;clear hW3 u2 uf2 v1 v3 hG3 HW;have hfd:∀ (se:Int) (A:Option Addr) (n c:Nat) (w:World),(Instr.field 51 (.agg #[.int .i64 se,.int .i64 rz,.slice A n c]) 1).run Tryz.prog w=.ok (.int .i64 rz) w:=fun _ _ _ _ _=>by kernel_rfl
    refine wp_region_noPanic ?_;refine zD3 qH1 (fun W hW=>?_)
    have cl0:W.cell? ⟨V.heap.size,1,none⟩=some (.int .i64 (k:Int)):=qAE;have cl1:W.cell? ⟨V.heap.size+1,1,none⟩=some (.int .i64 rz):=qAE;have hWs1:W.heap.size=W3.heap.size:=qLE;have hW1W:Below W3.heap.size W3 W:=qHE;have hbW:V.heap.size<W.heap.size:=qCE;have hrW:V.heap.size+1<W.heap.size:=qCE;refine Jaw (fun w'=>w'.cell? ⟨V.heap.size,1,none⟩=some (.int .i64 (k:Int))/\w'.cell? ⟨V.heap.size+1,1,none⟩=some (.int .i64 rz)) (fun i=>i == 8) (by (try dsimp only); (refine ⟨?_,?_⟩ <;> go_simp)) (fun hHeld=>?_)
    refine tpP 0 ?_;refine tpP 1 ?_;refine tpA 2 ?_;refine tpP 5 ?_;refine tpA 6 ?_;refine zA9 (rs:=[3]) qH1 qL1 ?_;refine zB4 qS0 (fun K hK=>?_) zB0
    go_simp
    (go_at_call 20; (with_reducible refine (HCC.out _ hW1W).mono ?_); rintro e w5 ⟨A5,k5,rfl,hs5,hb5⟩; obtain ⟨ext5,d5,rfl⟩:=zA2 _ hb5; clear hs5 hb5)
    refine hK.out _ _ ?gT3_6 (fun hHeld=>?_)
    case gT3_6=>((try dsimp only); (refine ⟨?_,?_⟩ <;> go_simp))
    clear hK K
    try simp only [Act.put,zA7,zA4,zA6]
    refine tpP 4 ?_;refine tpP 7 ?_;refine zA9 (rs:=[8]) qH1 qL1 ?_;refine zC5 qS0 qH1 (fun K hK=>?_) zB0
    go_simp;refine hK.out _ _ ?_;clear hK K
    try simp only [Act.put,zA7,zA4,zA6]
    refine zC3 qH1 ?_ _;refine NoPanic.normal ?_;have fin:Hid (Jk6 g τ Reg' E' (grow W ext5 d5)/\Keeps (fun q=>q=g) V (grow W ext5 d5)):=zA0 ⟨(HBK3.out.below hW1W).below zR,(HK3.out.trans (zC0 hW1W (p:=fun q=>q=g)) (fun _ _ e=>e)).trans (zC0 (p:=fun q=>q=g) zR) (fun _ _ e=>e)⟩
    go_wp2_with fail;exact zA1 (v:=.bool true) (by simp [results,Tryz.results19,go_sem]) rfl ⟨rfl,fin.out.1,fin.out.2⟩
   ·have hq:=quiet (by simp [JcP,k1,c0])
    have b0:(rc != 0)=true:=zC6.2 c0;clear k2 k1 c0 quiet HN HT;go_wp2_with fail;exact zA1 (v:=.bool true) (by simp [results,Tryz.results19,go_sem]) rfl ⟨rfl,hq.out.1,hq.out.2⟩
  ·have hq:=quiet (by simp [JcP,k1,k2])
   have b1:(d.kind != 1)=true:=zC6.2 k1;clear k2 k1 quiet HN HT;go_wp2_with fail;exact zA1 (v:=.bool true) (by simp [results,Tryz.results19,go_sem]) rfl ⟨rfl,hq.out.1,hq.out.2⟩
set_option maxRecDepth 100000 in
set_option maxHeartbeats 2000000 in
theorem Jme (v:Value) (l:List Deed) (V:World) (h:Sl Jdu 13 V v l) (hd:∀ d∈l,d.path.size<=4611686018427387904) (ht:TabB V.heap.size V) :
  Calls Tryz.prog 5 #[v] V fun e w'=>e=.returned (.bool true)/\Below V.heap.size V w':=by
 have HP:=zA0 (fun (U:World) (hb:Below V.heap.size V U) (hbk:Bk U V.heap.size (Jfm newW) 48)=>Jgq 19 #[.pointer (some ⟨V.heap.size,0,none⟩)] (fun q=>q=V.heap.size) (Jk6 V.heap.size) v l U (h.apart hb (fun q e=>zG6 e.symm)) hd (ht.new hb) (fun q e=>e▸hbk.lt) (fun g hg e=>by have:=ht.2 g hg; omega) (fun σ Reg E W1 W2 h1 h2=>(h1 V.heap.size rfl).trans h2) hbk (fun args U=>by simp [go_sem]) (fun b _=>JnR V.heap.size b))
 obtain ⟨A,c,rfl,_⟩:=h.form;clear h hd ht;go_enter Tryz.func5,Tryz.ntmps5
 go_upto_region 2 with fail
 refine Jan (fun W1 hW1=>?_)
 have HB1:=zA0 (show Below V.heap.size V W1 by rw [hW1.out]; exact zR)
 have HC:=zA0 (HP.out W1 HB1.out (by rw [hW1.out]; exact Bk.new _ _ _ rfl))
 have hs1:=HB1.out.size;clear hW1 HP;go_upto_region 5 with ((go_at_call 12; refine (HC.out).mono ?_; rintro e w2 ⟨b,σ,Reg,E,sv,cv,dv,rfl,hb,hpl⟩; skip))
 have HB2:=zA0 ((zC0 HB1.out |>.trans hpl.keep (q:=fun q=>q=V.heap.size\/W1.heap.size<=q) (p:=fun q=>V.heap.size<=q) (fun q _ e=>by show V.heap.size<=q; omega)).low (zA3 _) (fun q e=>e))
 have HPL:=zA0 hpl;clear hpl HC HB1;go_wp2_with fail;go_loopw [6] (fun i wr=>∃ m:Nat,m<=16/\i=.int .i64 m/\Below w2.heap.size w2 wr) (fun i _=>16 - (intOf i).toNat)
 case atStart=>exact ⟨0,zB9 _,rfl,zB7 _ _⟩
 case round=>
  obtain ⟨m,hm,rfl,hbr⟩:=hrel
  by_cases hk:m<16
  ·have hm0:(0:Int)<=(m:Int):=by omega
   have hm1:(m:Int)<16:=qCE;have HBK:=zA0 (Bk.below HPL.out.hp hbr);have u0:wr.cell? ⟨V.heap.size,m,none⟩=some (.int .i64 (σ.c m).seen):=(HBK.out.cell m).trans (Jeo σ hk);have hlt0:V.heap.size<wr.heap.size:=HBK.out.lt;have HCC:=zA0 (fun (U:World) (hb:Below wr.heap.size wr U)=>JfZ _ b U σ sv cv dv ((HPL.out.win.below hbr).below hb) m hk (zB3 (HPL.out.inv.cl m hk).len HPL.out.inv.k300))
   have HBR:=zA0 hbr;clear hbr;generalize (σ.c m).seen=z at *;have hfd:∀ (se:Int) (A:Option Addr) (n c:Nat) (w:World),(Instr.field 51 (.agg #[.int .i64 se,.int .i64 z,.slice A n c]) 1).run Tryz.prog w=.ok (.int .i64 z) w:=fun _ _ _ _ _=>by kernel_rfl
   go_upto_region 8 with fail
   refine wp_region_noPanic ?_;refine zD3 qH1 (fun W hW=>?_)
   have cl0:W.cell? ⟨V.heap.size,m,none⟩=some (.int .i64 z):=qAE;have hWs1:W.heap.size=wr.heap.size:=qLE;have hW1W:Below wr.heap.size wr W:=qHE;have hbW:V.heap.size<W.heap.size:=qCE;refine Jaw (fun w'=>w'.cell? ⟨V.heap.size,m,none⟩=some (.int .i64 z)) (fun i=>i == 7) (by (try dsimp only); go_simp) (fun hHeld=>?_)
   refine tpP 0 ?_;refine tpP 1 ?_;refine tpP 4 ?_;refine tpP 5 ?_;refine tpA 6 ?_;refine zA9 (rs:=[2]) qH1 qL1 ?_;refine zB4 qS0 (fun K hK=>?_) zB0
   go_simp
   (go_at_call 20; (with_reducible refine (HCC.out _ hW1W).mono ?_); rintro e w5 ⟨A5,k5,rfl,hs5,hb5⟩; obtain ⟨ext5,d5,rfl⟩:=zA2 _ hb5; clear hs5 hb5)
   refine hK.out _ _ ?gT4_6 (fun hHeld=>?_)
   case gT4_6=>((try dsimp only); go_simp)
   clear hK K
   try simp only [Act.put,zA7,zA4,zA6]
   refine tpP 3 ?_;refine zA9 (rs:=[7]) qH1 qL1 ?_;refine zC5 qS0 qH1 (fun K hK=>?_) zB0
   go_simp;refine hK.out _ _ ?_;clear hK K
   try simp only [Act.put,zA7,zA4,zA6]
   refine zC3 qH1 ?_ _;refine NoPanic.normal ?_;have HBF:=zA0 (show Below w2.heap.size w2 (grow W ext5 d5) from zB6 HBR.out (zB6 hW1W zR))
   go_wp2_with fail;go_roundw
   case rel=>exact ⟨m+1,by omega,by go_num,HBF.out⟩
   case measure=>simp [intOf]; omega
  ·have hm3:m=16:=by omega
   subst hm3;go_wp2_with fail;exact zA1 (v:=.bool true) (by simp [results,Tryz.results5,go_sem]) rfl ⟨rfl,HB2.out.trans (hbr.mono HB2.out.size)⟩
namespace topSeen
theorem own:ownKnob Tryz.prog.godebug=none:=by kernel_rfl
theorem laidOut:laidOutB Tryz.prog=true:=by kernel_rfl
set_option maxRecDepth 100000 in
set_option maxHeartbeats 1000000 in
theorem lifted (os:Os) (started:os.Started) (H:Type) (enc:TypeId × Value->H) :
  ReturnsInHanded {} Tryz.checked os 5 .any (fun w args=>(Rows.topSeenSpec.pre enc Tryz.prog Tryz.f5 Rows.topSeenRow.domain false w args/\laidMetH Tryz.prog Rows.topSeenRow.laid w)/\sizedMet enc Tryz.prog Tryz.f5 (OpenSpec.ofChange Rows.topSeenSpec) false w args) (Rows.topSeenSpec.post enc Tryz.prog Tryz.f5 false true false false):=by
 refine returnsInHanded_of_change_and (C:=Tryz.checked) (X:=fun w _=>laidMetH Tryz.prog Rows.topSeenRow.laid w) (fun _ _ _ hh h=>h.of_heap hh) own started qH1 Tryz.func5
  (ChangeSpec.witness_shaped (enc:=enc) (C:=Tryz.checked) (os:=os) (X:=fun w _=>laidMetH Tryz.prog Rows.topSeenRow.laid w) false (World.laidAll Tryz.prog os Rows.topSeenRow.laid) #[.slice none 0 0] 8 (World.laidAll_os _ _ _)
   (World.shaped_of_ZipB qH1 qH1) qH1 qH1 qH1
   qB0) ?_
 intro W base args ds gs before hval0 hW0 _ hsz0 hL _;have hval:∀ (j:Nat) t v,Tryz.f5.params[j]?=some t->args[j]?=some v->Value.okWide Tryz.prog W .any base t v:=hval0;have hW:DataW.Whole enc Tryz.prog Tryz.f5.params.toList Rows.topSeenSpec.vars false W args.toList ds gs before:=hW0;have hlt:∀ p∈before,p.block<W.heap.size:=fun p hp=>hW.lt p hp
 have hW1:=hW;obtain ⟨p,q,hA0,hV,rfl,hfz,hnd⟩:=hW1;have hA:DataW.TrodAll enc Tryz.prog W 0 (fun _=>true) true Tryz.f5.params.toList args.toList ds p:=hA0
 obtain ⟨rfl,rfl⟩:=trodVars_none hV;rw [Tryz.params5] at hA hval;obtain ⟨v0,vs0,d0,ds0,p0,q0,hargs,rfl,rfl,h0,r0⟩:=trodAll_cons hA;obtain ⟨rfl,rfl,rfl⟩:=trodAll_nil r0;obtain rfl:args=#[v0]:=by cases args; simp_all
 have hsz:(DataW.weightsEach Tryz.prog [22] [d0]).all (·<=reachBytes)=true:=hsz0;have close:∀ e W',(e=Ending.returned (.bool true)/\Below W.heap.size W W')->∃ v,e=.returned v/\Rows.topSeenSpec.post enc Tryz.prog Tryz.f5 false true false false W #[v0] v W':=
  fun e W' ⟨he,hb⟩=>⟨_,he,JeR laidOut (of_decide_eq_true qH1) rfl rfl Tryz.underlying4 hW rfl hb⟩
 clear hA0 hsz0 hval0 hW0 hA hV hW hfz hnd
 have hlaid : laidMet Tryz.prog [("math/bits.deBruijn32tab", Rows.laid_math_bits_deBruijn32tab), ("math/bits.deBruijn64tab", Rows.laid_math_bits_deBruijn64tab), ("internal/strconv.uint64pow10", Rows.laid_internal_strconv_uint64pow10), ("unicode/utf8.acceptRanges", Rows.laid_unicode_utf8_acceptRanges), ("unicode/utf8.first", Rows.laid_unicode_utf8_first)] W := by
  have h1:=hL;rw [MakeChecks.laidMetH_plain _ _ _ qH1] at h1;exact h1
 obtain ⟨A,len,cap,rfl⟩:=okWide_slice Tryz.underlying22 (hval 0 _ v0 rfl rfl);obtain ⟨v,xs,hv,hr,hb,hx⟩:=Jc5 Tryz.underlying22 (JdB 12 h0 (Jdy hsz 0 rfl rfl));rw [show Tryz.prog.cellsOf 29=13 from by kernel_rfl] at hr
 rw [show Tryz.prog.bytesOf 29=120 from by kernel_rfl] at hb
 obtain rfl:Value.slice A len cap=v:=qnE;obtain ⟨l,rfl,hl⟩:=Jj9 (f:=Jdu) (Q:=fun r=>r.path.size<=140737488351232) (fun x hxm=>JdC (n:=0) (hx x hxm))
 have hs:Sl Jdu 13 W (.slice A len cap) l:=hr qJ1;exact (Jme _ l W hs (fun r hr=>zB3 (hl r hr) qJ1) (Jf6 (JcX hlaid))).mono close
theorem proved:Rows.TopSeenSaid:=
 OpenClaim.holds_of_wide 5 Tryz.f5 rfl rfl rfl rfl rfl rfl rfl ⟨rfl,rfl,rfl,rfl,rfl⟩ rfl rfl rfl rfl rfl qH1 Tryz.func5 qH1
  (of_decide_eq_true qH1) qA0
  (fun os started H enc _=>lifted os started H enc)
theorem card:Rows.TopSeenCardSaid:=
 Claim7.holds_tied_plain_at .later [] Rows.topSeenCard.laidKinds true Rows.topSeenCard.stood.harness false
  proved (fun _ h=>by cases h) qH1 (fun _ h=>by cases h) topSeen_row_tie rfl ⟨rfl,rfl⟩ qH1 rfl
  (fun f fn hf hfn=>by
   obtain rfl : f = 5 := Option.some.inj ((show Tryz.prog.funcNamed "aviary/aviarytop.TopSeen" = some 5 by kernel_rfl).symm.trans hf) |>.symm
   obtain rfl:fn=Tryz.f5:=(Option.some.inj (Tryz.func5.symm.trans hfn)).symm
   exact ⟨by kernel_rfl,fun j t ht=>by
    rw [Tryz.params5] at ht;have hm:t∈[22]:=qbE;have hall:([22].all fun u=>!Tryz.prog.wantsStandIn u)=true:=by kernel_rfl
    exact (show Tryz.prog.wantsStandIn t=false by simpa using List.all_eq_true.1 hall t hm)⟩)
  qH1
end topSeen
end
end Go.Proofs.YtjnooagaghdkdaaGreatDoor
