/-L-/
import Derived.Test.YtjnooagaghdkdaaGreatDoorZ11
set_option maxHeartbeats 10000000
set_option maxRecDepth 100000
set_option linter.all false
namespace Go.Proofs.YtjnooagaghdkdaaGreatDoor
section
open Go.RowKit Go.ChangeShapes Go.WideShapes Go.ChangeAt
theorem dkSync (v:Value) (l:List File) (p:ByteArray) (w:World) (h:Sl Jaa 3 w v l) (hz:∀ x∈l,x.sized) :
  Calls Tryz.prog 141 #[.agg #[v],.string p] w (Jg6 (JfD l p) (JaW l p) w):=by
 obtain ⟨A,c,rfl,hc1,hc2⟩:=h.form;have H:=zA0 h;have HC:=zA0 (fun (W:World) (hs:Sl Jaa 3 W (.slice A l.length c) l)=>JjP _ l p W hs hz)
 generalize JfD l p=L at *;generalize JaW l p=code at *;clear h hz;go_enter Tryz.func141,Tryz.ntmps141
 go_wp2_with (first | (go_at_call 98; refine (HC.out _ (H.out.below zL)).mono ?_; rintro e w1 ⟨A1,k1,rfl,hs1,hb1⟩; have HS1:=zA0 hs1; obtain ⟨ext,d,rfl⟩:=zA2 _ hb1; clear hs1 hb1));refine zA1 (v:=.tuple #[.agg #[.slice A1 L.length k1],.int .i64 code]) (by simp [results,Tryz.results141,go_sem]) rfl ⟨A1,k1,rfl,?_,zL⟩
 exact (HS1.out.regrow (zA3 _) qI1).mono qB1
def cutF (x:File) (n:Nat):File:=⟨x.name,(x.safe ++ x.tail).extract 0 n,⟨#[]⟩⟩
def cutL (l:List File) (p:ByteArray) (n:Int):List File:=if JaL l && isK (l.map File.name) p then (if 0<=n/\n<=(((Jaq l p).safe ++ (Jaq l p).tail).size:Int) then l.set (posK (l.map File.name) p) (cutF (Jaq l p) n.toNat) else []) else []
def cutE (l:List File) (p:ByteArray) (n:Int):Int:=if JaL l then (if isK (l.map File.name) p then (if 0<=n/\n<=(((Jaq l p).safe ++ (Jaq l p).tail).size:Int) then 0 else 3) else 7) else 3
theorem JkN (v:Value) (l:List File) (p:ByteArray) (bn:Nat) (n:Int) (w:World) (h:Sl Jaa 3 w v l) (hz:∀ x∈l,x.sized) (cn:w.cell? ⟨bn,0,none⟩=some (.int .i64 n)) (hbn:bn<w.heap.size) :
  Calls Tryz.prog 98 #[.agg #[v],.string p,.func (.func 99) #[] #[.pointer (some ⟨bn,0,none⟩)]] w (Jg6 (cutL l p n) (cutE l p n) w):=by
 obtain ⟨A,c,rfl,hc1,hc2⟩:=h.form;have H:=zA0 h;have HG:=zA0 (fun (W:World) (hs:Sl Jaa 3 W (.slice A l.length c) l)=>JhH _ l W hs hz)
 unfold cutL cutE;cases hg:JaL l with
 | false=>
  rw [hg] at HG;clear h hz hg;simp only [zJ5,zC7,if_false];go_enter Tryz.func98,Tryz.ntmps98
  go_wp2_with
   (first | (go_at_call 62; refine zc (HG.out _ (H.out.below zL)) (fun ext d=>?_)) | (go_at_call 91; refine zc (HF.out _ _ (H.out.below zL)) (fun ext2 d2=>?_)))
  refine zA1 (v:=.tuple #[.agg #[.slice none 0 0],.int .i64 3]) (by simp [results,Tryz.results98,go_sem]) rfl ⟨none,0,rfl,Ow.nil _ _ _ _ _,zL⟩
 | true=>
  rw [hg] at HG;have hl16:=Jc3 hg;have hfind:=fun (W:World) (v:Value) (hs:Sl Jaa 3 W v l)=>JjO v l p W hs qH1
  clear hg;simp only [zM5,if_true];cases hk:isK (l.map File.name) p with
  | false=>
   rw [hk] at hfind;have HF:=zA0 hfind;generalize posK (l.map File.name) p=q at *;clear h hz hk hfind;simp only [zC7,if_false];go_enter Tryz.func98,Tryz.ntmps98
   go_wp2_with
    (first | (go_at_call 62; refine zc (HG.out _ (H.out.below zL)) (fun ext d=>?_)) | (go_at_call 91; refine zc (HF.out _ _ (H.out.below zL)) (fun ext2 d2=>?_)))
   refine zA1 (v:=.tuple #[.agg #[.slice none 0 0],.int .i64 7]) (by simp [results,Tryz.results98,go_sem]) rfl ⟨none,0,rfl,Ow.nil _ _ _ _ _,zL⟩
  | true=>
   rw [hk] at hfind;have HF:=zA0 hfind;have hq:=JbM hk;have hx:l[posK (l.map File.name) p]?=some (Jaq l p):=by
    unfold Jaq;rw [zE6,zA8 hq];rfl
   obtain ⟨z0,z1,z2⟩:=hz _ (zD3 hx);generalize Jaq l p=x at *;generalize posK (l.map File.name) p=q at *;have HX:=zA0 hx;clear h hz hk hfind hx;simp only [if_true];have hszx:(x.safe ++ x.tail).size=x.safe.size+x.tail.size:=by simp
   by_cases hr:0<=n/\n<=((x.safe ++ x.tail).size:Int)
   ·simp only [if_pos hr]
    obtain ⟨m,rfl⟩:=zG8 hr.1;have HR:Hid (m<=(x.safe ++ x.tail).size):=zA0 (by have:=hr.2; omega)
    clear hr hszx;go_enter Tryz.func98,Tryz.ntmps98
    go_wp2_with
     (first | (go_at_call 62; refine zc (HG.out _ (H.out.below zL)) (fun ext d=>?_)) | (go_at_call 91; refine zc (HF.out _ _ (H.out.below zL)) (fun ext2 d2=>?_)))
    refine (Jcp _ l _ (H.out.below zL) qH1 qs0).mono ?_;rintro e w3 ⟨A3,c3,rfl,ho3,hb3⟩;obtain ⟨ext3,d3,rfl⟩:=zA2 _ hb3;obtain ⟨g3,J,rfl,hg3,hbk3,hcl,hlc,hcm,_⟩:=ho3.blk qH1;have hbk4:Bk (grow (grow (grow ((w.alloc (.cells #[.slice (some ⟨g3,0,none⟩) l.length c3] 65)).alloc (.cells #[.slice none 0 0] 65)) ext d) ext2 d2) ext3 d3) g3 (l.flatMap Jaa ++ J) 128:=hbk3.regrow qx0 qI1;have hg4:w.heap.size+1+1<=g3:=qkE;obtain ⟨r0,r1,r2⟩:=Jby hbk4 HX.out;have HBK:=zA0 hbk4;have HCL:=zA0 hcl;clear hb3 ho3 hbk3 hbk4 hg3 hcl;go_wp2_with fail;refine (JoG g3 (q*3) bn m x _ r1 r2 (HBK.out.frozen _) (HBK.out.frozen _) ((show Below w.heap.size w _ from zL).cell (p:=⟨bn,0,none⟩) hbn |>.trans cn) z1 z2 HR.out).mono ?_
    rintro e w4 ⟨rfl,rfl⟩;have hb5:Below ((w.alloc (.cells #[.slice (some ⟨g3,0,none⟩) l.length c3] 65)).alloc (.cells #[.slice none 0 0] 65)).heap.size ((w.alloc (.cells #[.slice (some ⟨g3,0,none⟩) l.length c3] 65)).alloc (.cells #[.slice none 0 0] 65)) ((((grow (grow (grow ((w.alloc (.cells #[.slice (some ⟨g3,0,none⟩) l.length c3] 65)).alloc (.cells #[.slice none 0 0] 65)) ext d) ext2 d2) ext3 d3).setCell ⟨g3,q*3+1,none⟩ (.string ((x.safe ++ x.tail).extract 0 m))).setCell ⟨g3,q*3+2,none⟩ (.string ⟨#[]⟩)).drew):=Below.drew (Below.put (Below.put zL qB1) qB1);have hbk5:Bk ((((grow (grow (grow ((w.alloc (.cells #[.slice (some ⟨g3,0,none⟩) l.length c3] 65)).alloc (.cells #[.slice none 0 0] 65)) ext d) ext2 d2) ext3 d3).setCell ⟨g3,q*3+1,none⟩ (.string ((x.safe ++ x.tail).extract 0 m))).setCell ⟨g3,q*3+2,none⟩ (.string ⟨#[]⟩)).drew) g3 ((l.set q (cutF x m)).flatMap Jaa ++ J) 128:=by
     have:=(HBK.out.put (q*3+1) (.string ((x.safe ++ x.tail).extract 0 m))).put (q*3+2) (.string ⟨#[]⟩);rw [JfK HX.out] at this;exact this
    generalize ((((grow (grow (grow ((w.alloc (.cells #[.slice (some ⟨g3,0,none⟩) l.length c3] 65)).alloc (.cells #[.slice none 0 0] 65)) ext d) ext2 d2) ext3 d3).setCell ⟨g3,q*3+1,none⟩ (.string ((x.safe ++ x.tail).extract 0 m))).setCell ⟨g3,q*3+2,none⟩ (.string ⟨#[]⟩)).drew)=w5 at hb5 hbk5 ⊢;obtain ⟨ext5,d5,rfl⟩:=zA2 _ hb5;have HBK5:=zA0 hbk5;clear hb5 hbk5 HBK r0 r1 r2;go_wp2_with fail;have hlen:((l.set q (cutF x m)).flatMap Jaa ++ J).length=c3*3:=by
     rw [<-HCL.out,zA9,zA9,zC5 (f:=Jaa) (s:=3) (fun _ _=>rfl),zC5 (f:=Jaa) (s:=3) (fun _ _=>rfl),zF4]
    refine zA1 (v:=.tuple #[.agg #[.slice (some ⟨g3,0,none⟩) l.length c3],.int .i64 0]) (by simp [results,Tryz.results98,go_sem]) rfl ⟨some ⟨g3,0,none⟩,c3,by rw [zF4],?_,zL⟩
    exact Ow.of_blk (f:=Jaa) (s:=3) (B:=w.heap.size) (fun _ _=>rfl) qH1 (HBK5.out.regrow qB1 qI1) rfl hlen qb0 hcm
   ·simp only [if_neg hr]
    have HR:=zA0 (show n<0\/((x.safe ++ x.tail).size:Int)<n by omega)
    clear hr hszx;go_enter Tryz.func98,Tryz.ntmps98
    go_wp2_with
     (first | (go_at_call 62; refine zc (HG.out _ (H.out.below zL)) (fun ext d=>?_)) | (go_at_call 91; refine zc (HF.out _ _ (H.out.below zL)) (fun ext2 d2=>?_)))
    refine (Jcp _ l _ (H.out.below zL) qH1 qs0).mono ?_;rintro e w3 ⟨A3,c3,rfl,ho3,hb3⟩;obtain ⟨ext3,d3,rfl⟩:=zA2 _ hb3;obtain ⟨g3,J,rfl,hg3,hbk3,hcl,hlc,hcm,_⟩:=ho3.blk qH1;have hbk4:Bk (grow (grow (grow ((w.alloc (.cells #[.slice (some ⟨g3,0,none⟩) l.length c3] 65)).alloc (.cells #[.slice none 0 0] 65)) ext d) ext2 d2) ext3 d3) g3 (l.flatMap Jaa ++ J) 128:=hbk3.regrow qx0 qI1;have hg4:w.heap.size+1+1<=g3:=qkE;obtain ⟨r0,r1,r2⟩:=Jby hbk4 HX.out;have HBK:=zA0 hbk4;have HCL:=zA0 hcl;clear hb3 ho3 hbk3 hbk4 hg3 hcl;go_wp2_with fail;refine (JoH g3 (q*3) bn n x _ r1 r2 ((show Below w.heap.size w _ from zL).cell (p:=⟨bn,0,none⟩) hbn |>.trans cn) z1 z2 HR.out).mono ?_
    rintro e w4 ⟨rfl,rfl⟩;go_wp2_with fail;refine zA1 (v:=.tuple #[.agg #[.slice none 0 0],.int .i64 3]) (by simp [results,Tryz.results98,go_sem]) rfl ⟨none,0,rfl,Ow.nil _ _ _ _ _,zL⟩
theorem dkCut (v:Value) (l:List File) (p:ByteArray) (n:Int) (w:World) (h:Sl Jaa 3 w v l) (hz:∀ x∈l,x.sized) :
  Calls Tryz.prog 69 #[.agg #[v],.string p,.int .i64 n] w (Jg6 (cutL l p n) (cutE l p n) w):=by
 obtain ⟨A,c,rfl,hc1,hc2⟩:=h.form;have H:=zA0 h;have HC:=zA0 (fun (W:World) (bn:Nat) (hs:Sl Jaa 3 W (.slice A l.length c) l) (cn:W.cell? ⟨bn,0,none⟩=some (.int .i64 n)) (hb:bn<W.heap.size)=>JkN _ l p bn n W hs hz cn hb)
 generalize cutL l p n=L at *;generalize cutE l p n=code at *;clear h hz;go_enter Tryz.func69,Tryz.ntmps69
 go_wp2_with (first | (go_at_call 98; refine (HC.out _ (w.heap.size+1) (H.out.below zL) qF1 qI1).mono ?_; rintro e w1 ⟨A1,k1,rfl,hs1,hb1⟩; have HS1:=zA0 hs1; obtain ⟨ext,d,rfl⟩:=zA2 _ hb1; clear hs1 hb1));refine zA1 (v:=.tuple #[.agg #[.slice A1 L.length k1],.int .i64 code]) (by simp [results,Tryz.results69,go_sem]) rfl ⟨A1,k1,rfl,?_,zL⟩
 exact (HS1.out.regrow (zA3 _) qI1).mono qB1
end
end Go.Proofs.YtjnooagaghdkdaaGreatDoor
