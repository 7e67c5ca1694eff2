/-L-/
import Derived.Test.YtjnooagaghdkdaaGreatDoorZ9
set_option maxHeartbeats 10000000
set_option maxRecDepth 100000
set_option linter.all false
namespace Go.Proofs.YtjnooagaghdkdaaGreatDoor
section
open Go.RowKit Go.ChangeShapes Go.WideShapes Go.ChangeAt
def Jaq (l:List File) (p:ByteArray):File:=l.getD (posK (l.map File.name) p) ⟨ByteArray.empty,ByteArray.empty,ByteArray.empty⟩
def JaW (l:List File) (p:ByteArray):Int:=if JaL l then (if isK (l.map File.name) p then 0 else 7) else 3
def JbC (l:List File) (p:ByteArray):ByteArray:=if JaL l && isK (l.map File.name) p then (Jaq l p).safe ++ (Jaq l p).tail else ⟨#[]⟩
theorem JbM {l:List File} {p:ByteArray} (h:isK (l.map File.name) p=true):posK (l.map File.name) p<l.length:=by
 unfold isK at h;simp at h;exact h.1
theorem Jc3 {l:List File} (h:JaL l=true):l.length<=16:=by
 unfold JaL at h;simp at h;exact h.1
theorem dkRead (v:Value) (l:List File) (p:ByteArray) (w:World) (h:Sl Jaa 3 w v l) (hz:∀ x∈l,x.sized) :
  Calls Tryz.prog 64 #[.agg #[v],.string p] w fun e w'=>e=.returned (.tuple #[.string (JbC l p),.int .i64 (JaW l p)])/\Below w.heap.size w w':=by
 obtain ⟨A,c,rfl,hc1,hc2⟩:=h.form;have H:=zA0 h;have HG:=zA0 (fun (W:World) (hs:Sl Jaa 3 W (.slice A l.length c) l)=>JhH _ l W hs hz)
 unfold JbC JaW;cases hg:JaL l with
 | false=>
  rw [hg] at HG;clear h hz hg;simp only [zJ5,zC7,if_false];go_enter Tryz.func64,Tryz.ntmps64
  go_wp2_with (first | (go_at_call 62; refine zc (HG.out _ (H.out.alloc _)) (fun ext d=>?_)))
  go_ret2;exact ⟨rfl,zL⟩
 | true=>
  rw [hg] at HG;have hl16:=Jc3 hg;have hfind:=fun (W:World) (v:Value) (hs:Sl Jaa 3 W v l)=>JjO v l p W hs qH1
  clear hg;simp only [zM5,if_true];cases hk:isK (l.map File.name) p with
  | false=>
   rw [hk] at hfind;have HF:=zA0 hfind;generalize posK (l.map File.name) p=q at *;clear h hz hk hfind;simp only [zC7,if_false];go_enter Tryz.func64,Tryz.ntmps64
   go_wp2_with (first | (go_at_call 62; refine zc (HG.out _ (H.out.alloc _)) (fun ext d=>?_)) | (go_at_call 91; refine zc (HF.out _ _ (H.out.below zL)) (fun ext2 d2=>?_)))
   go_ret2;exact ⟨rfl,zL⟩
  | true=>
   rw [hk] at hfind;have HF:=zA0 hfind;have hq:=JbM hk;have hx:l[posK (l.map File.name) p]?=some (Jaq l p):=by
    unfold Jaq;rw [zE6,zA8 hq];rfl
   obtain ⟨z0,z1,z2⟩:=hz _ (zD3 hx);obtain ⟨b,off,rfl,hbw,x0,x1,x2⟩:=H.out.File_at hx;generalize Jaq l p=x at *;generalize posK (l.map File.name) p=q at *;clear h hz hk hfind hx;simp only [if_true];go_enter Tryz.func64,Tryz.ntmps64
   go_wp2_with (first | (go_at_call 62; refine zc (HG.out _ (H.out.alloc _)) (fun ext d=>?_)) | (go_at_call 91; refine zc (HF.out _ _ (H.out.below zL)) (fun ext2 d2=>?_)))
   go_quiet (fail);go_wp2_with fail;go_ret2;exact ⟨rfl,zL⟩
def Jg6 (l:List File) (c:Int) (w:World) (e:Ending) (w':World):Prop:=∃ A k,e=.returned (.tuple #[.agg #[.slice A l.length k],.int .i64 c])/\Ow Jaa 3 128 w' w.heap.size (.slice A l.length k) l/\Below w.heap.size w w'
def Jde (l:List File) (p:ByteArray):List File:=if JaL l && isK (l.map File.name) p then l.take (posK (l.map File.name) p) ++ l.drop (posK (l.map File.name) p+1) else []
theorem dkRemove (v:Value) (l:List File) (p:ByteArray) (w:World) (h:Sl Jaa 3 w v l) (hz:∀ x∈l,x.sized) :
  Calls Tryz.prog 149 #[.agg #[v],.string p] w (Jg6 (Jde l p) (JaW l p) w):=by
 obtain ⟨A,c,rfl,hc1,hc2⟩:=h.form;have H:=zA0 h;have HG:=zA0 (fun (W:World) (hs:Sl Jaa 3 W (.slice A l.length c) l)=>JhH _ l W hs hz)
 unfold Jde JaW;cases hg:JaL l with
 | false=>
  rw [hg] at HG;clear h hz hg;simp only [zJ5,zC7,if_false];go_enter Tryz.func149,Tryz.ntmps149
  go_wp2_with
   (first | (go_at_call 62; refine zc (HG.out _ (H.out.below zL)) (fun ext d=>?_)) | (go_at_call 91; refine zc (HF.out _ _ (H.out.below zL)) (fun ext2 d2=>?_)))
  refine zA1 (v:=.tuple #[.agg #[.slice none 0 0],.int .i64 3]) (by simp [results,Tryz.results149,go_sem]) rfl ⟨none,0,rfl,Ow.nil _ _ _ _ _,zL⟩
 | true=>
  rw [hg] at HG;have hl16:=Jc3 hg;have hfind:=fun (W:World) (v:Value) (hs:Sl Jaa 3 W v l)=>JjO v l p W hs qH1
  clear hg;simp only [zM5,if_true];cases hk:isK (l.map File.name) p with
  | false=>
   rw [hk] at hfind;have HF:=zA0 hfind;generalize posK (l.map File.name) p=q at *;clear h hz hk hfind;simp only [zC7,if_false];go_enter Tryz.func149,Tryz.ntmps149
   go_wp2_with
    (first | (go_at_call 62; refine zc (HG.out _ (H.out.below zL)) (fun ext d=>?_)) | (go_at_call 91; refine zc (HF.out _ _ (H.out.below zL)) (fun ext2 d2=>?_)))
   refine zA1 (v:=.tuple #[.agg #[.slice none 0 0],.int .i64 7]) (by simp [results,Tryz.results149,go_sem]) rfl ⟨none,0,rfl,Ow.nil _ _ _ _ _,zL⟩
  | true=>
   rw [hk] at hfind;have HF:=zA0 hfind;have hq:=JbM hk;generalize posK (l.map File.name) p=q at *;clear h hz hk hfind;simp only [if_true];have HQ:=zA0 hq;go_enter Tryz.func149,Tryz.ntmps149
   go_wp2_with
    (first | (go_at_call 62; refine zc (HG.out _ (H.out.below zL)) (fun ext d=>?_)) | (go_at_call 91; refine zc (HF.out _ _ (H.out.below zL)) (fun ext2 d2=>?_)))
   refine (Jcp _ l _ (H.out.below zL) qH1 qs0).mono ?_;rintro e w3 ⟨A3,c3,rfl,ho3,hb3⟩;obtain ⟨ext3,d3,rfl⟩:=zA2 _ hb3;have HO3:=zA0 ho3;have hc3:c3<=9223372036854775807:=zB5 ho3.sl.cap_le (zH1 rfl);clear hb3 ho3;go_wp2_with fail;have HO4:=zA0 (HO3.out.regrow (W':=(grow (grow ((w.alloc (.cells #[.slice A3 l.length c3] 65)).alloc (.cells #[.slice none 0 0] 65)) ext d) ext2 d2)) (d':=d3) (zA3 _) qI1);refine (delFile A3 l.length c3 q l _ _ HO4.out HQ.out hc3).mono ?_;rintro e w4 ⟨rfl,hd⟩;have hb4:Below ((w.alloc (.cells #[.slice A3 l.length c3] 65)).alloc (.cells #[.slice none 0 0] 65)).heap.size ((w.alloc (.cells #[.slice A3 l.length c3] 65)).alloc (.cells #[.slice none 0 0] 65)) w4:=
    Below.grown zL hd.out.2 qB1 (fun g hg=>by have:=(Ow.own_in HO4.out hg).1; simp at this ⊢; omega)
   have HD:=zA0 hd.out.1;obtain ⟨ext5,d5,rfl⟩:=zA2 _ hb4;have hgl:(l.take q ++ l.drop (q+1)).length=l.length - 1:=by rw [zA9,zC2,zE5]; have:=HQ.out; omega
   have HGN:=zA0 hgl;clear hb4 hd hgl;go_wp2_with fail;refine zA1 (v:=.tuple #[.agg #[.slice A3 (l.length - 1) c3],.int .i64 0]) (by simp [results,Tryz.results149,go_sem]) rfl ⟨A3,c3,by rw [HGN.out],?_,zL⟩
   rw [HGN.out];exact (HD.out.regrow qB1 qI1).mono qB1
theorem dkSync1 (g o:Nat) (x:File) (w:World) (c1:w.cell? ⟨g,o+1,none⟩=some (.string x.safe)) (c2:w.cell? ⟨g,o+2,none⟩=some (.string x.tail)) (f1:w.frozen? ⟨g,o+1,none⟩=false) (f2:w.frozen? ⟨g,o+2,none⟩=false)
  (z1:x.safe.size<=140737488355328) (z2:x.tail.size<=140737488355328) :
  Calls Tryz.prog 172 #[.pointer (some ⟨g,o,none⟩)] w fun e w'=>e=.returned (.int .i64 0)/\w'=((w.setCell ⟨g,o+1,none⟩ (.string (x.safe ++ x.tail))).setCell ⟨g,o+2,none⟩ (.string ⟨#[]⟩)).drew:=by
 go_enter Tryz.func172,Tryz.ntmps172
 go_wp2_with fail;go_region;go_wp2_with fail;go_ret;exact ⟨rfl,rfl⟩
theorem JoH (g o bn:Nat) (n:Int) (x:File) (w:World) (c1:w.cell? ⟨g,o+1,none⟩=some (.string x.safe)) (c2:w.cell? ⟨g,o+2,none⟩=some (.string x.tail)) (cn:w.cell? ⟨bn,0,none⟩=some (.int .i64 n))
  (z1:x.safe.size<=140737488355328) (z2:x.tail.size<=140737488355328) (h:n<0\/((x.safe ++ x.tail).size:Int)<n) :
  Calls Tryz.prog 99 #[.pointer (some ⟨g,o,none⟩),.pointer (some ⟨bn,0,none⟩)] w fun e w'=>e=.returned (.int .i64 3)/\w'=w.drew:=by
 have hsz:(x.safe ++ x.tail).size=x.safe.size+x.tail.size:=by simp
 generalize hall:x.safe ++ x.tail=all at *
 by_cases hn:n<0
 ·go_enter Tryz.func99,Tryz.ntmps99
  go_wp2_with fail;go_region;go_wp2_with fail;go_ret;exact ⟨rfl,rfl⟩
 ·have hn2:(all.size:Int)<n:=by omega
  go_enter Tryz.func99,Tryz.ntmps99
  go_wp2_with fail;go_region;go_wp2_with fail;go_ret;exact ⟨rfl,rfl⟩
theorem JoG (g o bn n:Nat) (x:File) (w:World) (c1:w.cell? ⟨g,o+1,none⟩=some (.string x.safe)) (c2:w.cell? ⟨g,o+2,none⟩=some (.string x.tail)) (f1:w.frozen? ⟨g,o+1,none⟩=false) (f2:w.frozen? ⟨g,o+2,none⟩=false) (cn:w.cell? ⟨bn,0,none⟩=some (.int .i64 n))
  (z1:x.safe.size<=140737488355328) (z2:x.tail.size<=140737488355328) (h:n<=(x.safe ++ x.tail).size) :
  Calls Tryz.prog 99 #[.pointer (some ⟨g,o,none⟩),.pointer (some ⟨bn,0,none⟩)] w fun e w'=>e=.returned (.int .i64 0)/\w'=((w.setCell ⟨g,o+1,none⟩ (.string ((x.safe ++ x.tail).extract 0 n))).setCell ⟨g,o+2,none⟩ (.string ⟨#[]⟩)).drew:=by
 have hsz:(x.safe ++ x.tail).size=x.safe.size+x.tail.size:=by simp
 generalize hall:x.safe ++ x.tail=all at *;go_enter Tryz.func99,Tryz.ntmps99
 go_wp2_with fail;go_region;go_wp2_with fail;go_ret;exact ⟨rfl,rfl⟩
theorem Jby {W:World} {g k:Nat} {l:List File} {J:List Value} {t:TypeId} {x:File} (h:Bk W g (l.flatMap Jaa ++ J) t) (hx:l[k]?=some x) :
  W.cell? ⟨g,k*3,none⟩=some (.string x.name)/\W.cell? ⟨g,k*3+1,none⟩=some (.string x.safe)/\W.cell? ⟨g,k*3+2,none⟩=some (.string x.tail):=by
 have key:∀ j u,(Jaa x)[j]?=some u->W.cell? ⟨g,k*3+j,none⟩=some u:=by
  intro j u hu;have h0:(l.flatMap Jaa)[k*3+j]?=some u:=JbN (f:=Jaa) (s:=3) (fun y _=>rfl) hx hu
  rw [h.cell,zF1 (zB3.1 h0).1,h0]
 exact ⟨key 0 _ rfl,key 1 _ rfl,key 2 _ rfl⟩
theorem Jkm (cs:List Value) (o:Nat) (v:Value) (r:List Value) (hl:o+(r.length+1)<=cs.length):splice (cs.set o v) (o+1) r=splice cs o (v :: r):=by
 unfold splice;have h1:(cs.set o v).take (o+1)=cs.take o ++ [v]:=by
  rw [zF7,zJ7 qH1,zQ4 qH1];rfl
 rw [h1,zQ5 qH1,zD5,show o+(r.length+1)=o+1+r.length from by omega]
 simp
theorem JfK {l:List File} {J:List Value} {k:Nat} {x:File} (hx:l[k]?=some x) (s t:ByteArray) :
  (((l.flatMap Jaa ++ J).set (k*3+1) (.string s)).set (k*3+2) (.string t))=(l.set k ⟨x.name,s,t⟩).flatMap Jaa ++ J:=by
 have hk:k<l.length:=(zB3.1 hx).1;have hlen:(l.flatMap Jaa).length=l.length*3:=zC5 (fun y _=>rfl)
 have hle:k*3+3<=(l.flatMap Jaa ++ J).length:=by rw [zA9,hlen]; omega
 have h0:(l.flatMap Jaa)[k*3+0]?=some (.string x.name):=JbN (f:=Jaa) (s:=3) (fun y _=>rfl) hx rfl
 have hself:(l.flatMap Jaa ++ J).set (k*3) (.string x.name)=l.flatMap Jaa ++ J:=by
  apply zO2;intro i;rw [zK4];split
  ·rename_i e
   subst e;rw [if_pos qH1,zF1 qw0,<-zH9 (k*3),h0]
  ·rfl
 rw [<-Jdn (f:=Jaa) (s:=3) (fun y _=>rfl) hk ⟨x.name,s,t⟩ rfl J]
 show _=splice _ (k*3) [Value.string x.name,Value.string s,Value.string t];rw [<-Jkm _ _ _ _ (by simpa using hle),hself,<-Jkm _ _ _ _ (by simpa using hle),<-Jkm _ _ _ _ (by rw [zF4]; simpa using hle)]
 simp [splice]
def syncF (x:File):File:=⟨x.name,x.safe ++ x.tail,⟨#[]⟩⟩
def JfD (l:List File) (p:ByteArray):List File:=if JaL l && isK (l.map File.name) p then l.set (posK (l.map File.name) p) (syncF (Jaq l p)) else []
theorem JjP (v:Value) (l:List File) (p:ByteArray) (w:World) (h:Sl Jaa 3 w v l) (hz:∀ x∈l,x.sized) :
  Calls Tryz.prog 98 #[.agg #[v],.string p,.func (.func 172) #[] #[]] w (Jg6 (JfD l p) (JaW l p) w):=by
 obtain ⟨A,c,rfl,hc1,hc2⟩:=h.form;have H:=zA0 h;have HG:=zA0 (fun (W:World) (hs:Sl Jaa 3 W (.slice A l.length c) l)=>JhH _ l W hs hz)
 unfold JfD JaW;cases hg:JaL l with
 | false=>
  rw [hg] at HG;clear h hz hg;simp only [zJ5,zC7,if_false];go_enter Tryz.func98,Tryz.ntmps98
  go_wp2_with
   (first | (go_at_call 62; refine zc (HG.out _ (H.out.below zL)) (fun ext d=>?_)) | (go_at_call 91; refine zc (HF.out _ _ (H.out.below zL)) (fun ext2 d2=>?_)))
  refine zA1 (v:=.tuple #[.agg #[.slice none 0 0],.int .i64 3]) (by simp [results,Tryz.results98,go_sem]) rfl ⟨none,0,rfl,Ow.nil _ _ _ _ _,zL⟩
 | true=>
  rw [hg] at HG;have hl16:=Jc3 hg;have hfind:=fun (W:World) (v:Value) (hs:Sl Jaa 3 W v l)=>JjO v l p W hs qH1
  clear hg;simp only [zM5,if_true];cases hk:isK (l.map File.name) p with
  | false=>
   rw [hk] at hfind;have HF:=zA0 hfind;generalize posK (l.map File.name) p=q at *;clear h hz hk hfind;simp only [zC7,if_false];go_enter Tryz.func98,Tryz.ntmps98
   go_wp2_with
    (first | (go_at_call 62; refine zc (HG.out _ (H.out.below zL)) (fun ext d=>?_)) | (go_at_call 91; refine zc (HF.out _ _ (H.out.below zL)) (fun ext2 d2=>?_)))
   refine zA1 (v:=.tuple #[.agg #[.slice none 0 0],.int .i64 7]) (by simp [results,Tryz.results98,go_sem]) rfl ⟨none,0,rfl,Ow.nil _ _ _ _ _,zL⟩
  | true=>
   rw [hk] at hfind;have HF:=zA0 hfind;have hq:=JbM hk;have hx:l[posK (l.map File.name) p]?=some (Jaq l p):=by
    unfold Jaq;rw [zE6,zA8 hq];rfl
   obtain ⟨z0,z1,z2⟩:=hz _ (zD3 hx);generalize Jaq l p=x at *;generalize posK (l.map File.name) p=q at *;have HX:=zA0 hx;clear h hz hk hfind hx;simp only [if_true];go_enter Tryz.func98,Tryz.ntmps98
   go_wp2_with
    (first | (go_at_call 62; refine zc (HG.out _ (H.out.below zL)) (fun ext d=>?_)) | (go_at_call 91; refine zc (HF.out _ _ (H.out.below zL)) (fun ext2 d2=>?_)))
   refine (Jcp _ l _ (H.out.below zL) qH1 qs0).mono ?_;rintro e w3 ⟨A3,c3,rfl,ho3,hb3⟩;obtain ⟨ext3,d3,rfl⟩:=zA2 _ hb3;obtain ⟨g3,J,rfl,hg3,hbk3,hcl,hlc,hcm,_⟩:=ho3.blk qH1;have hbk4:Bk (grow (grow (grow ((w.alloc (.cells #[.slice (some ⟨g3,0,none⟩) l.length c3] 65)).alloc (.cells #[.slice none 0 0] 65)) ext d) ext2 d2) ext3 d3) g3 (l.flatMap Jaa ++ J) 128:=hbk3.regrow qx0 qI1;have hg4:w.heap.size+1+1<=g3:=qkE;obtain ⟨r0,r1,r2⟩:=Jby hbk4 HX.out;have HBK:=zA0 hbk4;have HCL:=zA0 hcl;clear hb3 ho3 hbk3 hbk4 hg3 hcl;go_wp2_with fail;refine (dkSync1 g3 (q*3) x _ r1 r2 (HBK.out.frozen _) (HBK.out.frozen _) z1 z2).mono ?_;rintro e w4 ⟨rfl,rfl⟩;have hb5:Below ((w.alloc (.cells #[.slice (some ⟨g3,0,none⟩) l.length c3] 65)).alloc (.cells #[.slice none 0 0] 65)).heap.size ((w.alloc (.cells #[.slice (some ⟨g3,0,none⟩) l.length c3] 65)).alloc (.cells #[.slice none 0 0] 65)) ((((grow (grow (grow ((w.alloc (.cells #[.slice (some ⟨g3,0,none⟩) l.length c3] 65)).alloc (.cells #[.slice none 0 0] 65)) ext d) ext2 d2) ext3 d3).setCell ⟨g3,q*3+1,none⟩ (.string (x.safe ++ x.tail))).setCell ⟨g3,q*3+2,none⟩ (.string ⟨#[]⟩)).drew):=Below.drew (Below.put (Below.put zL qB1) qB1);have hbk5:Bk ((((grow (grow (grow ((w.alloc (.cells #[.slice (some ⟨g3,0,none⟩) l.length c3] 65)).alloc (.cells #[.slice none 0 0] 65)) ext d) ext2 d2) ext3 d3).setCell ⟨g3,q*3+1,none⟩ (.string (x.safe ++ x.tail))).setCell ⟨g3,q*3+2,none⟩ (.string ⟨#[]⟩)).drew) g3 ((l.set q (syncF x)).flatMap Jaa ++ J) 128:=by
    have:=(HBK.out.put (q*3+1) (.string (x.safe ++ x.tail))).put (q*3+2) (.string ⟨#[]⟩);rw [JfK HX.out] at this;exact this
   generalize ((((grow (grow (grow ((w.alloc (.cells #[.slice (some ⟨g3,0,none⟩) l.length c3] 65)).alloc (.cells #[.slice none 0 0] 65)) ext d) ext2 d2) ext3 d3).setCell ⟨g3,q*3+1,none⟩ (.string (x.safe ++ x.tail))).setCell ⟨g3,q*3+2,none⟩ (.string ⟨#[]⟩)).drew)=w5 at hb5 hbk5 ⊢;obtain ⟨ext5,d5,rfl⟩:=zA2 _ hb5;have HBK5:=zA0 hbk5;clear hb5 hbk5 HBK r0 r1 r2;go_wp2_with fail;have hlen:((l.set q (syncF x)).flatMap Jaa ++ J).length=c3*3:=by
    rw [<-HCL.out,zA9,zA9,zC5 (f:=Jaa) (s:=3) (fun _ _=>rfl),zC5 (f:=Jaa) (s:=3) (fun _ _=>rfl),zF4]
   refine zA1 (v:=.tuple #[.agg #[.slice (some ⟨g3,0,none⟩) l.length c3],.int .i64 0]) (by simp [results,Tryz.results98,go_sem]) rfl ⟨some ⟨g3,0,none⟩,c3,by rw [zF4],?_,zL⟩
   exact Ow.of_blk (f:=Jaa) (s:=3) (B:=w.heap.size) (fun _ _=>rfl) qH1 (HBK5.out.regrow qB1 qI1) rfl hlen qb0 hcm
end
end Go.Proofs.YtjnooagaghdkdaaGreatDoor
