/-L-/
import Derived.Test.YtjnooagaghdkdaaGreatDoorY11
set_option maxHeartbeats 10000000
set_option maxRecDepth 100000
set_option linter.all false
namespace Go.Proofs.YtjnooagaghdkdaaGreatDoor
section
open Go.RowKit Go.ChangeShapes Go.WideShapes Go.ChangeAt
def JdC (keep:Nat) (x:File):File:=⟨x.name,x.safe ++ x.tail.extract 0 (min keep x.tail.size),⟨#[]⟩⟩
def Jd9 (keep:Nat) (l:List File) (k:Nat):List File:=(l.take k).map (JdC keep) ++ l.drop k
theorem Joz {keep:Nat} {l:List File} {k:Nat} {x:File} (hx:l[k]?=some x):(Jd9 keep l k)[k]?=some x/\(Jd9 keep l k).set k (JdC keep x)=Jd9 keep l (k+1):=by
 have hk:k<l.length:=(zB4.1 hx).1;have hl:((l.take k).map (JdC keep)).length=k:=by rw [zG0,zC0,zF8 qI1]
 have hd:l.drop k=x :: l.drop (k+1):=by
  have:l[k]=x:=(zB4.1 hx).2;rw [<-this,zP8]
 unfold Jd9;constructor
 ·rw [zJ4 qI1,hl,zI4,hd]; rfl
 ·rw [zM4 _ _ qI1,hl,zI4,hd,zF4,hx]
  simp
theorem Jmr (keep:Nat) (l:List File):Jd9 keep l l.length=l.map (JdC keep):=by unfold Jd9; simp
def Jbv (l:List File) (keep:Int):Int:=if JaH l then (if keep<0 then 3 else 0) else 3
def JdB (l:List File) (keep:Int):List File:=if JaH l then (if keep<0 then [] else l.map (JdC keep.toNat)) else []
theorem dkCrash (v:Value) (l:List File) (keep:Int) (w:World) (h:Sl Jaa 3 w v l) (hz:∀ x∈l,x.sized) :
  Calls Tryz.prog 45 #[.agg #[v],.int .i64 keep] w (JgP (JdB l keep) (Jbv l keep) w):=by
 obtain ⟨A,c,rfl,hc1,hc2⟩:=h.form;have H:=zA0 h;have HG:=zA0 (fun (W:World) (hs:Sl Jaa 3 W (.slice A l.length c) l)=>Jhn _ l W hs hz)
 have HZ:=zA0 hz;unfold JdB Jbv;cases hg:JaH l with
 | false=>
  rw [hg] at HG;clear h hz hg;simp only [zC6,if_false];go_enter Tryz.func45,Tryz.ntmps45
  go_wp2_with
   (first | (go_at_call 62; refine zc (HG.out _ (H.out.below zL)) (fun ext d=>?_)))
  refine zA1 (v:=.tuple #[.agg #[.slice none 0 0],.int .i64 3]) (by simp [results,Tryz.results45,go_sem]) rfl ⟨none,0,rfl,Ow.nil _ _ _ _ _,zL⟩
 | true=>
  rw [hg] at HG;have hl16:=Jc1 hg;clear h hz hg;simp only [if_true]
  by_cases hk:keep<0
  ·simp only [if_pos hk]
   go_enter Tryz.func45,Tryz.ntmps45
   go_wp2_with
    (first | (go_at_call 62; refine zc (HG.out _ (H.out.below zL)) (fun ext d=>?_)))
   refine zA1 (v:=.tuple #[.agg #[.slice none 0 0],.int .i64 3]) (by simp [results,Tryz.results45,go_sem]) rfl ⟨none,0,rfl,Ow.nil _ _ _ _ _,zL⟩
  ·simp only [if_neg hk]
   obtain ⟨m,rfl⟩:=zG9 (show 0<=keep by omega)
   have hmn:(decide ((m:Int)<0))=false:=by simp
   rw [zG7];clear hk;go_enter Tryz.func45,Tryz.ntmps45
   go_wp2_with
    (first | (go_at_call 62; refine zc (HG.out _ (H.out.below zL)) (fun ext d=>?_)))
   refine (Jcl _ l _ (H.out.below zL) qI1 qs0).mono ?_;rintro e w3 ⟨A3,c3,rfl,ho3,hb3⟩;obtain ⟨ext3,d3,rfl⟩:=zA2 _ hb3;rcases zJ9 l.length with h0 | h0
   ·obtain rfl:=zJ8 h0
    have HO3:=zA0 ho3;clear hb3 ho3;simp only [zG5];go_wp2_with fail;refine wp_loop_rounds 1 ?_;rw [rounds_succ];go_wp2_with fail;refine zA1 (v:=.tuple #[.agg #[.slice A3 0 c3],.int .i64 0]) (by simp [results,Tryz.results45,go_sem]) rfl ⟨A3,c3,rfl,?_,zL⟩
    exact (HO3.out.regrow (zA3 _) qJ1).mono qB1
   ·obtain ⟨g3,J,rfl,hg3,hbk3,hcl,hlc,hcm,_⟩:=ho3.blk h0
    have hg4:w.heap.size+1+1<=g3:=qjE;have HB3:=zA0 hbk3;have HG3:=zA0 hg3;have HCL:=zA0 hcl;clear hb3 ho3 hbk3 hg3 hcl;go_wp2_with fail;go_loopw [21] (fun i wr=>∃ (k:Nat) (ext:Array Obj) (d:Nat),k<=l.length/\i=.int .i64 k/\wr=grow ((w.alloc (.cells #[.slice (some ⟨g3,0,none⟩) l.length c3] 65)).alloc (.cells #[.slice none 0 0] 65)) ext d/\Hid (Bk wr g3 ((Jd9 m l k).flatMap Jaa ++ J) 128)) (fun i _=>l.length - (intOf i).toNat)
    case atStart=>exact ⟨0,_,_,zB9 _,rfl,Jau zL,zA0 (by simpa [Jd9] using HB3.out.regrow HG3.out qJ1)⟩
    case round=>
     obtain ⟨k,ext5,d5,hk,rfl,rfl,hbk⟩:=hrel
     by_cases hlt:k<l.length
     ·have hx:l[k]?=some (l[k]'hlt):=zA7 _
      obtain ⟨z0,z1,z2⟩:=HZ.out _ (zD4 hx);obtain ⟨hat,hset⟩:=Joz (keep:=m) hx;generalize l[k]'hlt=x at *;have hbk1:Bk (grow ((w.alloc (.cells #[.slice (some ⟨g3,0,none⟩) l.length c3] 65)).alloc (.cells #[.slice none 0 0] 65)) ext5 (d5+1)) g3 ((Jd9 m l k).flatMap Jaa ++ J) 128:=hbk.out;obtain ⟨r0,r1,r2⟩:=Jbq hbk1 hat;have f1:=hbk1.frozen (k*3+1);have f2:=hbk1.frozen (k*3+2);have HBK1:=zA0 hbk1;clear hbk1;have HAT:=zA0 hat;have HSET:=zA0 hset;clear hx hat hset;go_wp2_with fail;go_region;have hb6:Below ((w.alloc (.cells #[.slice (some ⟨g3,0,none⟩) l.length c3] 65)).alloc (.cells #[.slice none 0 0] 65)).heap.size ((w.alloc (.cells #[.slice (some ⟨g3,0,none⟩) l.length c3] 65)).alloc (.cells #[.slice none 0 0] 65)) (((grow ((w.alloc (.cells #[.slice (some ⟨g3,0,none⟩) l.length c3] 65)).alloc (.cells #[.slice none 0 0] 65)) ext5 (d5+1)).setCell ⟨g3,k*3+1,none⟩ (.string (x.safe ++ x.tail.extract 0 (min (m:Int) (x.tail.size:Int)).toNat))).setCell ⟨g3,k*3+2,none⟩ (.string ⟨#[]⟩)):=Below.put (Below.put zL qB1) qB1;have hbk6:Bk (((grow ((w.alloc (.cells #[.slice (some ⟨g3,0,none⟩) l.length c3] 65)).alloc (.cells #[.slice none 0 0] 65)) ext5 (d5+1)).setCell ⟨g3,k*3+1,none⟩ (.string (x.safe ++ x.tail.extract 0 (min (m:Int) (x.tail.size:Int)).toNat))).setCell ⟨g3,k*3+2,none⟩ (.string ⟨#[]⟩)) g3 ((Jd9 m l (k+1)).flatMap Jaa ++ J) 128:=by
       have:=(HBK1.out.put (k*3+1) (.string (x.safe ++ x.tail.extract 0 (min (m:Int) (x.tail.size:Int)).toNat))).put (k*3+2) (.string ⟨#[]⟩);rw [JfC HAT.out] at this;rw [<-HSET.out];unfold JdC;rw [show (min (m:Int) (x.tail.size:Int)).toNat=min m x.tail.size from by omega] at this ⊢
       exact this
      generalize (((grow ((w.alloc (.cells #[.slice (some ⟨g3,0,none⟩) l.length c3] 65)).alloc (.cells #[.slice none 0 0] 65)) ext5 (d5+1)).setCell ⟨g3,k*3+1,none⟩ (.string (x.safe ++ x.tail.extract 0 (min (m:Int) (x.tail.size:Int)).toNat))).setCell ⟨g3,k*3+2,none⟩ (.string ⟨#[]⟩))=w6 at hb6 hbk6 ⊢;obtain ⟨ext6,d6,rfl⟩:=zA2 _ hb6;have HBK6:=zA0 hbk6;clear hb6 hbk6 hbk HBK1 r0 r1 r2 f1 f2;go_wp2_with fail;go_roundw
      case rel=>exact ⟨k+1,_,_,by omega,by go_num,rfl,HBK6⟩
      case measure=>simp [intOf]; omega
     ·have hk':k=l.length:=by omega
      subst hk';have hbk':=hbk.out;rw [Jmr] at hbk';have HBK:=zA0 hbk';clear hbk hbk';go_wp2_with fail;have hlen:((l.map (JdC m)).flatMap Jaa ++ J).length=c3*3:=by
       rw [<-HCL.out,zA9,zA9,zC5 (f:=Jaa) (s:=3) (fun _ _=>rfl),zC5 (f:=Jaa) (s:=3) (fun _ _=>rfl),zG0]
      refine zA1 (v:=.tuple #[.agg #[.slice (some ⟨g3,0,none⟩) l.length c3],.int .i64 0]) (by simp [results,Tryz.results45,go_sem]) rfl ⟨some ⟨g3,0,none⟩,c3,by rw [zG0],?_,zL⟩
      exact Ow.of_blk (f:=Jaa) (s:=3) (B:=w.heap.size) (fun _ _=>rfl) qI1 (HBK.out.regrow qB1 qJ1) rfl hlen (by rw [zG0]; exact hlc) hcm
end
end Go.Proofs.YtjnooagaghdkdaaGreatDoor
namespace Go.Proofs.YtjnooagaghdkdaaGreatDoor
open Go.RowKit Go.ChangeShapes Go.WideShapes Go.ChangeAt
end Go.Proofs.YtjnooagaghdkdaaGreatDoor
namespace Go.Proofs.YtjnooagaghdkdaaGreatDoor
section
open Go.RowKit Go.Lib
def ltF (x y:File):Prop:=cmpB x.name y.name<0
theorem Jgb {l:List File} (hs:l.Pairwise ltF) (p:ByteArray) (k:Nat) (x:File) (hx:l[k]?=some x):k<posK (l.map File.name) p↔cmpB x.name p<0:=by
 have hk:k<l.length:=(zB4.1 hx).1;have hlt:∀ (k:Nat) (x:File),l[k]?=some x->ltK (l.map File.name) p k=decide (cmpB x.name p<0):=fun k x h=>JiW (g:=File.name) h p
 obtain ⟨m,hm,h1,h2⟩:=JlA (ltK (l.map File.name) p) l.length (by
  intro i j hij hj h;have hi:=zA7 (l:=l) (i:=i) qI1;have hj2:=zA7 (l:=l) (i:=j) hj;rw [hlt j _ hj2] at h;rw [hlt i _ hi];simp at h ⊢;exact JeY _ _ _ (zJ2.1 hs i j qI1 hj hij) h)
 have hp:posK (l.map File.name) p=m:=by
  unfold posK;rw [zG0];exact Jc5 _ m l.length 0 l.length qI1 (zB9 _) hm h1 h2
 rw [hp];constructor
 ·intro h
  have:=h1 k h;rw [hlt k x hx] at this;simpa using this
 ·intro h
  rcases zD2 k m with hlt2 | hge
  ·exact hlt2
  ·have:=h2 k hge hk
   rw [hlt k x hx] at this;simp at this;omega
theorem Jhu {l:List File} (hs:l.Pairwise ltF) {k:Nat} {x:File} (hx:l[k]?=some x):posK (l.map File.name) x.name=k/\isK (l.map File.name) x.name=true:=by
 have h1:¬ k<posK (l.map File.name) x.name:=by rw [Jgb hs x.name k x hx,Jbl]; omega
 have hk:k<l.length:=(zB4.1 hx).1;have h2:posK (l.map File.name) x.name=k:=by
  rcases zD2 (posK (l.map File.name) x.name) k with h | h
  ·have hy:=zA7 (l:=l) (i:=posK (l.map File.name) x.name) qI1
   have h3:cmpB l[posK (l.map File.name) x.name].name x.name<0:=by
    have:=zJ2.1 hs _ k qI1 hk h;rw [(zB4.1 hx).2] at this;exact this
   rw [<-Jgb hs x.name _ _ hy] at h3;omega
  ·omega
 exact ⟨h2,by rw [JeN h2 hx,Jbl]; rfl⟩
theorem JkY {l:List File} (p:ByteArray) (h:∀ x∈l,x.name≠p):isK (l.map File.name) p=false:=by
 rcases zD2 (posK (l.map File.name) p) l.length with hlt | hge
 ·have hy:=zA7 (l:=l) (i:=posK (l.map File.name) p) hlt
  rw [JeN rfl hy];have:=h _ (zI2 hlt);simp;intro h0;exact this (Jc3 h0)
 ·exact Jgm rfl qI1
theorem JmD {l:List File} (hs:l.Pairwise ltF) (p:ByteArray):∀ y∈l.take (posK (l.map File.name) p),cmpB y.name p<0:=by
 intro y hy;obtain ⟨k,hk⟩:=zF0.1 hy;rw [zM7] at hk;split at hk
 ·exact (Jgb hs p k y hk).1 qF1
 ·cases hk
theorem JmC {l:List File} (hs:l.Pairwise ltF) (p:ByteArray) (h:isK (l.map File.name) p=false):∀ y∈l.drop (posK (l.map File.name) p),cmpB p y.name<0:=by
 intro y hy;obtain ⟨k,hk⟩:=zF0.1 hy;rw [zE7] at hk;have h1:=mt (Jgb hs p _ y hk).2 qI1;have h2:cmpB y.name p≠0:=by
  intro h0;obtain rfl:=Jc3 h0;rw [(Jhu hs hk).2] at h;cases h
 exact Jic _ _ (by unfold cmpB at h1 h2; omega)
theorem Jle {l:List File} {p:ByteArray} (h:isK (l.map File.name) p=true):∃ hq:posK (l.map File.name) p<l.length,(l[posK (l.map File.name) p]'hq).name=p:=by
 have hq:=JbE h;refine ⟨hq,?_⟩;rw [JeN rfl (zA7 hq)] at h;exact Jc3 qA1
theorem Jb7 {l:List File} {p:ByteArray} (h:isK (l.map File.name) p=true):(Jar l p).name=p/\Jar l p∈l:=by
 obtain ⟨hq,hn⟩:=Jle h;have:Jar l p=l[posK (l.map File.name) p]:=by
  unfold Jar;rw [zE4,zA7 hq];rfl
 rw [this];exact ⟨hn,zI2 hq⟩
theorem JhP {l:List File} (hs:l.Pairwise ltF) {y:File} (hy:y∈l):isK (l.map File.name) y.name=true/\Jar l y.name=y:=by
 obtain ⟨k,hk⟩:=zF0.1 hy;obtain ⟨h1,h2⟩:=Jhu hs hk;refine ⟨h2,?_⟩;unfold Jar;rw [h1,zE4,hk];rfl
def putL (l:List File) (x:File):List File:=if isK (l.map File.name) x.name then l.set (posK (l.map File.name) x.name) x else l.take (posK (l.map File.name) x.name) ++ x :: l.drop (posK (l.map File.name) x.name)
theorem JgV {l:List File} {q:Nat} (hq:q<l.length) (x:File):l.set q x=l.take q ++ x :: l.drop (q+1):=by rw [zQ9,if_pos hq]
theorem Jj6 {l:List File} (hpw:l.Pairwise ltF) (x:File):(putL l x).Pairwise ltF:=by
 unfold putL;cases hk:isK (l.map File.name) x.name with
 | true=>
  obtain ⟨hq,he⟩:=Jle hk;rw [if_pos rfl,JgV hq];have e:l=l.take (posK (l.map File.name) x.name) ++ l[posK (l.map File.name) x.name] :: l.drop (posK (l.map File.name) x.name+1):=qQE;generalize l[posK (l.map File.name) x.name]=y at e he;generalize posK (l.map File.name) x.name=q at e;generalize l.take q=a at e ⊢;generalize l.drop (q+1)=b at e ⊢;rw [e] at hpw;simp only [zH3,zG6,zD9,forall_eq_or_imp] at hpw ⊢;unfold ltF at hpw ⊢;rw [<-he];exact hpw
 | false=>
  rw [if_neg qJ1];have e:=zD6 (posK (l.map File.name) x.name) l;have hb:=JmD hpw x.name;have ha:=JmC hpw x.name hk;generalize posK (l.map File.name) x.name=q at e hb ha;generalize l.take q=a at e hb ⊢;generalize l.drop q=b at e ha ⊢;rw [<-e] at hpw;simp only [zH3,zG6,zD9,forall_eq_or_imp] at hpw ⊢;unfold ltF at hpw ⊢;exact ⟨hpw.1,⟨ha,hpw.2.1⟩,fun y hy=>⟨hb y hy,hpw.2.2 y hy⟩⟩
theorem Jk4 {l:List File} (hpw:l.Pairwise ltF) (x y:File):y∈putL l x↔y=x\/(y∈l/\y.name≠x.name):=by
 unfold putL;cases hk:isK (l.map File.name) x.name with
 | true=>
  obtain ⟨hq,he⟩:=Jle hk;rw [if_pos rfl,JgV hq];have e:l=l.take (posK (l.map File.name) x.name) ++ l[posK (l.map File.name) x.name] :: l.drop (posK (l.map File.name) x.name+1):=qQE;generalize l[posK (l.map File.name) x.name]=z at e he;generalize posK (l.map File.name) x.name=q at e;generalize l.take q=a at e ⊢;generalize l.drop (q+1)=b at e ⊢;rw [e] at hpw;simp only [zH3,zG6,zD9,forall_eq_or_imp] at hpw;unfold ltF at hpw;rw [e];simp only [zE6,zD9];constructor
  ·rintro (h | h | h)
   ·exact .inr ⟨.inl h,fun hp=>by have:=(hpw.2.2 y h).1; rw [hp,he,Jbl] at this; omega⟩
   ·exact .inl h
   ·exact .inr ⟨.inr (.inr h),fun hp=>by have:=hpw.2.1.1 y h; rw [hp,he,Jbl] at this; omega⟩
  ·rintro (h | ⟨h | h | h,hp⟩)
   ·exact .inr (.inl h)
   ·exact .inl h
   ·exact absurd (h▸he) hp
   ·exact .inr (.inr h)
 | false=>
  rw [if_neg qJ1];have hm:∀ z,z∈l↔z∈l.take (posK (l.map File.name) x.name)\/z∈l.drop (posK (l.map File.name) x.name):=fun z=>by rw [<-zE6,zD6]
  have hn:y∈l->y.name≠x.name:=by
   intro h hp;obtain ⟨k,hk2⟩:=zF0.1 h;have:=(Jhu hpw hk2).2;rw [hp,hk] at this;cases this
  simp only [zE6,zD9];rw [hm];rw [hm] at hn;constructor
  ·rintro (h | h | h)
   ·exact .inr ⟨.inl h,hn (.inl h)⟩
   ·exact .inl h
   ·exact .inr ⟨.inr h,hn (.inr h)⟩
  ·rintro (h | ⟨h | h,_⟩)
   ·exact .inr (.inl h)
   ·exact .inl h
   ·exact .inr (.inr h)
def offL (l:List File) (p:ByteArray):List File:=l.take (posK (l.map File.name) p) ++ l.drop (posK (l.map File.name) p+1)
theorem Jj8 {l:List File} (hpw:l.Pairwise ltF) (p:ByteArray):(offL l p).Pairwise ltF:=by
 refine List.Pairwise.sublist ?_ hpw;unfold offL;have h1:(l.take (posK (l.map File.name) p) ++ l.drop (posK (l.map File.name) p)).Sublist l:=by rw [zD6]; exact List.Sublist.refl _
 refine List.Sublist.trans (List.Sublist.append (List.Sublist.refl _) ?_) h1;rw [<-zI9];exact List.drop_sublist _ _
theorem mem_offL {l:List File} (hpw:l.Pairwise ltF) {p:ByteArray} (hk:isK (l.map File.name) p=true) (y:File):y∈offL l p↔(y∈l/\y.name≠p):=by
 obtain ⟨hq,he⟩:=Jle hk;unfold offL;have e:l=l.take (posK (l.map File.name) p) ++ l[posK (l.map File.name) p] :: l.drop (posK (l.map File.name) p+1):=qQE;generalize l[posK (l.map File.name) p]=z at e he;generalize posK (l.map File.name) p=q at e;generalize l.take q=a at e ⊢;generalize l.drop (q+1)=b at e ⊢;rw [e] at hpw;simp only [zH3,zG6,zD9,forall_eq_or_imp] at hpw;unfold ltF at hpw;rw [e];simp only [zE6,zD9];constructor
 ·rintro (h | h)
  ·exact ⟨.inl h,fun hp=>by have:=(hpw.2.2 y h).1; rw [hp,he,Jbl] at this; omega⟩
  ·exact ⟨.inr (.inr h),fun hp=>by have:=hpw.2.1.1 y h; rw [hp,he,Jbl] at this; omega⟩
 ·rintro ⟨h | h | h,hp⟩
  ·exact .inl h
  ·exact absurd (h▸he) hp
  ·exact .inr h
theorem JbB (l:List File):JaH l=true↔l.length<=16/\(∀ x∈l,okF x=true)/\l.Pairwise ltF:=by
 unfold JaH;rw [zE5,List.all_eq_true,decide_eq_true_iff];refine and_congr Iff.rfl ?_;constructor
 ·intro h
  have hstep:∀ k x,l[k]?=some x->okF x=true/\∀ j y,k=j+1->l[j]?=some y->cmpB y.name x.name<0:=by
   intro k x hx;have h1:=h k (zI7.2 (zB4.1 hx).1);unfold Jfv at h1;rw [hx] at h1;simp only [zE5] at h1;refine ⟨h1.1,fun j y hj hy=>?_⟩
   subst hj;have h2:=h1.2;simp only [hy] at h2;simpa using h2
  refine ⟨fun x hx=>?_,?_⟩
  ·obtain ⟨k,hk⟩:=zF0.1 hx
   exact (hstep k x hk).1
  ·have hadj:∀ d i x y,l[i]?=some x->l[i+d+1]?=some y->cmpB x.name y.name<0:=by
    intro d
    induction d with
    | zero=>intro i x y hx hy; exact (hstep (i+1) y hy).2 i x rfl hx
    | succ d ih=>
     intro i x y hx hy;have hlt:=(zB4.1 hy).1;have hz:=zA7 (l:=l) (i:=i+d+1) qI1;exact JeY _ _ _ (ih i x _ hx hz) ((hstep (i+d+1+1) y hy).2 (i+d+1) _ rfl hz)
   rw [zJ2];intro i j hi hj hij;exact hadj (j - i - 1) i _ _ (zA7 hi) (by rw [show i+(j - i - 1)+1=j from by omega]; exact zA7 hj)
 ·rintro ⟨hok,hs⟩ i hi
  have hi2:=zI7.1 hi;have hx:=zA7 hi2;unfold Jfv;simp only [hx,zE5];refine ⟨hok _ (zI2 hi2),?_⟩;cases i with
  | zero=>rfl
  | succ j=>
   have hy:=zA7 (l:=l) (i:=j) qI1;simp only [hy];exact zB0 (zJ2.1 hs j (j+1) qI1 hi2 qI1)
theorem JhF {l:List File} (hg:JaH l=true) {x:File} (hx:x∈l):JaR l x.name=0/\Jbw l x.name=x.safe ++ x.tail:=by
 have:=JhP ((JbB l).1 hg).2.2 hx;unfold JaR Jbw;rw [hg,this.1,this.2];exact ⟨rfl,rfl⟩
theorem Jnt {l:List File} (hg:JaH l=true) {p:ByteArray} (h:∀ x∈l,x.name≠p):JaR l p=7/\Jbw l p=⟨#[]⟩:=by
 have:=JkY p h;unfold JaR Jbw;rw [hg,this];exact ⟨rfl,rfl⟩
theorem Jf9 {l:List File} (hl:JaH l=true) {x:File} (hx:okF x=true) (hn:isK (l.map File.name) x.name=true\/l.length<16):JaH (putL l x)=true:=by
 obtain ⟨h1,h2,h3⟩:=(JbB l).1 hl;refine (JbB _).2 ⟨?_,?_,Jj6 h3 x⟩
 ·unfold putL
  split
  ·rw [zE9]; exact h1
  ·rename_i hk
   rcases hn with h | h
   ·exact absurd h hk
   ·simp
    omega
 ·intro y hy
  rcases (Jk4 h3 x y).1 hy with rfl | ⟨h,_⟩
  ·exact hx
  ·exact h2 y h
theorem JnG {l:List File} (hl:JaH l=true) {p:ByteArray} (hk:isK (l.map File.name) p=true):JaH (offL l p)=true:=by
 obtain ⟨h1,h2,h3⟩:=(JbB l).1 hl;refine (JbB _).2 ⟨?_,?_,Jj8 h3 p⟩
 ·unfold offL
  simp;omega
 ·intro y hy
  exact h2 y ((mem_offL h3 hk y).1 hy).1
end
section
open Go.RowKit Go.ChangeShapes Go.WideShapes Go.ChangeAt
def Jbt (l:List File) (p s:ByteArray):Int:=if JaH l then (if JaI (bs p) then (if isK (l.map File.name) p then (if (Jar l p).safe.size+(Jar l p).tail.size+s.size<=1048576 then 0 else 1) else (if 16<=l.length then 6 else (if s.size<=1048576 then 0 else 1))) else 2) else 3
def JbH (l:List File) (p s:ByteArray):List File:=if JaH l then (if JaI (bs p) then (if isK (l.map File.name) p then (if (Jar l p).safe.size+(Jar l p).tail.size+s.size<=1048576 then l.set (posK (l.map File.name) p) ⟨(Jar l p).name,(Jar l p).safe,(Jar l p).tail ++ s⟩ else []) else (if 16<=l.length then [] else (if s.size<=1048576 then l.take (posK (l.map File.name) p) ++ ⟨p,⟨#[]⟩,s⟩ :: l.drop (posK (l.map File.name) p) else []))) else []) else []
theorem JkO {l:List File} {J:List Value} {k:Nat} {x:File} (hx:l[k]?=some x) (t:ByteArray) :
  (l.flatMap Jaa ++ J).set (k*3+2) (.string t)=(l.set k ⟨x.name,x.safe,t⟩).flatMap Jaa ++ J:=by
 rw [<-JfC hx x.safe t];congr 1;have hk:k<l.length:=(zB4.1 hx).1;have hlen:(l.flatMap Jaa).length=l.length*3:=zC5 (fun y _=>rfl)
 have h0:(l.flatMap Jaa)[k*3+1]?=some (.string x.safe):=JbF (f:=Jaa) (s:=3) (fun y _=>rfl) hx rfl
 apply zO2;intro i;rw [zK1];split
 ·rename_i e
  subst e;rw [if_pos (by rw [zA9]; omega),zF1 qw0,h0]
 ·rfl
def InsFs (l:List File) (W:World) (r:Ending) (w':World):Prop:=∃ A c ext d,r=.returned (.slice A l.length c)/\w'=grow W ext d/\Ow Jaa 3 128 w' W.heap.size (.slice A l.length c) l
theorem Jg8 {L:List File} {W w1:World} {v:Value} {k:Nat} {l:List File} {x:File} (hb1:Below W.heap.size W w1) (hown:Ow Jaa 3 128 w1 W.heap.size v l) (hk:k<=l.length) (hn:(l.length+1)*48<=140737488355328) (vb:Nat) (hvb:vb=w1.heap.size) (hL:L=l.take k ++ x :: l.drop k) :
  Calls Tryz.prog 96 #[v,.int .i64 k,.slice (some ⟨vb,0,none⟩) 1 1] (w1.alloc (.cells #[.string x.name,.string x.safe,.string x.tail] 128)) (InsFs L W):=by
 subst hL;have hb:Below W.heap.size W (w1.alloc (.cells #[.string x.name,.string x.safe,.string x.tail] 128)):=hb1.alloc hb1.size _;have ho:Ow Jaa 3 128 (w1.alloc (.cells #[.string x.name,.string x.safe,.string x.tail] 128)) W.heap.size v l:=hown.alloc _;refine (insFile v k l x _ W.heap.size vb ho hk ?_ ?_ hb.size hn).mono ?_
 ·subst hvb
  have:=heap_alloc_new w1 (.cells #[.string x.name,.string x.safe,.string x.tail] 128);exact this
 ·intro hc
  have h2:=(hown.own_in hc).2;omega
 ·rintro r w' ⟨A,c,rfl,h1,h2,h3⟩
  have hl:(l.take k ++ x :: l.drop k).length=l.length+1:=qWE;obtain ⟨ext,d,rfl⟩:=Jav hb h2 (fun k hk=>(hown.own_in hk).1)
  exact ⟨A,c,ext,d,by rw [hl],rfl,by rw [hl]; exact h1⟩
theorem Jkq (v:Value) (l:List File) (p s:ByteArray) (w:World) (h:Sl Jaa 3 w v l) (hz:∀ x∈l,x.sized) (hp:p.size<=9223372036854775807) (hs:s.size<=140737488355328) :
  Calls Tryz.prog 67 #[.agg #[v],.string p,.string s] w (JgP (JbH l p s) (Jbt l p s) w):=by
 obtain ⟨A,c,rfl,hc1,hc2⟩:=h.form;have H:=zA0 h;have HG:=zA0 (fun (W:World) (hs:Sl Jaa 3 W (.slice A l.length c) l)=>Jhn _ l W hs hz)
 have HN:=zA0 (fun (W:World)=>JcW p W hp)
 unfold JbH Jbt;cases hg:JaH l with
 | false=>
  rw [hg] at HG;clear h hz hg;simp only [zC6,if_false];go_enter Tryz.func67,Tryz.ntmps67
  go_wp2_with
   (first | (go_at_call 62; refine zc (HG.out _ (H.out.below zL)) (fun ext d=>?_)) | (go_at_call 91; refine zc (HF.out _ _ (H.out.below zL)) (fun ext2 d2=>?_)) | (go_at_call 43; refine (HN.out _).mono ?_; rintro e w1 ⟨rfl,rfl⟩; skip))
  refine zA1 (v:=.tuple #[.agg #[.slice none 0 0],.int .i64 3]) (by simp [results,Tryz.results67,go_sem]) rfl ⟨none,0,rfl,Ow.nil _ _ _ _ _,zL⟩
 | true=>
  rw [hg] at HG;have hl16:=Jc1 hg;clear hg;simp only [if_true];cases hnm:JaI (bs p) with
  | false=>
   rw [hnm] at HN;clear h hz hnm;simp only [zC6,if_false];go_enter Tryz.func67,Tryz.ntmps67
   go_wp2_with
    (first | (go_at_call 62; refine zc (HG.out _ (H.out.below zL)) (fun ext d=>?_)) | (go_at_call 91; refine zc (HF.out _ _ (H.out.below zL)) (fun ext2 d2=>?_)) | (go_at_call 43; refine (HN.out _).mono ?_; rintro e w1 ⟨rfl,rfl⟩; skip))
   refine zA1 (v:=.tuple #[.agg #[.slice none 0 0],.int .i64 2]) (by simp [results,Tryz.results67,go_sem]) rfl ⟨none,0,rfl,Ow.nil _ _ _ _ _,zL⟩
  | true=>
   rw [hnm] at HN;clear hnm;simp only [if_true];have hfind:=fun (W:World) (v:Value) (hs:Sl Jaa 3 W v l)=>Jjr v l p W hs qI1
   cases hk:isK (l.map File.name) p with
   | true=>
    rw [hk] at hfind;have HF:=zA0 hfind;have hq:=JbE hk;have hx:l[posK (l.map File.name) p]?=some (Jar l p):=by
     unfold Jar;rw [zE4,zA7 hq];rfl
    obtain ⟨z0,z1,z2⟩:=hz _ (zD4 hx);generalize Jar l p=x at *;generalize posK (l.map File.name) p=q at *;have HX:=zA0 hx;clear h hz hk hfind hx;simp only [if_true]
    by_cases hl:x.safe.size+x.tail.size+s.size<=1048576
    ·have hli:(decide ((1048576:Int)<(x.safe.size:Int)+(x.tail.size:Int)+(s.size:Int)))=false:=zA8 qI1
     simp only [if_pos hl];clear hl;go_enter Tryz.func67,Tryz.ntmps67
     go_wp2_with
      (first | (go_at_call 62; refine zc (HG.out _ (H.out.below zL)) (fun ext d=>?_)) | (go_at_call 91; refine zc (HF.out _ _ (H.out.below zL)) (fun ext2 d2=>?_)) | (go_at_call 43; refine (HN.out _).mono ?_; rintro e w1 ⟨rfl,rfl⟩; skip))
     refine (Jcl _ l _ (H.out.below zL) qI1 qs0).mono ?_;rintro e w3 ⟨A3,c3,rfl,ho3,hb3⟩;obtain ⟨ext3,d3,rfl⟩:=zA2 _ hb3;obtain ⟨g3,J,rfl,hg3,hbk3,hcl,hlc,hcm,_⟩:=ho3.blk qI1;have hg4:w.heap.size+1+1<=g3:=qjE;have hbk4:∀ d',Bk (grow (grow (grow ((w.alloc (.cells #[.slice (some ⟨g3,0,none⟩) l.length c3] 65)).alloc (.cells #[.slice none 0 0] 65)) ext d) ext2 d2) ext3 d') g3 (l.flatMap Jaa ++ J) 128:=fun d'=>hbk3.regrow qx0 qJ1
     obtain ⟨r0,r1,r2⟩:=Jbq (hbk4 (d3+1)) HX.out;obtain ⟨s0,s1,s2⟩:=Jbq (hbk4 (d3+1)) HX.out;have f2:=(hbk4 (d3+1)).frozen (q*3+2);have HBK:=zA0 hbk4;have HCL:=zA0 hcl;clear hb3 ho3 hbk3 hbk4 hg3 hcl;go_wp2_with fail;go_region;go_wp2_with fail;have hlen:((l.set q ⟨x.name,x.safe,x.tail ++ s⟩).flatMap Jaa ++ J).length=c3*3:=by
      rw [<-HCL.out,zA9,zA9,zC5 (f:=Jaa) (s:=3) (fun _ _=>rfl),zC5 (f:=Jaa) (s:=3) (fun _ _=>rfl),zE9]
     have n1:¬ w.heap.size+1=g3:=qCE;have n2:¬ g3=w.heap.size+1:=qCE;refine zA1 (v:=.tuple #[.agg #[.slice (some ⟨g3,0,none⟩) l.length c3],.int .i64 0]) (by simp [results,Tryz.results67,go_sem]) rfl ⟨some ⟨g3,0,none⟩,c3,by rw [zE9],?_,?_⟩
     ·refine Ow.far (Ow.of_blk (f:=Jaa) (s:=3) (B:=w.heap.size) (fun _ _=>rfl) qI1 ?_ rfl hlen qb0 hcm) qI1
      have:=(HBK.out (d3+1)).put (q*3+2) (.string (x.tail ++ s));rw [JkO HX.out] at this;exact this
     ·refine Below.put (Below.put ?_ ?_) ?_
      ·exact zL
      all_goals omega
    ·have hli:(decide ((1048576:Int)<(x.safe.size:Int)+(x.tail.size:Int)+(s.size:Int)))=true:=zB0 qI1
     simp only [if_neg hl];clear hl;go_enter Tryz.func67,Tryz.ntmps67
     go_wp2_with
      (first | (go_at_call 62; refine zc (HG.out _ (H.out.below zL)) (fun ext d=>?_)) | (go_at_call 91; refine zc (HF.out _ _ (H.out.below zL)) (fun ext2 d2=>?_)) | (go_at_call 43; refine (HN.out _).mono ?_; rintro e w1 ⟨rfl,rfl⟩; skip))
     refine (Jcl _ l _ (H.out.below zL) qI1 qs0).mono ?_;rintro e w3 ⟨A3,c3,rfl,ho3,hb3⟩;obtain ⟨ext3,d3,rfl⟩:=zA2 _ hb3;obtain ⟨g3,J,rfl,hg3,hbk3,hcl,hlc,hcm,_⟩:=ho3.blk qI1;have hg4:w.heap.size+1+1<=g3:=qjE;have hbk4:∀ d',Bk (grow (grow (grow ((w.alloc (.cells #[.slice (some ⟨g3,0,none⟩) l.length c3] 65)).alloc (.cells #[.slice none 0 0] 65)) ext d) ext2 d2) ext3 d') g3 (l.flatMap Jaa ++ J) 128:=fun d'=>hbk3.regrow qx0 qJ1
     obtain ⟨r0,r1,r2⟩:=Jbq (hbk4 (d3+1)) HX.out;have HBK:=zA0 hbk4;have HCL:=zA0 hcl;clear hb3 ho3 hbk3 hbk4 hg3 hcl;go_wp2_with fail;go_region;go_wp2_with fail;refine zA1 (v:=.tuple #[.agg #[.slice none 0 0],.int .i64 1]) (by simp [results,Tryz.results67,go_sem]) rfl ⟨none,0,rfl,Ow.nil _ _ _ _ _,zL⟩
   | false=>
    rw [hk] at hfind;have HF:=zA0 hfind;have hq:posK (l.map File.name) p<=l.length:=by unfold posK; have:=Jlz (ltK (l.map File.name) p) (l.map File.name).length; simpa using this
    generalize posK (l.map File.name) p=q at *;clear h hz hk hfind;simp only [zC6,if_false]
    by_cases h16:16<=l.length
    ·have h16i:(decide ((16:Int)<=(l.length:Int)))=true:=zB0 qI1
     simp only [if_pos h16];go_enter Tryz.func67,Tryz.ntmps67
     go_wp2_with
      (first | (go_at_call 62; refine zc (HG.out _ (H.out.below zL)) (fun ext d=>?_)) | (go_at_call 91; refine zc (HF.out _ _ (H.out.below zL)) (fun ext2 d2=>?_)) | (go_at_call 43; refine (HN.out _).mono ?_; rintro e w1 ⟨rfl,rfl⟩; skip))
     refine zA1 (v:=.tuple #[.agg #[.slice none 0 0],.int .i64 6]) (by simp [results,Tryz.results67,go_sem]) rfl ⟨none,0,rfl,Ow.nil _ _ _ _ _,zL⟩
    ·have h16i:(decide ((16:Int)<=(l.length:Int)))=false:=zA8 qI1
     simp only [if_neg h16];generalize hL:l.take q ++ (⟨p,⟨#[]⟩,⟨#[]⟩⟩:File) :: l.drop q=L;have hX:L[q]?=some (⟨p,⟨#[]⟩,⟨#[]⟩⟩:File):=by rw [<-hL,zJ4 qB1]; simp [zF8 hq]
     have hX2:L.set q ⟨p,⟨#[]⟩,s⟩=l.take q ++ (⟨p,⟨#[]⟩,s⟩:File) :: l.drop q:=by rw [<-hL,zM4 _ _ qB1]; simp [zF8 hq]
     have hLl:0<L.length:=Nat.lt_of_le_of_lt (zB9 q) (zB4.1 hX).1;have HL:=zA0 hL;have HX:=zA0 hX;rw [<-hX2];clear hL hX hX2
     by_cases hl:s.size<=1048576
     ·have hli:(decide ((1048576:Int)<(s.size:Int)))=false:=zA8 qI1
      simp only [if_pos hl];clear hl;go_enter Tryz.func67,Tryz.ntmps67
      go_wp2_with
       (first | (go_at_call 62; refine zc (HG.out _ (H.out.below zL)) (fun ext d=>?_)) | (go_at_call 91; refine zc (HF.out _ _ (H.out.below zL)) (fun ext2 d2=>?_)) | (go_at_call 43; refine (HN.out _).mono ?_; rintro e w1 ⟨rfl,rfl⟩; skip))
      refine (Jcl _ l _ (H.out.below zL) qI1 qs0).mono ?_;rintro e w3 ⟨A3,c3,rfl,ho3,hb3⟩;obtain ⟨ext3,d3,rfl⟩:=zA2 _ hb3;have HO3:=zA0 ho3;clear ho3;go_wp2_with fail;refine (Jg8 (x:=⟨p,⟨#[]⟩,⟨#[]⟩⟩) (W:=((w.alloc (.cells #[.slice A3 l.length c3] 65)).alloc (.cells #[.slice none 0 0] 65))) zL ((HO3.out.regrow (zA3 _) qJ1).mono qB1) hq qI1 _ qJ1 HL.out.symm).mono ?_;rintro e w4 ⟨A4,c4,ext4,d4,rfl,rfl,ho4⟩;obtain ⟨g3,J,rfl,hg3,hbk3,hcl,hlc,hcm,_⟩:=ho4.blk hLl;have hg4:w.heap.size+1+1<=g3:=qjE;have hbk4:∀ d',Bk (grow ((w.alloc (.cells #[.slice (some ⟨g3,0,none⟩) L.length c4] 65)).alloc (.cells #[.slice none 0 0] 65)) ext4 d') g3 (L.flatMap Jaa ++ J) 128:=fun d'=>hbk3.regrow qx0 qJ1
      obtain ⟨r0,r1,r2⟩:=Jbq (hbk4 (d4+1)) HX.out;have f2:=(hbk4 (d4+1)).frozen (q*3+2);have hqL:q<L.length:=(zB4.1 HX.out).1;have HBK:=zA0 hbk4;have HCL:=zA0 hcl;clear ho4 hbk3 hbk4 hg3 hcl;go_wp2_with fail;go_region;go_wp2_with fail;have hlen:((L.set q ⟨p,⟨#[]⟩,s⟩).flatMap Jaa ++ J).length=c4*3:=by
       rw [<-HCL.out,zA9,zA9,zC5 (f:=Jaa) (s:=3) (fun _ _=>rfl),zC5 (f:=Jaa) (s:=3) (fun _ _=>rfl),zE9]
      have n1:¬ w.heap.size+1=g3:=qCE;have n2:¬ g3=w.heap.size+1:=qCE;refine zA1 (v:=.tuple #[.agg #[.slice (some ⟨g3,0,none⟩) L.length c4],.int .i64 0]) (by simp [results,Tryz.results67,go_sem]) rfl ⟨some ⟨g3,0,none⟩,c4,by rw [zE9],?_,?_⟩
      ·refine Ow.far (Ow.of_blk (f:=Jaa) (s:=3) (B:=w.heap.size) (fun _ _=>rfl) qI1 ?_ rfl hlen qb0 hcm) qI1
       have:=(HBK.out (d4+1)).put (q*3+2) (.string s);rw [JkO HX.out] at this;exact this
      ·refine Below.put (Below.put ?_ ?_) ?_
       ·exact zL
       all_goals omega
     ·have hli:(decide ((1048576:Int)<(s.size:Int)))=true:=zB0 qI1
      simp only [if_neg hl];clear hl;go_enter Tryz.func67,Tryz.ntmps67
      go_wp2_with
       (first | (go_at_call 62; refine zc (HG.out _ (H.out.below zL)) (fun ext d=>?_)) | (go_at_call 91; refine zc (HF.out _ _ (H.out.below zL)) (fun ext2 d2=>?_)) | (go_at_call 43; refine (HN.out _).mono ?_; rintro e w1 ⟨rfl,rfl⟩; skip))
      refine (Jcl _ l _ (H.out.below zL) qI1 qs0).mono ?_;rintro e w3 ⟨A3,c3,rfl,ho3,hb3⟩;obtain ⟨ext3,d3,rfl⟩:=zA2 _ hb3;have HO3:=zA0 ho3;clear ho3;go_wp2_with fail;refine (Jg8 (x:=⟨p,⟨#[]⟩,⟨#[]⟩⟩) (W:=((w.alloc (.cells #[.slice A3 l.length c3] 65)).alloc (.cells #[.slice none 0 0] 65))) zL ((HO3.out.regrow (zA3 _) qJ1).mono qB1) hq qI1 _ qJ1 HL.out.symm).mono ?_;rintro e w4 ⟨A4,c4,ext4,d4,rfl,rfl,ho4⟩;obtain ⟨g3,J,rfl,hg3,hbk3,hcl,hlc,hcm,_⟩:=ho4.blk hLl;have hg4:w.heap.size+1+1<=g3:=qjE;have hbk4:∀ d',Bk (grow ((w.alloc (.cells #[.slice (some ⟨g3,0,none⟩) L.length c4] 65)).alloc (.cells #[.slice none 0 0] 65)) ext4 d') g3 (L.flatMap Jaa ++ J) 128:=fun d'=>hbk3.regrow qx0 qJ1
      obtain ⟨r0,r1,r2⟩:=Jbq (hbk4 (d4+1)) HX.out;have f2:=(hbk4 (d4+1)).frozen (q*3+2);have hqL:q<L.length:=(zB4.1 HX.out).1;have HBK:=zA0 hbk4;have HCL:=zA0 hcl;clear ho4 hbk3 hbk4 hg3 hcl;go_wp2_with fail;go_region;go_wp2_with fail;refine zA1 (v:=.tuple #[.agg #[.slice none 0 0],.int .i64 1]) (by simp [results,Tryz.results67,go_sem]) rfl ⟨none,0,rfl,Ow.nil _ _ _ _ _,zL⟩
end
end Go.Proofs.YtjnooagaghdkdaaGreatDoor
