/-L-/
import Derived.Test.YtjnooagaghdkdaaGreatDoorZ12
set_option maxHeartbeats 10000000
set_option maxRecDepth 100000
set_option linter.all false
namespace Go.Proofs.YtjnooagaghdkdaaGreatDoor
section
open Go.RowKit Go.ChangeShapes Go.WideShapes Go.ChangeAt
def JdH (keep:Nat) (x:File):File:=⟨x.name,x.safe ++ x.tail.extract 0 (min keep x.tail.size),⟨#[]⟩⟩
def Jei (keep:Nat) (l:List File) (k:Nat):List File:=(l.take k).map (JdH keep) ++ l.drop k
theorem JoV {keep:Nat} {l:List File} {k:Nat} {x:File} (hx:l[k]?=some x):(Jei keep l k)[k]?=some x/\(Jei keep l k).set k (JdH keep x)=Jei keep l (k+1):=by
 have hk:k<l.length:=(zB3.1 hx).1;have hl:((l.take k).map (JdH keep)).length=k:=by rw [zG0,zC2,zF8 qH1]
 have hd:l.drop k=x :: l.drop (k+1):=by
  have:l[k]=x:=(zB3.1 hx).2;rw [<-this,zQ1]
 unfold Jei;constructor
 ·rw [zI5 qH1,hl,zI6,hd]; rfl
 ·rw [zM3 _ _ qH1,hl,zI6,hd,zF7,hx]
  simp
theorem JmP (keep:Nat) (l:List File):Jei keep l l.length=l.map (JdH keep):=by unfold Jei; simp
def Jbh (l:List File) (keep:Int):Int:=if JaL l then (if keep<0 then 3 else 0) else 3
def JdG (l:List File) (keep:Int):List File:=if JaL l then (if keep<0 then [] else l.map (JdH keep.toNat)) else []
theorem dkCrash (v:Value) (l:List File) (keep:Int) (w:World) (h:Sl Jaa 3 w v l) (hz:∀ x∈l,x.sized) :
  Calls Tryz.prog 45 #[.agg #[v],.int .i64 keep] w (Jg6 (JdG l keep) (Jbh l keep) w):=by
 obtain ⟨A,c,rfl,hc1,hc2⟩:=h.form;have H:=zA0 h;have HG:=zA0 (fun (W:World) (hs:Sl Jaa 3 W (.slice A l.length c) l)=>JhH _ l W hs hz)
 have HZ:=zA0 hz;unfold JdG Jbh;cases hg:JaL l with
 | false=>
  rw [hg] at HG;clear h hz hg;simp only [zC7,if_false];go_enter Tryz.func45,Tryz.ntmps45
  go_wp2_with
   (first | (go_at_call 62; refine zc (HG.out _ (H.out.below zL)) (fun ext d=>?_)))
  refine zA1 (v:=.tuple #[.agg #[.slice none 0 0],.int .i64 3]) (by simp [results,Tryz.results45,go_sem]) rfl ⟨none,0,rfl,Ow.nil _ _ _ _ _,zL⟩
 | true=>
  rw [hg] at HG;have hl16:=Jc3 hg;clear h hz hg;simp only [if_true]
  by_cases hk:keep<0
  ·simp only [if_pos hk]
   go_enter Tryz.func45,Tryz.ntmps45
   go_wp2_with
    (first | (go_at_call 62; refine zc (HG.out _ (H.out.below zL)) (fun ext d=>?_)))
   refine zA1 (v:=.tuple #[.agg #[.slice none 0 0],.int .i64 3]) (by simp [results,Tryz.results45,go_sem]) rfl ⟨none,0,rfl,Ow.nil _ _ _ _ _,zL⟩
  ·simp only [if_neg hk]
   obtain ⟨m,rfl⟩:=zG8 (show 0<=keep by omega)
   have hmn:(decide ((m:Int)<0))=false:=by simp
   rw [zG9];clear hk;go_enter Tryz.func45,Tryz.ntmps45
   go_wp2_with
    (first | (go_at_call 62; refine zc (HG.out _ (H.out.below zL)) (fun ext d=>?_)))
   refine (Jcp _ l _ (H.out.below zL) qH1 qs0).mono ?_;rintro e w3 ⟨A3,c3,rfl,ho3,hb3⟩;obtain ⟨ext3,d3,rfl⟩:=zA2 _ hb3;rcases zK3 l.length with h0 | h0
   ·obtain rfl:=zK2 h0
    have HO3:=zA0 ho3;clear hb3 ho3;simp only [zG6];go_wp2_with fail;refine wp_loop_rounds 1 ?_;rw [rounds_succ];go_wp2_with fail;refine zA1 (v:=.tuple #[.agg #[.slice A3 0 c3],.int .i64 0]) (by simp [results,Tryz.results45,go_sem]) rfl ⟨A3,c3,rfl,?_,zL⟩
    exact (HO3.out.regrow (zA3 _) qI1).mono qB1
   ·obtain ⟨g3,J,rfl,hg3,hbk3,hcl,hlc,hcm,_⟩:=ho3.blk h0
    have hg4:w.heap.size+1+1<=g3:=qkE;have HB3:=zA0 hbk3;have HG3:=zA0 hg3;have HCL:=zA0 hcl;clear hb3 ho3 hbk3 hg3 hcl;go_wp2_with fail;go_loopw [21] (fun i wr=>∃ (k:Nat) (ext:Array Obj) (d:Nat),k<=l.length/\i=.int .i64 k/\wr=grow ((w.alloc (.cells #[.slice (some ⟨g3,0,none⟩) l.length c3] 65)).alloc (.cells #[.slice none 0 0] 65)) ext d/\Hid (Bk wr g3 ((Jei m l k).flatMap Jaa ++ J) 128)) (fun i _=>l.length - (intOf i).toNat)
    case atStart=>exact ⟨0,_,_,zB9 _,rfl,Jav zL,zA0 (by simpa [Jei] using HB3.out.regrow HG3.out qI1)⟩
    case round=>
     obtain ⟨k,ext5,d5,hk,rfl,rfl,hbk⟩:=hrel
     by_cases hlt:k<l.length
     ·have hx:l[k]?=some (l[k]'hlt):=zA8 _
      obtain ⟨z0,z1,z2⟩:=HZ.out _ (zD3 hx);obtain ⟨hat,hset⟩:=JoV (keep:=m) hx;generalize l[k]'hlt=x at *;have hbk1:Bk (grow ((w.alloc (.cells #[.slice (some ⟨g3,0,none⟩) l.length c3] 65)).alloc (.cells #[.slice none 0 0] 65)) ext5 (d5+1)) g3 ((Jei m l k).flatMap Jaa ++ J) 128:=hbk.out;obtain ⟨r0,r1,r2⟩:=Jby hbk1 hat;have f1:=hbk1.frozen (k*3+1);have f2:=hbk1.frozen (k*3+2);have HBK1:=zA0 hbk1;clear hbk1;have HAT:=zA0 hat;have HSET:=zA0 hset;clear hx hat hset;go_wp2_with fail;go_region;have hb6:Below ((w.alloc (.cells #[.slice (some ⟨g3,0,none⟩) l.length c3] 65)).alloc (.cells #[.slice none 0 0] 65)).heap.size ((w.alloc (.cells #[.slice (some ⟨g3,0,none⟩) l.length c3] 65)).alloc (.cells #[.slice none 0 0] 65)) (((grow ((w.alloc (.cells #[.slice (some ⟨g3,0,none⟩) l.length c3] 65)).alloc (.cells #[.slice none 0 0] 65)) ext5 (d5+1)).setCell ⟨g3,k*3+1,none⟩ (.string (x.safe ++ x.tail.extract 0 (min (m:Int) (x.tail.size:Int)).toNat))).setCell ⟨g3,k*3+2,none⟩ (.string ⟨#[]⟩)):=Below.put (Below.put zL qB1) qB1;have hbk6:Bk (((grow ((w.alloc (.cells #[.slice (some ⟨g3,0,none⟩) l.length c3] 65)).alloc (.cells #[.slice none 0 0] 65)) ext5 (d5+1)).setCell ⟨g3,k*3+1,none⟩ (.string (x.safe ++ x.tail.extract 0 (min (m:Int) (x.tail.size:Int)).toNat))).setCell ⟨g3,k*3+2,none⟩ (.string ⟨#[]⟩)) g3 ((Jei m l (k+1)).flatMap Jaa ++ J) 128:=by
       have:=(HBK1.out.put (k*3+1) (.string (x.safe ++ x.tail.extract 0 (min (m:Int) (x.tail.size:Int)).toNat))).put (k*3+2) (.string ⟨#[]⟩);rw [JfK HAT.out] at this;rw [<-HSET.out];unfold JdH;rw [show (min (m:Int) (x.tail.size:Int)).toNat=min m x.tail.size from by omega] at this ⊢
       exact this
      generalize (((grow ((w.alloc (.cells #[.slice (some ⟨g3,0,none⟩) l.length c3] 65)).alloc (.cells #[.slice none 0 0] 65)) ext5 (d5+1)).setCell ⟨g3,k*3+1,none⟩ (.string (x.safe ++ x.tail.extract 0 (min (m:Int) (x.tail.size:Int)).toNat))).setCell ⟨g3,k*3+2,none⟩ (.string ⟨#[]⟩))=w6 at hb6 hbk6 ⊢;obtain ⟨ext6,d6,rfl⟩:=zA2 _ hb6;have HBK6:=zA0 hbk6;clear hb6 hbk6 hbk HBK1 r0 r1 r2 f1 f2;go_wp2_with fail;go_roundw
      case rel=>exact ⟨k+1,_,_,by omega,by go_num,rfl,HBK6⟩
      case measure=>simp [intOf]; omega
     ·have hk':k=l.length:=by omega
      subst hk';have hbk':=hbk.out;rw [JmP] at hbk';have HBK:=zA0 hbk';clear hbk hbk';go_wp2_with fail;have hlen:((l.map (JdH m)).flatMap Jaa ++ J).length=c3*3:=by
       rw [<-HCL.out,zA9,zA9,zC5 (f:=Jaa) (s:=3) (fun _ _=>rfl),zC5 (f:=Jaa) (s:=3) (fun _ _=>rfl),zG0]
      refine zA1 (v:=.tuple #[.agg #[.slice (some ⟨g3,0,none⟩) l.length c3],.int .i64 0]) (by simp [results,Tryz.results45,go_sem]) rfl ⟨some ⟨g3,0,none⟩,c3,by rw [zG0],?_,zL⟩
      exact Ow.of_blk (f:=Jaa) (s:=3) (B:=w.heap.size) (fun _ _=>rfl) qH1 (HBK.out.regrow qB1 qI1) rfl hlen (by rw [zG0]; exact hlc) hcm
end
end Go.Proofs.YtjnooagaghdkdaaGreatDoor
namespace Go.Proofs.YtjnooagaghdkdaaGreatDoor
open Go.RowKit Go.ChangeShapes Go.WideShapes Go.ChangeAt
end Go.Proofs.YtjnooagaghdkdaaGreatDoor
namespace Go.Proofs.YtjnooagaghdkdaaGreatDoor
section
open Go.RowKit Go.Lib
def ltF (x y:File):Prop:=cmpB x.name y.name<0
theorem Jgn {l:List File} (hs:l.Pairwise ltF) (p:ByteArray) (k:Nat) (x:File) (hx:l[k]?=some x):k<posK (l.map File.name) p↔cmpB x.name p<0:=by
 have hk:k<l.length:=(zB3.1 hx).1;have hlt:∀ (k:Nat) (x:File),l[k]?=some x->ltK (l.map File.name) p k=decide (cmpB x.name p<0):=fun k x h=>Jjj (g:=File.name) h p
 obtain ⟨m,hm,h1,h2⟩:=JlV (ltK (l.map File.name) p) l.length (by
  intro i j hij hj h;have hi:=zA8 (l:=l) (i:=i) qH1;have hj2:=zA8 (l:=l) (i:=j) hj;rw [hlt j _ hj2] at h;rw [hlt i _ hi];simp at h ⊢;exact Jfb _ _ _ (zJ4.1 hs i j qH1 hj hij) h)
 have hp:posK (l.map File.name) p=m:=by
  unfold posK;rw [zG0];exact Jdb _ m l.length 0 l.length qH1 (zB9 _) hm h1 h2
 rw [hp];constructor
 ·intro h
  have:=h1 k h;rw [hlt k x hx] at this;simpa using this
 ·intro h
  rcases zD1 k m with hlt2 | hge
  ·exact hlt2
  ·have:=h2 k hge hk
   rw [hlt k x hx] at this;simp at this;omega
theorem JhO {l:List File} (hs:l.Pairwise ltF) {k:Nat} {x:File} (hx:l[k]?=some x):posK (l.map File.name) x.name=k/\isK (l.map File.name) x.name=true:=by
 have h1:¬ k<posK (l.map File.name) x.name:=by rw [Jgn hs x.name k x hx,Jbr]; omega
 have hk:k<l.length:=(zB3.1 hx).1;have h2:posK (l.map File.name) x.name=k:=by
  rcases zD1 (posK (l.map File.name) x.name) k with h | h
  ·have hy:=zA8 (l:=l) (i:=posK (l.map File.name) x.name) qH1
   have h3:cmpB l[posK (l.map File.name) x.name].name x.name<0:=by
    have:=zJ4.1 hs _ k qH1 hk h;rw [(zB3.1 hx).2] at this;exact this
   rw [<-Jgn hs x.name _ _ hy] at h3;omega
  ·omega
 exact ⟨h2,by rw [Je1 h2 hx,Jbr]; rfl⟩
theorem Jlj {l:List File} (p:ByteArray) (h:∀ x∈l,x.name≠p):isK (l.map File.name) p=false:=by
 rcases zD1 (posK (l.map File.name) p) l.length with hlt | hge
 ·have hy:=zA8 (l:=l) (i:=posK (l.map File.name) p) hlt
  rw [Je1 rfl hy];have:=h _ (zI1 hlt);simp;intro h0;exact this (Jc7 h0)
 ·exact Jgz rfl qH1
theorem Jm0 {l:List File} (hs:l.Pairwise ltF) (p:ByteArray):∀ y∈l.take (posK (l.map File.name) p),cmpB y.name p<0:=by
 intro y hy;obtain ⟨k,hk⟩:=zF0.1 hy;rw [zM7] at hk;split at hk
 ·exact (Jgn hs p k y hk).1 (by assumption)
 ·cases hk
theorem JmZ {l:List File} (hs:l.Pairwise ltF) (p:ByteArray) (h:isK (l.map File.name) p=false):∀ y∈l.drop (posK (l.map File.name) p),cmpB p y.name<0:=by
 intro y hy;obtain ⟨k,hk⟩:=zF0.1 hy;rw [zF3] at hk;have h1:=mt (Jgn hs p _ y hk).2 qH1;have h2:cmpB y.name p≠0:=by
  intro h0;obtain rfl:=Jc7 h0;rw [(JhO hs hk).2] at h;cases h
 exact Jiy _ _ (by unfold cmpB at h1 h2; omega)
theorem JlA {l:List File} {p:ByteArray} (h:isK (l.map File.name) p=true):∃ hq:posK (l.map File.name) p<l.length,(l[posK (l.map File.name) p]'hq).name=p:=by
 have hq:=JbM h;refine ⟨hq,?_⟩;rw [Je1 rfl (zA8 hq)] at h;exact Jc7 qA1
theorem Jcd {l:List File} {p:ByteArray} (h:isK (l.map File.name) p=true):(Jaq l p).name=p/\Jaq l p∈l:=by
 obtain ⟨hq,hn⟩:=JlA h;have:Jaq l p=l[posK (l.map File.name) p]:=by
  unfold Jaq;rw [zE6,zA8 hq];rfl
 rw [this];exact ⟨hn,zI1 hq⟩
theorem Jid {l:List File} (hs:l.Pairwise ltF) {y:File} (hy:y∈l):isK (l.map File.name) y.name=true/\Jaq l y.name=y:=by
 obtain ⟨k,hk⟩:=zF0.1 hy;obtain ⟨h1,h2⟩:=JhO hs hk;refine ⟨h2,?_⟩;unfold Jaq;rw [h1,zE6,hk];rfl
def putL (l:List File) (x:File):List File:=if isK (l.map File.name) x.name then l.set (posK (l.map File.name) x.name) x else l.take (posK (l.map File.name) x.name) ++ x :: l.drop (posK (l.map File.name) x.name)
theorem Jhb {l:List File} {q:Nat} (hq:q<l.length) (x:File):l.set q x=l.take q ++ x :: l.drop (q+1):=by rw [zR3,if_pos hq]
theorem Jku {l:List File} (hpw:l.Pairwise ltF) (x:File):(putL l x).Pairwise ltF:=by
 unfold putL;cases hk:isK (l.map File.name) x.name with
 | true=>
  obtain ⟨hq,he⟩:=JlA hk;rw [if_pos rfl,Jhb hq];have e:l=l.take (posK (l.map File.name) x.name) ++ l[posK (l.map File.name) x.name] :: l.drop (posK (l.map File.name) x.name+1):=qQE;generalize l[posK (l.map File.name) x.name]=y at e he;generalize posK (l.map File.name) x.name=q at e;generalize l.take q=a at e ⊢;generalize l.drop (q+1)=b at e ⊢;rw [e] at hpw;simp only [zH3,zG7,zE2,forall_eq_or_imp] at hpw ⊢;unfold ltF at hpw ⊢;rw [<-he];exact hpw
 | false=>
  rw [if_neg qI1];have e:=zD7 (posK (l.map File.name) x.name) l;have hb:=Jm0 hpw x.name;have ha:=JmZ hpw x.name hk;generalize posK (l.map File.name) x.name=q at e hb ha;generalize l.take q=a at e hb ⊢;generalize l.drop q=b at e ha ⊢;rw [<-e] at hpw;simp only [zH3,zG7,zE2,forall_eq_or_imp] at hpw ⊢;unfold ltF at hpw ⊢;exact ⟨hpw.1,⟨ha,hpw.2.1⟩,fun y hy=>⟨hb y hy,hpw.2.2 y hy⟩⟩
theorem Jln {l:List File} (hpw:l.Pairwise ltF) (x y:File):y∈putL l x↔y=x\/(y∈l/\y.name≠x.name):=by
 unfold putL;cases hk:isK (l.map File.name) x.name with
 | true=>
  obtain ⟨hq,he⟩:=JlA hk;rw [if_pos rfl,Jhb hq];have e:l=l.take (posK (l.map File.name) x.name) ++ l[posK (l.map File.name) x.name] :: l.drop (posK (l.map File.name) x.name+1):=qQE;generalize l[posK (l.map File.name) x.name]=z at e he;generalize posK (l.map File.name) x.name=q at e;generalize l.take q=a at e ⊢;generalize l.drop (q+1)=b at e ⊢;rw [e] at hpw;simp only [zH3,zG7,zE2,forall_eq_or_imp] at hpw;unfold ltF at hpw;rw [e];simp only [zE7,zE2];constructor
  ·rintro (h | h | h)
   ·exact .inr ⟨.inl h,fun hp=>by have:=(hpw.2.2 y h).1; rw [hp,he,Jbr] at this; omega⟩
   ·exact .inl h
   ·exact .inr ⟨.inr (.inr h),fun hp=>by have:=hpw.2.1.1 y h; rw [hp,he,Jbr] at this; omega⟩
  ·rintro (h | ⟨h | h | h,hp⟩)
   ·exact .inr (.inl h)
   ·exact .inl h
   ·exact absurd (h▸he) hp
   ·exact .inr (.inr h)
 | false=>
  rw [if_neg qI1];have hm:∀ z,z∈l↔z∈l.take (posK (l.map File.name) x.name)\/z∈l.drop (posK (l.map File.name) x.name):=fun z=>by rw [<-zE7,zD7]
  have hn:y∈l->y.name≠x.name:=by
   intro h hp;obtain ⟨k,hk2⟩:=zF0.1 h;have:=(JhO hpw hk2).2;rw [hp,hk] at this;cases this
  simp only [zE7,zE2];rw [hm];rw [hm] at hn;constructor
  ·rintro (h | h | h)
   ·exact .inr ⟨.inl h,hn (.inl h)⟩
   ·exact .inl h
   ·exact .inr ⟨.inr h,hn (.inr h)⟩
  ·rintro (h | ⟨h | h,_⟩)
   ·exact .inr (.inl h)
   ·exact .inl h
   ·exact .inr (.inr h)
def offL (l:List File) (p:ByteArray):List File:=l.take (posK (l.map File.name) p) ++ l.drop (posK (l.map File.name) p+1)
theorem Jkx {l:List File} (hpw:l.Pairwise ltF) (p:ByteArray):(offL l p).Pairwise ltF:=by
 refine List.Pairwise.sublist ?_ hpw;unfold offL;have h1:(l.take (posK (l.map File.name) p) ++ l.drop (posK (l.map File.name) p)).Sublist l:=by rw [zD7]; exact List.Sublist.refl _
 refine List.Sublist.trans (List.Sublist.append (List.Sublist.refl _) ?_) h1;rw [<-zJ2];exact List.drop_sublist _ _
theorem mem_offL {l:List File} (hpw:l.Pairwise ltF) {p:ByteArray} (hk:isK (l.map File.name) p=true) (y:File):y∈offL l p↔(y∈l/\y.name≠p):=by
 obtain ⟨hq,he⟩:=JlA hk;unfold offL;have e:l=l.take (posK (l.map File.name) p) ++ l[posK (l.map File.name) p] :: l.drop (posK (l.map File.name) p+1):=qQE;generalize l[posK (l.map File.name) p]=z at e he;generalize posK (l.map File.name) p=q at e;generalize l.take q=a at e ⊢;generalize l.drop (q+1)=b at e ⊢;rw [e] at hpw;simp only [zH3,zG7,zE2,forall_eq_or_imp] at hpw;unfold ltF at hpw;rw [e];simp only [zE7,zE2];constructor
 ·rintro (h | h)
  ·exact ⟨.inl h,fun hp=>by have:=(hpw.2.2 y h).1; rw [hp,he,Jbr] at this; omega⟩
  ·exact ⟨.inr (.inr h),fun hp=>by have:=hpw.2.1.1 y h; rw [hp,he,Jbr] at this; omega⟩
 ·rintro ⟨h | h | h,hp⟩
  ·exact .inl h
  ·exact absurd (h▸he) hp
  ·exact .inr h
theorem JbH (l:List File):JaL l=true↔l.length<=16/\(∀ x∈l,okF x=true)/\l.Pairwise ltF:=by
 unfold JaL;rw [zE1,List.all_eq_true,decide_eq_true_iff];refine and_congr Iff.rfl ?_;constructor
 ·intro h
  have hstep:∀ k x,l[k]?=some x->okF x=true/\∀ j y,k=j+1->l[j]?=some y->cmpB y.name x.name<0:=by
   intro k x hx;have h1:=h k (zK0.2 (zB3.1 hx).1);unfold JfE at h1;rw [hx] at h1;simp only [zE1] at h1;refine ⟨h1.1,fun j y hj hy=>?_⟩
   subst hj;have h2:=h1.2;simp only [hy] at h2;simpa using h2
  refine ⟨fun x hx=>?_,?_⟩
  ·obtain ⟨k,hk⟩:=zF0.1 hx
   exact (hstep k x hk).1
  ·have hadj:∀ d i x y,l[i]?=some x->l[i+d+1]?=some y->cmpB x.name y.name<0:=by
    intro d
    induction d with
    | zero=>intro i x y hx hy; exact (hstep (i+1) y hy).2 i x rfl hx
    | succ d ih=>
     intro i x y hx hy;have hlt:=(zB3.1 hy).1;have hz:=zA8 (l:=l) (i:=i+d+1) qH1;exact Jfb _ _ _ (ih i x _ hx hz) ((hstep (i+d+1+1) y hy).2 (i+d+1) _ rfl hz)
   rw [zJ4];intro i j hi hj hij;exact hadj (j - i - 1) i _ _ (zA8 hi) (by rw [show i+(j - i - 1)+1=j from by omega]; exact zA8 hj)
 ·rintro ⟨hok,hs⟩ i hi
  have hi2:=zK0.1 hi;have hx:=zA8 hi2;unfold JfE;simp only [hx,zE1];refine ⟨hok _ (zI1 hi2),?_⟩;cases i with
  | zero=>rfl
  | succ j=>
   have hy:=zA8 (l:=l) (i:=j) qH1;simp only [hy];exact zB0 (zJ4.1 hs j (j+1) qH1 hi2 qH1)
theorem Jh1 {l:List File} (hg:JaL l=true) {x:File} (hx:x∈l):JaW l x.name=0/\JbC l x.name=x.safe ++ x.tail:=by
 have:=Jid ((JbH l).1 hg).2.2 hx;unfold JaW JbC;rw [hg,this.1,this.2];exact ⟨rfl,rfl⟩
theorem JnP {l:List File} (hg:JaL l=true) {p:ByteArray} (h:∀ x∈l,x.name≠p):JaW l p=7/\JbC l p=⟨#[]⟩:=by
 have:=Jlj p h;unfold JaW JbC;rw [hg,this];exact ⟨rfl,rfl⟩
theorem Jgl {l:List File} (hl:JaL l=true) {x:File} (hx:okF x=true) (hn:isK (l.map File.name) x.name=true\/l.length<16):JaL (putL l x)=true:=by
 obtain ⟨h1,h2,h3⟩:=(JbH l).1 hl;refine (JbH _).2 ⟨?_,?_,Jku h3 x⟩
 ·unfold putL
  split
  ·rw [zF4]; exact h1
  ·rename_i hk
   rcases hn with h | h
   ·exact absurd h hk
   ·simp
    omega
 ·intro y hy
  rcases (Jln h3 x y).1 hy with rfl | ⟨h,_⟩
  ·exact hx
  ·exact h2 y h
theorem Jn0 {l:List File} (hl:JaL l=true) {p:ByteArray} (hk:isK (l.map File.name) p=true):JaL (offL l p)=true:=by
 obtain ⟨h1,h2,h3⟩:=(JbH l).1 hl;refine (JbH _).2 ⟨?_,?_,Jkx h3 p⟩
 ·unfold offL
  simp;omega
 ·intro y hy
  exact h2 y ((mem_offL h3 hk y).1 hy).1
end
section
open Go.RowKit Go.ChangeShapes Go.WideShapes Go.ChangeAt
def JbB (l:List File) (p s:ByteArray):Int:=if JaL l then (if JaK (bs p) then (if isK (l.map File.name) p then (if (Jaq l p).safe.size+(Jaq l p).tail.size+s.size<=1048576 then 0 else 1) else (if 16<=l.length then 6 else (if s.size<=1048576 then 0 else 1))) else 2) else 3
def JbP (l:List File) (p s:ByteArray):List File:=if JaL l then (if JaK (bs p) then (if isK (l.map File.name) p then (if (Jaq l p).safe.size+(Jaq l p).tail.size+s.size<=1048576 then l.set (posK (l.map File.name) p) ⟨(Jaq l p).name,(Jaq l p).safe,(Jaq l p).tail ++ s⟩ else []) else (if 16<=l.length then [] else (if s.size<=1048576 then l.take (posK (l.map File.name) p) ++ ⟨p,⟨#[]⟩,s⟩ :: l.drop (posK (l.map File.name) p) else []))) else []) else []
theorem Jlb {l:List File} {J:List Value} {k:Nat} {x:File} (hx:l[k]?=some x) (t:ByteArray) :
  (l.flatMap Jaa ++ J).set (k*3+2) (.string t)=(l.set k ⟨x.name,x.safe,t⟩).flatMap Jaa ++ J:=by
 rw [<-JfK hx x.safe t];congr 1;have hk:k<l.length:=(zB3.1 hx).1;have hlen:(l.flatMap Jaa).length=l.length*3:=zC5 (fun y _=>rfl)
 have h0:(l.flatMap Jaa)[k*3+1]?=some (.string x.safe):=JbN (f:=Jaa) (s:=3) (fun y _=>rfl) hx rfl
 apply zO2;intro i;rw [zK4];split
 ·rename_i e
  subst e;rw [if_pos (by rw [zA9]; omega),zF1 qw0,h0]
 ·rfl
def InsFs (l:List File) (W:World) (r:Ending) (w':World):Prop:=∃ A c ext d,r=.returned (.slice A l.length c)/\w'=grow W ext d/\Ow Jaa 3 128 w' W.heap.size (.slice A l.length c) l
theorem Jhq {L:List File} {W w1:World} {v:Value} {k:Nat} {l:List File} {x:File} (hb1:Below W.heap.size W w1) (hown:Ow Jaa 3 128 w1 W.heap.size v l) (hk:k<=l.length) (hn:(l.length+1)*48<=140737488355328) (vb:Nat) (hvb:vb=w1.heap.size) (hL:L=l.take k ++ x :: l.drop k) :
  Calls Tryz.prog 96 #[v,.int .i64 k,.slice (some ⟨vb,0,none⟩) 1 1] (w1.alloc (.cells #[.string x.name,.string x.safe,.string x.tail] 128)) (InsFs L W):=by
 subst hL;have hb:Below W.heap.size W (w1.alloc (.cells #[.string x.name,.string x.safe,.string x.tail] 128)):=hb1.alloc hb1.size _;have ho:Ow Jaa 3 128 (w1.alloc (.cells #[.string x.name,.string x.safe,.string x.tail] 128)) W.heap.size v l:=hown.alloc _;refine (insFile v k l x _ W.heap.size vb ho hk ?_ ?_ hb.size hn).mono ?_
 ·subst hvb
  have:=heap_alloc_new w1 (.cells #[.string x.name,.string x.safe,.string x.tail] 128);exact this
 ·intro hc
  have h2:=(hown.own_in hc).2;omega
 ·rintro r w' ⟨A,c,rfl,h1,h2,h3⟩
  have hl:(l.take k ++ x :: l.drop k).length=l.length+1:=qXE;obtain ⟨ext,d,rfl⟩:=JaA hb h2 (fun k hk=>(hown.own_in hk).1)
  exact ⟨A,c,ext,d,by rw [hl],rfl,by rw [hl]; exact h1⟩
theorem JkM (v:Value) (l:List File) (p s:ByteArray) (w:World) (h:Sl Jaa 3 w v l) (hz:∀ x∈l,x.sized) (hp:p.size<=9223372036854775807) (hs:s.size<=140737488355328) :
  Calls Tryz.prog 67 #[.agg #[v],.string p,.string s] w (Jg6 (JbP l p s) (JbB l p s) w):=by
 obtain ⟨A,c,rfl,hc1,hc2⟩:=h.form;have H:=zA0 h;have HG:=zA0 (fun (W:World) (hs:Sl Jaa 3 W (.slice A l.length c) l)=>JhH _ l W hs hz)
 have HN:=zA0 (fun (W:World)=>Jc0 p W hp)
 unfold JbP JbB;cases hg:JaL l with
 | false=>
  rw [hg] at HG;clear h hz hg;simp only [zC7,if_false];go_enter Tryz.func67,Tryz.ntmps67
  go_wp2_with
   (first | (go_at_call 62; refine zc (HG.out _ (H.out.below zL)) (fun ext d=>?_)) | (go_at_call 91; refine zc (HF.out _ _ (H.out.below zL)) (fun ext2 d2=>?_)) | (go_at_call 43; refine (HN.out _).mono ?_; rintro e w1 ⟨rfl,rfl⟩; skip))
  refine zA1 (v:=.tuple #[.agg #[.slice none 0 0],.int .i64 3]) (by simp [results,Tryz.results67,go_sem]) rfl ⟨none,0,rfl,Ow.nil _ _ _ _ _,zL⟩
 | true=>
  rw [hg] at HG;have hl16:=Jc3 hg;clear hg;simp only [if_true];cases hnm:JaK (bs p) with
  | false=>
   rw [hnm] at HN;clear h hz hnm;simp only [zC7,if_false];go_enter Tryz.func67,Tryz.ntmps67
   go_wp2_with
    (first | (go_at_call 62; refine zc (HG.out _ (H.out.below zL)) (fun ext d=>?_)) | (go_at_call 91; refine zc (HF.out _ _ (H.out.below zL)) (fun ext2 d2=>?_)) | (go_at_call 43; refine (HN.out _).mono ?_; rintro e w1 ⟨rfl,rfl⟩; skip))
   refine zA1 (v:=.tuple #[.agg #[.slice none 0 0],.int .i64 2]) (by simp [results,Tryz.results67,go_sem]) rfl ⟨none,0,rfl,Ow.nil _ _ _ _ _,zL⟩
  | true=>
   rw [hnm] at HN;clear hnm;simp only [if_true];have hfind:=fun (W:World) (v:Value) (hs:Sl Jaa 3 W v l)=>JjO v l p W hs qH1
   cases hk:isK (l.map File.name) p with
   | true=>
    rw [hk] at hfind;have HF:=zA0 hfind;have hq:=JbM hk;have hx:l[posK (l.map File.name) p]?=some (Jaq l p):=by
     unfold Jaq;rw [zE6,zA8 hq];rfl
    obtain ⟨z0,z1,z2⟩:=hz _ (zD3 hx);generalize Jaq l p=x at *;generalize posK (l.map File.name) p=q at *;have HX:=zA0 hx;clear h hz hk hfind hx;simp only [if_true]
    by_cases hl:x.safe.size+x.tail.size+s.size<=1048576
    ·have hli:(decide ((1048576:Int)<(x.safe.size:Int)+(x.tail.size:Int)+(s.size:Int)))=false:=zA7 qH1
     simp only [if_pos hl];clear hl;go_enter Tryz.func67,Tryz.ntmps67
     go_wp2_with
      (first | (go_at_call 62; refine zc (HG.out _ (H.out.below zL)) (fun ext d=>?_)) | (go_at_call 91; refine zc (HF.out _ _ (H.out.below zL)) (fun ext2 d2=>?_)) | (go_at_call 43; refine (HN.out _).mono ?_; rintro e w1 ⟨rfl,rfl⟩; skip))
     refine (Jcp _ l _ (H.out.below zL) qH1 qs0).mono ?_;rintro e w3 ⟨A3,c3,rfl,ho3,hb3⟩;obtain ⟨ext3,d3,rfl⟩:=zA2 _ hb3;obtain ⟨g3,J,rfl,hg3,hbk3,hcl,hlc,hcm,_⟩:=ho3.blk qH1;have hg4:w.heap.size+1+1<=g3:=qkE;have hbk4:∀ d',Bk (grow (grow (grow ((w.alloc (.cells #[.slice (some ⟨g3,0,none⟩) l.length c3] 65)).alloc (.cells #[.slice none 0 0] 65)) ext d) ext2 d2) ext3 d') g3 (l.flatMap Jaa ++ J) 128:=fun d'=>hbk3.regrow qx0 qI1
     obtain ⟨r0,r1,r2⟩:=Jby (hbk4 (d3+1)) HX.out;obtain ⟨s0,s1,s2⟩:=Jby (hbk4 (d3+1)) HX.out;have f2:=(hbk4 (d3+1)).frozen (q*3+2);have HBK:=zA0 hbk4;have HCL:=zA0 hcl;clear hb3 ho3 hbk3 hbk4 hg3 hcl;go_wp2_with fail;go_region;go_wp2_with fail;have hlen:((l.set q ⟨x.name,x.safe,x.tail ++ s⟩).flatMap Jaa ++ J).length=c3*3:=by
      rw [<-HCL.out,zA9,zA9,zC5 (f:=Jaa) (s:=3) (fun _ _=>rfl),zC5 (f:=Jaa) (s:=3) (fun _ _=>rfl),zF4]
     have n1:¬ w.heap.size+1=g3:=qCE;have n2:¬ g3=w.heap.size+1:=qCE;refine zA1 (v:=.tuple #[.agg #[.slice (some ⟨g3,0,none⟩) l.length c3],.int .i64 0]) (by simp [results,Tryz.results67,go_sem]) rfl ⟨some ⟨g3,0,none⟩,c3,by rw [zF4],?_,?_⟩
     ·refine Ow.far (Ow.of_blk (f:=Jaa) (s:=3) (B:=w.heap.size) (fun _ _=>rfl) qH1 ?_ rfl hlen qb0 hcm) qH1
      have:=(HBK.out (d3+1)).put (q*3+2) (.string (x.tail ++ s));rw [Jlb HX.out] at this;exact this
     ·refine Below.put (Below.put ?_ ?_) ?_
      ·exact zL
      all_goals omega
    ·have hli:(decide ((1048576:Int)<(x.safe.size:Int)+(x.tail.size:Int)+(s.size:Int)))=true:=zB0 qH1
     simp only [if_neg hl];clear hl;go_enter Tryz.func67,Tryz.ntmps67
     go_wp2_with
      (first | (go_at_call 62; refine zc (HG.out _ (H.out.below zL)) (fun ext d=>?_)) | (go_at_call 91; refine zc (HF.out _ _ (H.out.below zL)) (fun ext2 d2=>?_)) | (go_at_call 43; refine (HN.out _).mono ?_; rintro e w1 ⟨rfl,rfl⟩; skip))
     refine (Jcp _ l _ (H.out.below zL) qH1 qs0).mono ?_;rintro e w3 ⟨A3,c3,rfl,ho3,hb3⟩;obtain ⟨ext3,d3,rfl⟩:=zA2 _ hb3;obtain ⟨g3,J,rfl,hg3,hbk3,hcl,hlc,hcm,_⟩:=ho3.blk qH1;have hg4:w.heap.size+1+1<=g3:=qkE;have hbk4:∀ d',Bk (grow (grow (grow ((w.alloc (.cells #[.slice (some ⟨g3,0,none⟩) l.length c3] 65)).alloc (.cells #[.slice none 0 0] 65)) ext d) ext2 d2) ext3 d') g3 (l.flatMap Jaa ++ J) 128:=fun d'=>hbk3.regrow qx0 qI1
     obtain ⟨r0,r1,r2⟩:=Jby (hbk4 (d3+1)) HX.out;have HBK:=zA0 hbk4;have HCL:=zA0 hcl;clear hb3 ho3 hbk3 hbk4 hg3 hcl;go_wp2_with fail;go_region;go_wp2_with fail;refine zA1 (v:=.tuple #[.agg #[.slice none 0 0],.int .i64 1]) (by simp [results,Tryz.results67,go_sem]) rfl ⟨none,0,rfl,Ow.nil _ _ _ _ _,zL⟩
   | false=>
    rw [hk] at hfind;have HF:=zA0 hfind;have hq:posK (l.map File.name) p<=l.length:=by unfold posK; have:=JlU (ltK (l.map File.name) p) (l.map File.name).length; simpa using this
    generalize posK (l.map File.name) p=q at *;clear h hz hk hfind;simp only [zC7,if_false]
    by_cases h16:16<=l.length
    ·have h16i:(decide ((16:Int)<=(l.length:Int)))=true:=zB0 qH1
     simp only [if_pos h16];go_enter Tryz.func67,Tryz.ntmps67
     go_wp2_with
      (first | (go_at_call 62; refine zc (HG.out _ (H.out.below zL)) (fun ext d=>?_)) | (go_at_call 91; refine zc (HF.out _ _ (H.out.below zL)) (fun ext2 d2=>?_)) | (go_at_call 43; refine (HN.out _).mono ?_; rintro e w1 ⟨rfl,rfl⟩; skip))
     refine zA1 (v:=.tuple #[.agg #[.slice none 0 0],.int .i64 6]) (by simp [results,Tryz.results67,go_sem]) rfl ⟨none,0,rfl,Ow.nil _ _ _ _ _,zL⟩
    ·have h16i:(decide ((16:Int)<=(l.length:Int)))=false:=zA7 qH1
     simp only [if_neg h16];generalize hL:l.take q ++ (⟨p,⟨#[]⟩,⟨#[]⟩⟩:File) :: l.drop q=L;have hX:L[q]?=some (⟨p,⟨#[]⟩,⟨#[]⟩⟩:File):=by rw [<-hL,zI5 qB1]; simp [zF8 hq]
     have hX2:L.set q ⟨p,⟨#[]⟩,s⟩=l.take q ++ (⟨p,⟨#[]⟩,s⟩:File) :: l.drop q:=by rw [<-hL,zM3 _ _ qB1]; simp [zF8 hq]
     have hLl:0<L.length:=Nat.lt_of_le_of_lt (zB9 q) (zB3.1 hX).1;have HL:=zA0 hL;have HX:=zA0 hX;rw [<-hX2];clear hL hX hX2
     by_cases hl:s.size<=1048576
     ·have hli:(decide ((1048576:Int)<(s.size:Int)))=false:=zA7 qH1
      simp only [if_pos hl];clear hl;go_enter Tryz.func67,Tryz.ntmps67
      go_wp2_with
       (first | (go_at_call 62; refine zc (HG.out _ (H.out.below zL)) (fun ext d=>?_)) | (go_at_call 91; refine zc (HF.out _ _ (H.out.below zL)) (fun ext2 d2=>?_)) | (go_at_call 43; refine (HN.out _).mono ?_; rintro e w1 ⟨rfl,rfl⟩; skip))
      refine (Jcp _ l _ (H.out.below zL) qH1 qs0).mono ?_;rintro e w3 ⟨A3,c3,rfl,ho3,hb3⟩;obtain ⟨ext3,d3,rfl⟩:=zA2 _ hb3;have HO3:=zA0 ho3;clear ho3;go_wp2_with fail;refine (Jhq (x:=⟨p,⟨#[]⟩,⟨#[]⟩⟩) (W:=((w.alloc (.cells #[.slice A3 l.length c3] 65)).alloc (.cells #[.slice none 0 0] 65))) zL ((HO3.out.regrow (zA3 _) qI1).mono qB1) hq qH1 _ qI1 HL.out.symm).mono ?_;rintro e w4 ⟨A4,c4,ext4,d4,rfl,rfl,ho4⟩;obtain ⟨g3,J,rfl,hg3,hbk3,hcl,hlc,hcm,_⟩:=ho4.blk hLl;have hg4:w.heap.size+1+1<=g3:=qkE;have hbk4:∀ d',Bk (grow ((w.alloc (.cells #[.slice (some ⟨g3,0,none⟩) L.length c4] 65)).alloc (.cells #[.slice none 0 0] 65)) ext4 d') g3 (L.flatMap Jaa ++ J) 128:=fun d'=>hbk3.regrow qx0 qI1
      obtain ⟨r0,r1,r2⟩:=Jby (hbk4 (d4+1)) HX.out;have f2:=(hbk4 (d4+1)).frozen (q*3+2);have hqL:q<L.length:=(zB3.1 HX.out).1;have HBK:=zA0 hbk4;have HCL:=zA0 hcl;clear ho4 hbk3 hbk4 hg3 hcl;go_wp2_with fail;go_region;go_wp2_with fail;have hlen:((L.set q ⟨p,⟨#[]⟩,s⟩).flatMap Jaa ++ J).length=c4*3:=by
       rw [<-HCL.out,zA9,zA9,zC5 (f:=Jaa) (s:=3) (fun _ _=>rfl),zC5 (f:=Jaa) (s:=3) (fun _ _=>rfl),zF4]
      have n1:¬ w.heap.size+1=g3:=qCE;have n2:¬ g3=w.heap.size+1:=qCE;refine zA1 (v:=.tuple #[.agg #[.slice (some ⟨g3,0,none⟩) L.length c4],.int .i64 0]) (by simp [results,Tryz.results67,go_sem]) rfl ⟨some ⟨g3,0,none⟩,c4,by rw [zF4],?_,?_⟩
      ·refine Ow.far (Ow.of_blk (f:=Jaa) (s:=3) (B:=w.heap.size) (fun _ _=>rfl) qH1 ?_ rfl hlen qb0 hcm) qH1
       have:=(HBK.out (d4+1)).put (q*3+2) (.string s);rw [Jlb HX.out] at this;exact this
      ·refine Below.put (Below.put ?_ ?_) ?_
       ·exact zL
       all_goals omega
     ·have hli:(decide ((1048576:Int)<(s.size:Int)))=true:=zB0 qH1
      simp only [if_neg hl];clear hl;go_enter Tryz.func67,Tryz.ntmps67
      go_wp2_with
       (first | (go_at_call 62; refine zc (HG.out _ (H.out.below zL)) (fun ext d=>?_)) | (go_at_call 91; refine zc (HF.out _ _ (H.out.below zL)) (fun ext2 d2=>?_)) | (go_at_call 43; refine (HN.out _).mono ?_; rintro e w1 ⟨rfl,rfl⟩; skip))
      refine (Jcp _ l _ (H.out.below zL) qH1 qs0).mono ?_;rintro e w3 ⟨A3,c3,rfl,ho3,hb3⟩;obtain ⟨ext3,d3,rfl⟩:=zA2 _ hb3;have HO3:=zA0 ho3;clear ho3;go_wp2_with fail;refine (Jhq (x:=⟨p,⟨#[]⟩,⟨#[]⟩⟩) (W:=((w.alloc (.cells #[.slice A3 l.length c3] 65)).alloc (.cells #[.slice none 0 0] 65))) zL ((HO3.out.regrow (zA3 _) qI1).mono qB1) hq qH1 _ qI1 HL.out.symm).mono ?_;rintro e w4 ⟨A4,c4,ext4,d4,rfl,rfl,ho4⟩;obtain ⟨g3,J,rfl,hg3,hbk3,hcl,hlc,hcm,_⟩:=ho4.blk hLl;have hg4:w.heap.size+1+1<=g3:=qkE;have hbk4:∀ d',Bk (grow ((w.alloc (.cells #[.slice (some ⟨g3,0,none⟩) L.length c4] 65)).alloc (.cells #[.slice none 0 0] 65)) ext4 d') g3 (L.flatMap Jaa ++ J) 128:=fun d'=>hbk3.regrow qx0 qI1
      obtain ⟨r0,r1,r2⟩:=Jby (hbk4 (d4+1)) HX.out;have f2:=(hbk4 (d4+1)).frozen (q*3+2);have hqL:q<L.length:=(zB3.1 HX.out).1;have HBK:=zA0 hbk4;have HCL:=zA0 hcl;clear ho4 hbk3 hbk4 hg3 hcl;go_wp2_with fail;go_region;go_wp2_with fail;refine zA1 (v:=.tuple #[.agg #[.slice none 0 0],.int .i64 1]) (by simp [results,Tryz.results67,go_sem]) rfl ⟨none,0,rfl,Ow.nil _ _ _ _ _,zL⟩
end
end Go.Proofs.YtjnooagaghdkdaaGreatDoor
