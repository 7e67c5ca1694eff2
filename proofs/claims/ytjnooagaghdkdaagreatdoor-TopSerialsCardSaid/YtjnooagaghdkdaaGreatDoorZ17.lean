/-L-/
import Derived.RangeFuncBox
import Derived.Deep.MidRow
import Derived.Laws.ResultCell
import Derived.Test.YtjnooagaghdkdaaGreatDoorZ10
import Derived.Test.YtjnooagaghdkdaaGreatDoorZ13
import Derived.Test.YtjnooagaghdkdaaGreatDoorZ14
import Derived.Test.YtjnooagaghdkdaaGreatDoorZ15
set_option maxHeartbeats 10000000
set_option maxRecDepth 100000
set_option linter.all false
namespace Go.Proofs.YtjnooagaghdkdaaGreatDoor
section
open Go.RowKit Go.ChangeShapes Go.WideShapes Go.ChangeAt
theorem Jdl {l:List File} (h:JaL l=true):∀ x∈l,x.sized/\x.safe.size+x.tail.size<=1048576:=by
 intro x hx;have:=((JbH l).1 h).2.1 x hx;unfold okF JaK at this;simp only [zE1,decide_eq_true_iff] at this;obtain ⟨⟨⟨_,_⟩,h1⟩,h2⟩:=this;have h3:(bs x.name).length=x.name.size:=rfl;refine ⟨⟨?_,?_,?_⟩,h2⟩ <;> omega
def JeU (p:ByteArray):File:=⟨p,⟨#[]⟩,⟨#[]⟩⟩
def Jcc (l:List File) (p:ByteArray):File:=if isK (l.map File.name) p then Jaq l p else JeU p
theorem readS_or {l:List File} (h:JaL l=true) (p:ByteArray):JbC l p=(Jcc l p).safe ++ (Jcc l p).tail:=by
 unfold JbC Jcc;rw [h,zM5];split
 ·rfl
 ·exact ByteArray.append_empty.symm
theorem Jm6 {l:List File} {p s:ByteArray} (h:JbB l p s≠0):JbP l p s=[]:=by
 unfold JbB at h;unfold JbP
 by_cases h1:JaL l=true
 ·by_cases h2:JaK (bs p)=true
  ·by_cases h3:isK (l.map File.name) p=true
   ·by_cases h4:(Jaq l p).safe.size+(Jaq l p).tail.size+s.size<=1048576
    ·simp [h1,h2,h3,h4] at h
    ·simp [h1,h2,h3,h4]
   ·by_cases h4:16<=l.length
    ·simp [h1,h2,h3,h4]
    ·by_cases h5:s.size<=1048576
     ·simp [h1,h2,h3,h4,h5] at h
     ·simp [h1,h2,h3,h4,h5]
  ·simp [h1,h2]
 ·simp [h1]
theorem JfJ {l:List File} {p s:ByteArray} (h:JbB l p s=0):JaL l=true/\JbP l p s=putL l ⟨p,(Jcc l p).safe,(Jcc l p).tail ++ s⟩/\JaL (JbP l p s)=true:=by
 have key:JaL l=true/\JbP l p s=putL l ⟨p,(Jcc l p).safe,(Jcc l p).tail ++ s⟩/\JaK (bs p)=true/\(Jcc l p).safe.size+((Jcc l p).tail ++ s).size<=1048576/\(isK (l.map File.name) p=true\/l.length<16):=by
  unfold JbB at h;unfold JbP putL Jcc;rw [zI3]
  by_cases h1:JaL l=true
  ·by_cases h2:JaK (bs p)=true
   ·by_cases h3:isK (l.map File.name) p=true
    ·by_cases h4:(Jaq l p).safe.size+(Jaq l p).tail.size+s.size<=1048576
     ·simp only [if_pos h1,if_pos h2,if_pos h3,if_pos h4]
      exact ⟨h1,by rw [(Jcd h3).1],h2,by omega,.inl h3⟩
     ·simp [h1,h2,h3,h4] at h
    ·by_cases h4:16<=l.length
     ·simp [h1,h2,h3,h4] at h
     ·by_cases h5:s.size<=1048576
      ·simp only [if_pos h1,if_pos h2,if_neg h3,if_neg h4,if_pos h5]
       exact ⟨h1,by rw [show (JeU p).tail ++ s=s from ByteArray.empty_append]; rfl,h2,by show 0+(0+s.size)<=_; omega,.inr qH1⟩
      ·simp [h1,h2,h3,h4,h5] at h
   ·simp [h1,h2] at h
  ·simp [h1] at h
 obtain ⟨h1,h2,h3,h4,h5⟩:=key;refine ⟨h1,h2,?_⟩;rw [h2];refine Jgl h1 ?_ h5;unfold okF;rw [h3,zM5];exact zB0 h4
theorem Jgj {l:List File} {p:ByteArray} (h:JaW l p=0):JaL l=true/\isK (l.map File.name) p=true:=by
 unfold JaW at h
 by_cases h1:JaL l=true
 ·by_cases h2:isK (l.map File.name) p=true
  ·exact ⟨h1,h2⟩
  ·simp [h1,h2] at h
 ·simp [h1] at h
theorem readE_in {l:List File} {p:ByteArray} (h1:JaL l=true) (h2:isK (l.map File.name) p=true):JaW l p=0:=by
 unfold JaW;rw [h1,h2];rfl
theorem Jnu {l:List File} {p:ByteArray} (h:JaW l p=0):JfD l p=putL l ⟨p,(Jaq l p).safe ++ (Jaq l p).tail,⟨#[]⟩⟩/\JaL (JfD l p)=true:=by
 obtain ⟨h1,h2⟩:=Jgj h;have e:JfD l p=putL l ⟨p,(Jaq l p).safe ++ (Jaq l p).tail,⟨#[]⟩⟩:=by
  unfold JfD putL syncF;simp only [h1,h2,zJ9,if_true];rw [(Jcd h2).1]
 refine ⟨e,?_⟩;rw [e];refine Jgl h1 ?_ (.inl h2);have h3:=((JbH l).1 h1).2.1 _ (Jcd h2).2;unfold okF at h3 ⊢;rw [(Jcd h2).1] at h3;rw [zE1,decide_eq_true_iff] at h3 ⊢;refine ⟨h3.1,?_⟩;have:=h3.2;show ((Jaq l p).safe ++ (Jaq l p).tail).size+0<=1048576;rw [zI3];omega
theorem cut_ok {l:List File} {p:ByteArray} {n:Int} (h:cutE l p n=0):JaW l p=0/\0<=n/\n<=((JbC l p).size:Int)/\cutL l p n=putL l ⟨p,(JbC l p).extract 0 n.toNat,⟨#[]⟩⟩/\JaL (cutL l p n)=true:=by
 have key:JaL l=true/\isK (l.map File.name) p=true/\(0<=n/\n<=(((Jaq l p).safe ++ (Jaq l p).tail).size:Int)):=by
  unfold cutE at h
  by_cases h1:JaL l=true
  ·by_cases h2:isK (l.map File.name) p=true
   ·by_cases h3:0<=n/\n<=(((Jaq l p).safe ++ (Jaq l p).tail).size:Int)
    ·exact ⟨h1,h2,h3⟩
    ·rw [if_pos h1,if_pos h2,if_neg h3] at h; simp at h
   ·simp [h1,h2] at h
  ·simp [h1] at h
 obtain ⟨h1,h2,h3⟩:=key;have hr:JbC l p=(Jaq l p).safe ++ (Jaq l p).tail:=by
  rw [readS_or h1]; unfold Jcc; rw [if_pos h2]
 have e:cutL l p n=putL l ⟨p,(JbC l p).extract 0 n.toNat,⟨#[]⟩⟩:=by
  unfold cutL putL cutF;rw [hr];simp only [h1,h2,zJ9,if_true];rw [if_pos h3,(Jcd h2).1]
 refine ⟨readE_in h1 h2,h3.1,by rw [hr]; exact h3.2,e,?_⟩
 rw [e];refine Jgl h1 ?_ (.inl h2);have h4:=((JbH l).1 h1).2.1 _ (Jcd h2).2;unfold okF at h4 ⊢;rw [(Jcd h2).1] at h4;rw [zE1,decide_eq_true_iff] at h4 ⊢;refine ⟨h4.1,?_⟩;have:=h4.2;show ((JbC l p).extract 0 n.toNat).size+0<=1048576;rw [hr,zH5,zI3];omega
theorem JnL {l:List File} {p:ByteArray} (h:JaW l p=0):Jde l p=offL l p/\JaL (Jde l p)=true/\(Jde l p).length+1=l.length:=by
 obtain ⟨h1,h2⟩:=Jgj h;have e:Jde l p=offL l p:=by
  unfold Jde offL;rw [h1,h2];rfl
 refine ⟨e,by rw [e]; exact Jn0 h1 h2,?_⟩
 have:=JbM h2;rw [e];unfold offL;simp;omega
theorem crash_is {l:List File} (h1:JaL l=true) (n:Nat):Jbh l n=0/\JdG l n=l.map (JdH n):=by
 unfold Jbh JdG;have h2:¬ (n:Int)<0:=qCE;rw [if_pos h1,if_pos h1,if_neg h2,if_neg h2];exact ⟨rfl,rfl⟩
abbrev vTxn (t:Txn):Value:=.agg #[.int .i64 t.zxid,.int .i64 t.op,.int .i64 t.session,.string t.path,.string t.data,.int .i64 t.version,.int .i64 t.owner]
def recT (t:Txn):List UInt8:=recL (JdP t.zxid.toNat t.op.toNat t.session.toNat t.version.toNat t.owner.toNat (bs t.path) (bs t.data))
def encR (t:Txn):ByteArray:=if Jat t=0 then ⟨(recT t).toArray⟩ else ⟨#[]⟩
structure GoodF (t:Txn):Prop where
 z0:0<=t.zxid
 z1:t.zxid<4611686018427387904
 o0:1<=t.op
 o1:t.op<=5
 s0:1<=t.session
 s1:t.session<=2147483647
 v0:0<=t.version
 v1:t.version<=2147483647
 w0:0<=t.owner
 w1:t.owner<=2147483647
 d1:t.data.size<=256
 p1:t.path.size<=200
theorem Jdk (t:Txn) (h:Jat t=0):GoodF t:=by
 unfold Jat at h;split at h
 ·exact absurd h qG1
 rename_i a1
 split at h
 ·exact absurd h qG1
 rename_i a2
 split at h
 ·exact absurd h qG1
 rename_i a3
 split at h
 ·exact absurd h qG1
 rename_i a4
 split at h
 ·exact absurd h qG1
 rename_i a5
 clear h;refine ⟨by omega,by omega,by omega,by omega,by omega,by omega,by omega,by omega,by omega,by omega,by omega,?_⟩
 by_cases h2:t.op<=2
 ·have h3:t.path.toList=[]:=by
   rcases Classical.em (t.path.toList=[]) with e | e
   ·exact e
   ·exact absurd ⟨h2,.inl e⟩ a4
  rw [zE4] at h3;have h4:=zC1 t.path;unfold bs at h4;rw [h3] at h4;simp at h4;omega
 ·have h3:Jaw t.path=true:=by
   cases e:Jaw t.path with
   | true=>rfl
   | false=>exact absurd ⟨by omega,.inl e⟩ a5
  exact (Ja6 h3).2
theorem JoC (t:Txn) (w:World) (hp:t.path.size<=9223372036854775807) (hg:Jat t≠0) :
  Calls Tryz.prog 140 #[vTxn t] w fun e w'=>e=.returned (.tuple #[.string ⟨#[]⟩,.int .i64 (Jat t)])/\Below w.heap.size w w':=by
 have HG:=zA0 (fun w=>JeG t w hp)
 have hne:(Jat t != 0)=true:=zC9.2 hg;generalize Jat t=g at *;clear hg;obtain ⟨z,o,s,p,d,v,ow⟩:=t;dsimp only at *;go_enter Tryz.func140,Tryz.ntmps140
 go_wp2_with (go_at_call 127; refine (HG.out _).mono ?_; rintro e w1 ⟨rfl,hb1⟩; obtain ⟨ext1,d1,rfl⟩:=zA2 _ hb1; clear hb1 HG);go_ret2;exact ⟨rfl,zL⟩
theorem JhE (t:Txn) (w:World) (hp:t.path.size<=9223372036854775807) :
  Calls Tryz.prog 140 #[vTxn t] w fun e w'=>e=.returned (.tuple #[.string (encR t),.int .i64 (Jat t)])/\Below w.heap.size w w':=by
 by_cases hg:Jat t=0
 ·obtain ⟨z0,z1,o0,o1,s0,s1,v0,v1,w0,w1,d1,p1⟩:=Jdk t hg
  have e:encR t=⟨(recT t).toArray⟩:=if_pos hg;rw [e,hg];unfold recT vTxn;obtain ⟨z,o,s,p,d,v,ow⟩:=t;dsimp only at *;obtain ⟨z,rfl⟩:=zG8 z0;obtain ⟨o,rfl⟩:=zG8 (show 0<=o by omega)
  obtain ⟨s,rfl⟩:=zG8 (show 0<=s by omega)
  obtain ⟨v,rfl⟩:=zG8 v0;obtain ⟨ow,rfl⟩:=zG8 w0;exact JkK z o s v ow p d w hg qH1 qH1 qH1 qH1 qH1 p1 d1
 ·have e:encR t=⟨#[]⟩:=if_neg hg
  rw [e];exact JoC t w hp hg
end
section
open Go.RowKit
abbrev txn0:Txn:=⟨0,0,0,⟨#[]⟩,⟨#[]⟩,0,0⟩
def dB10 (n z o ss v ow:Int) (p d s:ByteArray) (b:Bool):Txn × Int × Int:=
 bif b || !s.toList.isEmpty then (txn0,0,2) else bif Jat ⟨z,o,ss,p,d,v,ow⟩ != 0 then (txn0,0,Jat ⟨z,o,ss,p,d,v,ow⟩) else (⟨z,o,ss,p,d,v,ow⟩,n+7,0)
def dB9 (n z o ss v ow:Int) (p:ByteArray) (dl:Nat) (s:ByteArray) (b:Bool):Txn × Int × Int:=dB10 n z o ss v ow p (Jau s b dl) (JaF s b dl) (badT s b dl)
def dB8 (n z o ss v ow:Int) (p s:ByteArray) (b:Bool):Txn × Int × Int:=dB9 n z o ss v ow p (valI (bs (Jau s b 2))).toNat (JaF s b 2) (badT s b 2)
def dB7 (n z o ss v ow:Int) (pl:Nat) (s:ByteArray) (b:Bool):Txn × Int × Int:=dB8 n z o ss v ow (Jau s b pl) (JaF s b pl) (badT s b pl)
def dB6 (n z o ss v ow:Int) (s:ByteArray) (b:Bool):Txn × Int × Int:=dB7 n z o ss v ow (valI (bs (Jau s b 1))).toNat (JaF s b 1) (badT s b 1)
def dB5 (n z o ss v:Int) (s:ByteArray) (b:Bool):Txn × Int × Int:=dB6 n z o ss v (valI (bs (Jau s b 4))) (JaF s b 4) (badT s b 4)
def dB4 (n z o ss:Int) (s:ByteArray) (b:Bool):Txn × Int × Int:=dB5 n z o ss (valI (bs (Jau s b 4))) (JaF s b 4) (badT s b 4)
def dB3 (n z o:Int) (s:ByteArray) (b:Bool):Txn × Int × Int:=dB4 n z o (valI (bs (Jau s b 4))) (JaF s b 4) (badT s b 4)
def dB2 (n z:Int) (s:ByteArray) (b:Bool):Txn × Int × Int:=dB3 n z (valI (bs (Jau s b 1))) (JaF s b 1) (badT s b 1)
def dB1 (n:Int) (s:ByteArray) (b:Bool):Txn × Int × Int:=dB2 n (valI (bs (Jau s b 8))) (JaF s b 8) (badT s b 8)
def dec4 (s:ByteArray) (n:Nat) (B:ByteArray) (sum:Int) (b4:Bool):Txn × Int × Int:=
 bif b4 then (txn0,0,2) else bif ((sumN (bs (s.extract 0 (3+n))):Nat):Int) != sum then (txn0,0,5) else dB1 n B false
def dec3 (s:ByteArray) (n:Nat) (B s3:ByteArray) (b3:Bool):Txn × Int × Int:=dec4 s n B (valI (bs (Jau s3 b3 4))) (badT s3 b3 4)
def dec2 (s:ByteArray) (n:Nat) (s2:ByteArray) (b2:Bool):Txn × Int × Int:=
 bif b2 || decide (1024<(n:Int)) then (txn0,0,2) else dec3 s n (Jau s2 b2 n) (JaF s2 b2 n) (badT s2 b2 n)
def dec1 (s t1 s1:ByteArray) (b1:Bool):Txn × Int × Int:=
 bif !(t1.toList == [84]) then (txn0,0,2) else dec2 s (valI (bs (Jau s1 b1 2))).toNat (JaF s1 b1 2) (badT s1 b1 2)
def decR (s:ByteArray):Txn × Int × Int:=dec1 s (Jau s false 1) (JaF s false 1) (badT s false 1)
theorem JlK {s t1 s1:ByteArray} {b1:Bool} (h:(!(t1.toList == [84]))=true):dec1 s t1 s1 b1=(txn0,0,2):=by unfold dec1; rw [h]; rfl
theorem JkR {s t1 s1:ByteArray} {b1:Bool} (h:(!(t1.toList == [84]))=false) {n:Nat} (hn:valI (bs (Jau s1 b1 2))=(n:Int)):dec1 s t1 s1 b1=dec2 s n (JaF s1 b1 2) (badT s1 b1 2):=by unfold dec1; rw [h,hn]; rfl
theorem JlJ {s s2:ByteArray} {n:Nat} {b2:Bool} (h:b2=true):dec2 s n s2 b2=(txn0,0,2):=by unfold dec2; rw [h]; rfl
theorem JlI {s s2:ByteArray} {n:Nat} {b2:Bool} (h:1024<(n:Int)):dec2 s n s2 b2=(txn0,0,2):=by unfold dec2; rw [zB0 h,Bool.or_true]; rfl
theorem JkQ {s s2:ByteArray} {n:Nat} {b2:Bool} (h:¬ b2=true) (h':(n:Int)<=1024):dec2 s n s2 b2=dec3 s n (Jau s2 b2 n) (JaF s2 b2 n) (badT s2 b2 n):=by
 unfold dec2; rw [zQ0.2 h,zA7 qH1]; rfl
theorem JlH {s B:ByteArray} {n:Nat} {sum:Int} {b4:Bool} (h:b4=true):dec4 s n B sum b4=(txn0,0,2):=by unfold dec4; rw [h]; rfl
theorem JlG {s B:ByteArray} {n:Nat} {sum:Int} {b4:Bool} (h:b4=false) (h':(((sumN (bs (s.extract 0 (3+n))):Nat):Int) != sum)=true):dec4 s n B sum b4=(txn0,0,5):=by unfold dec4; rw [h,h']; rfl
theorem JoN {s B:ByteArray} {n:Nat} {sum:Int} {b4:Bool} (h:b4=false) (h':(((sumN (bs (s.extract 0 (3+n))):Nat):Int) != sum)=false):dec4 s n B sum b4=dB1 n B false:=by unfold dec4; rw [h,h']; rfl
theorem JlM {n z o ss v ow:Int} {p d s:ByteArray} {b:Bool} (h:b=true):dB10 n z o ss v ow p d s b=(txn0,0,2):=by unfold dB10; rw [h]; rfl
theorem JjV {n z o ss v ow:Int} {p d s:ByteArray} {b:Bool} (h:(!s.toList.isEmpty)=true):dB10 n z o ss v ow p d s b=(txn0,0,2):=by unfold dB10; rw [h,Bool.or_true]; rfl
theorem JlL {n z o ss v ow:Int} {p d s:ByteArray} {b:Bool} (h:¬ b=true) (h':(!s.toList.isEmpty)=false) (hg:(Jat ⟨z,o,ss,p,d,v,ow⟩ != 0)=true):dB10 n z o ss v ow p d s b=(txn0,0,Jat ⟨z,o,ss,p,d,v,ow⟩):=by unfold dB10; rw [zQ0.2 h,h',hg]; rfl
theorem JkS {n z o ss v ow:Int} {p d s:ByteArray} {b:Bool} (h:¬ b=true) (h':(!s.toList.isEmpty)=false) (hg:(Jat ⟨z,o,ss,p,d,v,ow⟩ != 0)=false):dB10 n z o ss v ow p d s b=(⟨z,o,ss,p,d,v,ow⟩,n+7,0):=by unfold dB10; rw [zQ0.2 h,h',hg]; rfl
def valN (l:List UInt8):Nat:=l.foldl (fun v c=>v*256+c.toNat) 0
theorem JcW (l:List UInt8) (c:UInt8):valN (l ++ [c])=valN l*256+c.toNat:=by unfold valN; rw [zI2]; rfl
theorem Jco {P:List UInt8->Prop} (h0:P []) (h1:∀ l c,P l->P (l ++ [c])) (l:List UInt8):P l:=by
 rw [<-List.reverse_reverse l]
 induction l.reverse with
 | nil=>exact h0
 | cons c r ih=>rw [List.reverse_cons]; exact h1 _ _ ih
theorem JhR (l:List UInt8):valN l<256 ^ l.length:=by
 refine Jco (P:=fun l=>valN l<256 ^ l.length) ?_ ?_ l
 ·exact Nat.one_pos
 ·intro l c h
  have:=c.toNat_lt;rw [JcW,zA9,zM4,zI4];omega
theorem JeC (l:List UInt8) (h:l.length<=7):valI l=(valN l:Int):=by
 revert h
 refine Jco (P:=fun l=>l.length<=7->valI l=(valN l:Int)) ?_ ?_ l
 ·intro _; rfl
 ·intro l c ih h
  rw [zA9,zM4] at h;have hl:valN (l ++ [c])<256 ^ 7:=zD0 (JhR _) (zO0 qG1 (by rw [zA9,zM4]; exact h))
  rw [JfW,ih qH1,JcW];rw [JcW] at hl;unfold wrap64;omega
theorem JiU (s:ByteArray) (b:Bool) (n:Nat):(bs (Jau s b n)).length<=n:=by
 unfold Jau;split
 ·exact zB9 _
 ·rw [zC1,zH5]; omega
theorem valT (s:ByteArray) (b:Bool) (n:Nat) (hn:n<=7):∃ k:Nat,valI (bs (Jau s b n))=(k:Int)/\k<256 ^ n:=
 ⟨valN _,JeC _ (zB5 (JiU s b n) hn),zD0 (JhR _) (zO0 qG1 (JiU s b n))⟩
theorem JaT (s:ByteArray) (b:Bool) (n:Nat):(JaF s b n).size<=s.size:=by
 unfold JaF;split
 ·exact zA3 _
 ·rw [zH5]; omega
theorem JaC (s:ByteArray) (i j:Nat):bs (s.extract i j)=((bs s).take j).drop i:=by
 unfold bs;simp [ByteArray.data_extract,List.drop_take]
theorem Jl7 {s:ByteArray} {b:Bool} {n:Nat} (h:badT s b n=false):b=false/\bs (Jau s b n)=(bs s).take n/\bs (JaF s b n)=(bs s).drop n/\n<=s.size:=by
 have hb:=h;unfold badT at h;rw [zN5] at h;obtain ⟨h1,h2⟩:=h;have h3:n<=s.size:=by have:=of_decide_eq_false h2; omega
 refine ⟨h1,?_,?_,h3⟩
 ·unfold Jau
  rw [hb];simp only [zC7,if_false];rw [JaC,zJ1]
 ·unfold JaF
  rw [hb];simp only [zC7,if_false];rw [JaC,zG4 qW0]
abbrev bS (l:List UInt8):ByteArray:=⟨l.toArray⟩
theorem Jb2 (l:List UInt8):bs (bS l)=l:=rfl
theorem bS_bs (s:ByteArray):bS (bs s)=s:=by
 apply ByteArray.ext;simp [bs]
theorem bS_add (l:List UInt8) (m:ByteArray):bS l ++ m=bS (l ++ bs m):=by
 apply ByteArray.ext;simp [bs]
theorem JaN (l:List UInt8):(bS l).size=l.length:=by show l.toArray.size=_; simp
theorem JiJ (c:UInt8) (l:List UInt8):valN (c :: l)=c.toNat*256 ^ l.length+valN l:=by
 refine Jco (P:=fun l=>valN (c :: l)=c.toNat*256 ^ l.length+valN l) ?_ ?_ l
 ·show 0*256+c.toNat=c.toNat*1+0
  omega
 ·intro l d ih
  rw [<-zF9,JcW,ih,JcW,zA9,zM4,zI4,Nat.add_mul,<-Nat.mul_assoc];omega
theorem JfV:∀ (n x:Nat),valN (be n x)=x % 256 ^ n
 | 0,x=>by rw [Nat.pow_zero,Nat.mod_one]; rfl
 | n+1,x=>by
  have h:be (n+1) x=UInt8.ofNat (x / 256 ^ n) :: be n x:=rfl;rw [h,JiJ,JfV n x,Jap,Nat.mod_pow_succ,zL8,Nat.add_comm];congr 2
theorem be_add:∀ (n a v:Nat),be n (a*256 ^ n+v)=be n v
 | 0,_,_=>rfl
 | n+1,a,v=>by
  have e:a*256 ^ (n+1)+v=(a*256)*256 ^ n+v:=by rw [zI4,zL8 (256 ^ n),Nat.mul_assoc]
  rw [e];show UInt8.ofNat (((a*256)*256 ^ n+v) / 256 ^ n) :: be n ((a*256)*256 ^ n+v)=UInt8.ofNat (v / 256 ^ n) :: be n v;rw [be_add n (a*256) v,Nat.add_comm,Nat.add_mul_div_right _ _ (Nat.pow_pos qG1)];congr 1;apply UInt8.toNat_inj.1;simp
theorem JkW:∀ (l:List UInt8),be l.length (valN l)=l
 | []=>rfl
 | c :: l=>by
  have h:valN (c :: l)=c.toNat*256 ^ l.length+valN l:=JiJ c l;have hl:=JhR l;rw [h];show UInt8.ofNat ((c.toNat*256 ^ l.length+valN l) / 256 ^ l.length) :: be l.length (c.toNat*256 ^ l.length+valN l)=_;rw [be_add,JkW l,Nat.add_comm,Nat.add_mul_div_right _ _ (Nat.pow_pos qG1),Nat.div_eq_of_lt hl];congr 1;apply UInt8.toNat_inj.1;simp
theorem JiK (l:List UInt8):valI l=wrap64 (valN l:Int):=by
 refine Jco (P:=fun l=>valI l=wrap64 (valN l:Int)) ?_ ?_ l
 ·show (0:Int)=wrap64 0
  unfold wrap64;omega
 ·intro l c ih
  rw [JfW,ih,JcW];unfold wrap64;omega
theorem Jpn (x:Nat):be 1 x=[UInt8.ofNat x]:=by
 show [UInt8.ofNat (x / 256 ^ 0)]=_;rw [Nat.pow_zero,Nat.div_one]
theorem eat {x y:List UInt8} {n:Nat} (h:x.length=n):badT (bS (x ++ y)) false n=false/\Jau (bS (x ++ y)) false n=bS x/\JaF (bS (x ++ y)) false n=bS y:=by
 have hb:badT (bS (x ++ y)) false n=false:=by
  unfold badT;rw [zP1,JaN,zA9];exact zA7 qH1
 obtain ⟨_,h2,h3,_⟩:=Jl7 hb;refine ⟨hb,Jbs ?_,Jbs ?_⟩
 ·rw [h2,Jb2,Jb2,<-h,zH2]
 ·rw [h3,Jb2,Jb2,<-h,zN0]
theorem JoM (B C more:List UInt8) (n:Nat) (hn:n<=1024) (hB:B.length=n) (hC:C.length=4) :
  decR (bS ([84] ++ (be 2 n ++ (B ++ (C ++ more)))))=bif ((sumN ([84] ++ be 2 n ++ B):Nat):Int) != (valN C:Int) then (txn0,0,5) else dB1 n (bS B) false:=by
 have e1:=eat (x:=[84]) (y:=be 2 n ++ (B ++ (C ++ more))) (n:=1) rfl;have e2:=eat (x:=be 2 n) (y:=B ++ (C ++ more)) (n:=2) (Jap _ _);have e3:=eat (x:=B) (y:=C ++ more) (n:=n) hB;have e4:=eat (x:=C) (y:=more) (n:=4) hC;have hv:valI (bs (bS (be 2 n)))=(n:Int):=by
  rw [Jb2,JeC _ (by rw [Jap]; decide),JfV,zN1 qH1]
 have hx:bs ((bS ([84] ++ (be 2 n ++ (B ++ (C ++ more))))).extract 0 (3+n))=[84] ++ be 2 n ++ B:=by
  rw [JaC,zJ1,Jb2];have:[84] ++ (be 2 n ++ (B ++ (C ++ more)))=([84] ++ be 2 n ++ B) ++ (C ++ more):=by simp only [zC0]
  rw [this,List.take_left' (by simp [Jap]; omega)]
 unfold decR;rw [e1.1,e1.2.1,e1.2.2];have h0:(!((bS [84]).toList == [84]))=false:=by rw [zE4]; rfl
 rw [JkR h0 (n:=n) (by rw [e2.2.1]; exact hv),e2.1,e2.2.2,JkQ qG1 qH1,e3.1,e3.2.1,e3.2.2]
 unfold dec3;rw [e4.1,e4.2.1,Jb2,JeC _ qH1];unfold dec4;rw [hx];rfl
theorem dB1_eval (n:Int) (z o s v ow:Nat) (p d:List UInt8) (hz:z<4611686018427387904) (ho:o<256) (hs:s<4294967296) (hv:v<4294967296) (how:ow<4294967296) (hp:p.length<256) (hd:d.length<65536) :
  dB1 n (bS (JdP z o s v ow p d)) false=dB10 n z o s v ow (bS p) (bS d) (bS []) false:=by
 have hb:JdP z o s v ow p d=be 8 z ++ (be 1 o ++ (be 4 s ++ (be 4 v ++ (be 4 ow ++ (be 1 p.length ++ (p ++ (be 2 d.length ++ (d ++ [])))))))):=by
  unfold JdP;simp only [zC0,Jpn,zE9]
 have f8:valI (bs (bS (be 8 z)))=(z:Int):=by
  rw [Jb2,JiK,JfV,zN1 qH1];unfold wrap64;omega
 have fk:∀ (k x:Nat),k<=7->x<256 ^ k->valI (bs (bS (be k x)))=(x:Int):=by
  intro k x hk hx;rw [Jb2,JeC _ (by rw [Jap]; exact hk),JfV,zN1 hx]
 rw [hb];unfold dB1;have e:=eat (x:=be 8 z) (y:=be 1 o ++ (be 4 s ++ (be 4 v ++ (be 4 ow ++ (be 1 p.length ++ (p ++ (be 2 d.length ++ (d ++ [])))))))) (n:=8) (Jap _ _);rw [e.1,e.2.1,e.2.2,f8];unfold dB2;have e:=eat (x:=be 1 o) (y:=be 4 s ++ (be 4 v ++ (be 4 ow ++ (be 1 p.length ++ (p ++ (be 2 d.length ++ (d ++ []))))))) (n:=1) (Jap _ _);rw [e.1,e.2.1,e.2.2,fk 1 o qG1 qH1];unfold dB3;have e:=eat (x:=be 4 s) (y:=be 4 v ++ (be 4 ow ++ (be 1 p.length ++ (p ++ (be 2 d.length ++ (d ++ [])))))) (n:=4) (Jap _ _);rw [e.1,e.2.1,e.2.2,fk 4 s qG1 qH1];unfold dB4;have e:=eat (x:=be 4 v) (y:=be 4 ow ++ (be 1 p.length ++ (p ++ (be 2 d.length ++ (d ++ []))))) (n:=4) (Jap _ _);rw [e.1,e.2.1,e.2.2,fk 4 v qG1 qH1];unfold dB5;have e:=eat (x:=be 4 ow) (y:=be 1 p.length ++ (p ++ (be 2 d.length ++ (d ++ [])))) (n:=4) (Jap _ _);rw [e.1,e.2.1,e.2.2,fk 4 ow qG1 qH1];unfold dB6;have e:=eat (x:=be 1 p.length) (y:=p ++ (be 2 d.length ++ (d ++ []))) (n:=1) (Jap _ _);rw [e.1,e.2.1,e.2.2,fk 1 p.length qG1 qH1,zG9];unfold dB7;have e:=eat (x:=p) (y:=be 2 d.length ++ (d ++ [])) (n:=p.length) rfl;rw [e.1,e.2.1,e.2.2];unfold dB8;have e:=eat (x:=be 2 d.length) (y:=d ++ []) (n:=2) (Jap _ _);rw [e.1,e.2.1,e.2.2,fk 2 d.length qG1 qH1,zG9];unfold dB9;have e:=eat (x:=d) (y:=[]) (n:=d.length) rfl;rw [e.1,e.2.1,e.2.2]
theorem Jdg (t:Txn):(recT t).length=(JdP t.zxid.toNat t.op.toNat t.session.toNat t.version.toNat t.owner.toNat (bs t.path) (bs t.data)).length+7:=by
 unfold recT recL Jg4;simp [Jap];omega
theorem Jd8 (t:Txn) (h:Jat t=0):(JdP t.zxid.toNat t.op.toNat t.session.toNat t.version.toNat t.owner.toNat (bs t.path) (bs t.data)).length<=1024:=by
 have f:=Jdk t h;have:=f.d1;have:=f.p1;rw [JcP,zC1,zC1];omega
theorem Jpf (t:Txn) (h:Jat t=0) (n:Int):dB1 n (bS (JdP t.zxid.toNat t.op.toNat t.session.toNat t.version.toNat t.owner.toNat (bs t.path) (bs t.data))) false=(t,n+7,0):=by
 have f:=Jdk t h;have f1:=f.d1;have f2:=f.p1;have f3:=f.z0;have f4:=f.z1;have f5:=f.o0;have f6:=f.o1;have f7:=f.s0;have f8:=f.s1;have f9:=f.v0;have f10:=f.v1;have f11:=f.w0;have f12:=f.w1;rw [dB1_eval n _ _ _ _ _ _ _ qH1 qH1 qH1 qH1 qH1 (by rw [zC1]; omega) (by rw [zC1]; omega)]
 rw [zP5 f3,zP5 (show 0<=t.op by omega),zP5 (show 0<=t.session by omega),zP5 f9,zP5 f11,bS_bs,bS_bs]
 exact JkS qG1 (by rw [zE4]; rfl) (by show (Jat t != 0)=false; rw [h]; rfl)
theorem Jiu (t:Txn) (h:Jat t=0) (more:List UInt8):decR (bS (recT t ++ more))=(t,((recT t).length:Int),0):=by
 have hB:=Jd8 t h;have hl:=Jdg t;have he:=fun n=>Jpf t h n
 rw [hl];unfold recT;generalize JdP t.zxid.toNat t.op.toNat t.session.toNat t.version.toNat t.owner.toNat (bs t.path) (bs t.data)=B at *;have e:recL B ++ more=[84] ++ (be 2 B.length ++ (B ++ (be 4 (sumN (Jg4 B)) ++ more))):=by
  unfold recL Jg4;simp only [zC0]
 rw [e,JoM B _ more B.length hB rfl (Jap _ _),JfV,zN1 (show sumN (Jg4 B)<256 ^ 4 from Jkg _)]
 have e2:(((sumN ([84] ++ be 2 B.length ++ B):Nat):Int) != ((sumN (Jg4 B):Nat):Int))=false:=by unfold Jg4; simp
 rw [e2,he];simp
theorem JcX {s:ByteArray} {b:Bool} {n:Nat} (h:badT s b n=false):b=false/\bs s=bs (Jau s b n) ++ bs (JaF s b n)/\(bs (Jau s b n)).length=n:=by
 obtain ⟨h1,h2,h3,h4⟩:=Jl7 h;refine ⟨h1,?_,?_⟩
 ·rw [h2,h3,zD7]
 ·rw [h2,zC2,zC1]
  omega
theorem val7 {l:List UInt8} {n:Nat} (h:l.length=n) (hn:n<=7):be n (valI l).toNat=l:=by
 rw [JeC l qH1,zG9,<-h,JkW]
theorem val8 {l:List UInt8} (h:l.length=8) (h0:0<=valI l):be 8 (valI l).toNat=l:=by
 have hl:=JhR l;rw [h] at hl;have e:(valI l).toNat=valN l:=by
  rw [JiK] at *;unfold wrap64 at *;omega
 rw [e,<-h,JkW]
theorem dB1_inv (n:Int) (B:ByteArray):(∃ t,Jat t=0/\bs B=JdP t.zxid.toNat t.op.toNat t.session.toNat t.version.toNat t.owner.toNat (bs t.path) (bs t.data)/\dB1 n B false=(t,n+7,0))\/∃ e,e≠0/\dB1 n B false=(txn0,0,e):=by
 unfold dB1 dB2 dB3 dB4 dB5 dB6 dB7 dB8 dB9;generalize hu1:JaF B false 8=u1;generalize hc1:badT B false 8=c1;generalize hu2:JaF u1 c1 1=u2;generalize hc2:badT u1 c1 1=c2;generalize hu3:JaF u2 c2 4=u3;generalize hc3:badT u2 c2 4=c3;generalize hu4:JaF u3 c3 4=u4;generalize hc4:badT u3 c3 4=c4;generalize hu5:JaF u4 c4 4=u5;generalize hc5:badT u4 c4 4=c5;generalize hu6:JaF u5 c5 1=u6;generalize hc6:badT u5 c5 1=c6;generalize hpl:(valI (bs (Jau u5 c5 1))).toNat=pl;generalize hu7:JaF u6 c6 pl=u7;generalize hc7:badT u6 c6 pl=c7;generalize hu8:JaF u7 c7 2=u8;generalize hc8:badT u7 c7 2=c8;generalize hdl:(valI (bs (Jau u7 c7 2))).toNat=dl;generalize hu9:JaF u8 c8 dl=u9;generalize hc9:badT u8 c8 dl=c9;cases hb:c9 with
 | true=>exact .inr ⟨2,by decide,JlM rfl⟩
 | false=>
  cases hm:!u9.toList.isEmpty with
  | true=>exact .inr ⟨2,by decide,JjV hm⟩
  | false=>
   cases hg:Jat ⟨valI (bs (Jau B false 8)),valI (bs (Jau u1 c1 1)),valI (bs (Jau u2 c2 4)),Jau u6 c6 pl,Jau u8 c8 dl,valI (bs (Jau u3 c3 4)),valI (bs (Jau u4 c4 4))⟩ != 0 with
   | true=>exact .inr ⟨_,zC9.1 hg,JlL qG1 hm hg⟩
   | false=>
    have hg0:Jat ⟨valI (bs (Jau B false 8)),valI (bs (Jau u1 c1 1)),valI (bs (Jau u2 c2 4)),Jau u6 c6 pl,Jau u8 c8 dl,valI (bs (Jau u3 c3 4)),valI (bs (Jau u4 c4 4))⟩=0:=by simpa using hg
    refine .inl ⟨_,hg0,?_,JkS qG1 hm hg⟩;have f:=Jdk _ hg0;have f0:=f.z0;dsimp only at f0 ⊢;have k9:=JcX (hc9.trans hb);have k8:=JcX (hc8.trans k9.1);have k7:=JcX (hc7.trans k8.1);have k6:=JcX (hc6.trans k7.1);have k5:=JcX (hc5.trans k6.1);have k4:=JcX (hc4.trans k5.1);have k3:=JcX (hc3.trans k4.1);have k2:=JcX (hc2.trans k3.1);have k1:=JcX (hc1.trans k2.1);have h9:bs u9=[]:=by
     rw [zE4] at hm;unfold bs;simpa using hm
    have v1:=val8 k1.2.2 f0;have v2:=val7 k2.2.2 qG1;have v3:=val7 k3.2.2 qG1;have v4:=val7 k4.2.2 qG1;have v5:=val7 k5.2.2 qG1;have v6:=val7 k6.2.2 qG1;have v8:=val7 k8.2.2 qG1;rw [hpl] at v6;rw [hdl] at v8;rw [k1.2.1,hu1,k2.2.1,hu2,k3.2.1,hu3,k4.2.1,hu4,k5.2.1,hu5,k6.2.1,hu6,k7.2.1,hu7,k8.2.1,hu8,k9.2.1,hu9,h9];unfold JdP;rw [v1,<-Jpn,v2,v3,v4,v5,k7.2.2,<-Jpn,v6,k9.2.2,v8];simp only [zC0,zE9]
theorem dec_inv (s:ByteArray):(∃ t rest,Jat t=0/\bs s=recT t ++ rest/\decR s=(t,((recT t).length:Int),0))\/∃ e,e≠0/\decR s=(txn0,0,e):=by
 unfold decR;generalize hu1:JaF s false 1=s1;generalize hc1:badT s false 1=b1;cases h1:!((Jau s false 1).toList == [84]) with
 | true=>exact .inr ⟨2,by decide,JlK h1⟩
 | false=>
  obtain ⟨n,hn,_⟩:=valT s1 b1 2 qG1;rw [JkR h1 hn];generalize hu2:JaF s1 b1 2=s2;generalize hc2:badT s1 b1 2=b2;cases hb2:b2 with
  | true=>exact .inr ⟨2,by decide,JlJ rfl⟩
  | false=>
   by_cases hbig:1024<(n:Int)
   ·exact .inr ⟨2,by decide,JlI hbig⟩
   ·rw [JkQ qG1 qH1]
    unfold dec3;rw [<-hb2];generalize hu3:JaF s2 b2 n=s3;generalize hc3:badT s2 b2 n=b3;generalize hc4:badT s3 b3 4=b4;cases hb4:b4 with
    | true=>exact .inr ⟨2,by decide,JlH rfl⟩
    | false=>
     cases hs:((sumN (bs (s.extract 0 (3+n))):Nat):Int) != valI (bs (Jau s3 b3 4)) with
     | true=>exact .inr ⟨5,by decide,JlG rfl hs⟩
     | false=>
      rw [JoN rfl hs];rcases dB1_inv n (Jau s2 b2 n) with ⟨t,hg,hB,hd⟩ | h
      ·have k4:=JcX (hc4.trans hb4)
       have k3:=JcX (hc3.trans k4.1);have k2:=JcX (hc2.trans hb2);have k1:=JcX (hc1.trans k2.1);have ht:bs (Jau s false 1)=[84]:=by
        rw [zE4] at h1;unfold bs;simpa using h1
       have hn2:=val7 k2.2.2 qG1;rw [hn,zG9] at hn2;have hv4:=val7 k4.2.2 qG1;have es:bs s=[84] ++ (be 2 n ++ (bs (Jau s2 b2 n) ++ (bs (Jau s3 b3 4) ++ bs (JaF s3 b3 4)))):=by
        rw [k1.2.1,hu1,ht,k2.2.1,hu2,<-hn2,k3.2.1,hu3,k4.2.1]
       have hlen:=k3.2.2;generalize bs (Jau s2 b2 n)=B at *;have hx:bs (s.extract 0 (3+n))=[84] ++ be 2 n ++ B:=by
        rw [JaC,zJ1,es];have:[84] ++ (be 2 n ++ (B ++ (bs (Jau s3 b3 4) ++ bs (JaF s3 b3 4))))=([84] ++ be 2 n ++ B) ++ (bs (Jau s3 b3 4) ++ bs (JaF s3 b3 4)):=by simp only [zC0]
        rw [this,List.take_left' (by simp [Jap]; omega)]
       rw [hx] at hs;have hs2:((sumN ([84] ++ be 2 n ++ B):Nat):Int)=valI (bs (Jau s3 b3 4)):=by simpa using hs
       rw [<-hs2,zG9] at hv4;have er:recT t=[84] ++ (be 2 n ++ (B ++ bs (Jau s3 b3 4))):=by
        unfold recT recL Jg4;rw [<-hB,hlen,hv4];simp only [zC0]
       refine .inl ⟨t,bs (JaF s3 b3 4),hg,?_,?_⟩
       ·rw [es,er]
        simp only [zC0]
       ·rw [hd,er]
        simp [Jap,hlen,k4.2.2];omega
      ·exact .inr h
def Jez (l:List Txn):Prop:=(∀ t∈l,Jat t=0)/\l.Pairwise (fun a b=>a.zxid<b.zxid)
def recs (l:List Txn):List UInt8:=l.flatMap recT
theorem Jb9 (t:Txn) (l:List Txn):recs (t :: l)=recT t ++ recs l:=rfl
theorem JaR (l m:List Txn):recs (l ++ m)=recs l ++ recs m:=by unfold recs; rw [zF6]
theorem Jdf (t:Txn):recs [t]=recT t:=by unfold recs; simp
theorem Jeq {a b:Txn} (ha:Jat a=0) (hb:Jat b=0) {x y:List UInt8} (h:recT a ++ x=recT b ++ y):a=b/\x=y:=by
 have h1:=Jiu a ha x;rw [h,Jiu b hb y] at h1;have e:b=a:=congrArg Prod.fst h1;subst e;exact ⟨rfl,List.append_cancel_left h⟩
theorem Jh0 (t:Txn):7<=(recT t).length:=by rw [Jdg]; omega
theorem Jcs (l:List Txn) (t:Txn):Jao (l ++ [t])=t.zxid:=by unfold Jao; simp
theorem JbW {l:List Txn} (h:l≠[]):∃ t∈l,Jao l=t.zxid:=by
 refine ⟨l.getLast h,List.getLast_mem h,?_⟩;unfold Jao;rw [List.getLast?_eq_some_getLast h]
theorem Jjl (a b:Txn) (r:List Txn):Jao (a :: b :: r)=Jao (b :: r):=by unfold Jao; rw [List.getLast?_cons_cons]
theorem Jhn {l:List Txn} {t:Txn} (h:Jez l) (ht:Jat t=0) (hz:l=[]\/Jao l<t.zxid):Jez (l ++ [t]):=by
 refine ⟨fun x hx=>?_,?_⟩
 ·rcases zE7.1 hx with hx | hx
  ·exact h.1 x hx
  ·rw [zE3.1 hx]; exact ht
 ·rw [zH3]
  refine ⟨h.2,zO3 _ _,fun a ha b hb=>?_⟩
  rw [zE3.1 hb];rcases hz with rfl | hz
  ·cases ha
  ·refine Int.lt_of_le_of_lt ?_ hz
   have key:∀ (l:List Txn),l.Pairwise (fun a b=>a.zxid<b.zxid)->∀ a∈l,a.zxid<=Jao l:=by
    intro l
    induction l with
    | nil=>intro _ a ha; cases ha
    | cons x r ih=>
     intro hp a ha;cases r with
     | nil=>rw [zE3.1 ha]; exact zD6 _
     | cons y r=>
      have hp2:=zG7.1 hp;rcases zE2.1 ha with rfl | ha
      ·obtain ⟨t,ht,e⟩:=JbW (l:=y :: r) qI1
       rw [Jjl,e];exact Int.le_of_lt (hp2.1 t ht)
      ·rw [Jjl]; exact ih hp2.2 a ha
   exact key l h.2 a ha
def JcA (l:List Txn) (s:List UInt8):Prop:=∀ t rest,Jat t=0->s=recT t ++ rest->l≠[]/\t.zxid<=Jao l
def Jfg (s:List UInt8) (l:List Txn) (n:Nat):Prop:=Jez l/\n=(recs l).length/\∃ rest,s=recs l ++ rest/\JcA l rest
theorem JeN:∀ (l m p:List Txn) (x y:List UInt8),Jez (p ++ l)->Jez (p ++ m)->recs l ++ x=recs m ++ y->JcA (p ++ l) x->JcA (p ++ m) y->l=m
 | [],[],_,_,_,_,_,_,_,_=>rfl
 | [],b :: m,p,x,y,hl,hm,h,hx,_=>by
  exfalso;rw [zE9] at hx;have hb:Jat b=0:=hm.1 b qI1;rw [Jb9,zC0] at h;obtain ⟨h1,h2⟩:=hx b _ hb h;obtain ⟨t,ht,e⟩:=JbW h1;have h3:=(zH3.1 hm.2).2.2 t ht b qI1;omega
 | a :: l,[],p,x,y,hl,hm,h,_,hy=>by
  exfalso;rw [zE9] at hy;have hb:Jat a=0:=hl.1 a qI1;rw [Jb9,zC0] at h;obtain ⟨h1,h2⟩:=hy a _ hb h.symm;obtain ⟨t,ht,e⟩:=JbW h1;have h3:=(zH3.1 hl.2).2.2 t ht a qI1;omega
 | a :: l,b :: m,p,x,y,hl,hm,h,hx,hy=>by
  rw [Jb9,Jb9,zC0,zC0] at h;obtain ⟨rfl,h2⟩:=Jeq (hl.1 a qI1) (hm.1 b qI1) h;have e:∀ q:List Txn,p ++ a :: q=(p ++ [a]) ++ q:=fun q=>by simp
  rw [e] at hl hm hx hy;rw [JeN l m (p ++ [a]) x y hl hm h2 hx hy]
theorem Ji3 {s:List UInt8} {l m:List Txn} {n k:Nat} (h1:Jfg s l n) (h2:Jfg s m k):l=m/\n=k:=by
 obtain ⟨a1,a2,x,a3,a4⟩:=h1;obtain ⟨b1,b2,y,b3,b4⟩:=h2;have e:=JeN l m [] x y a1 b1 (a3.symm.trans b3) a4 b4;exact ⟨e,by rw [a2,b2,e]⟩
theorem JcZ (l:List Txn):JcA l []:=by
 intro t rest _ h;have:=Jh0 t;have h2:=congrArg List.length h;simp at h2;omega
theorem Jmm {t:Txn} (ht:Jat t=0) (l:List Txn) {k:Nat} (hk:k<(recT t).length):JcA l ((recT t).take k):=by
 intro x rest hx h;exfalso;have e:recT t ++ []=recT x ++ (rest ++ (recT t).drop k):=by
  rw [<-zC0,<-h,zD7,zE9]
 obtain ⟨rfl,e2⟩:=Jeq ht hx e;have h3:=congrArg List.length e2;simp at h3;omega
theorem JhY {l:List Txn} (h:Jez l) {rest:List UInt8} (hr:JcA l rest):Jfg (recs l ++ rest) l (recs l).length:=⟨h,rfl,rest,rfl,hr⟩
theorem JnH {l:List Txn} (h:Jez l):Jfg (recs l) l (recs l).length:=by
 have:=JhY h (JcZ l)
 rwa [zE9] at this
theorem JdW {l:List Txn} (h:∀ t∈l,Jat t=0):(recs l).length<=l.length*1031/\l.length*31<=(recs l).length:=by
 induction l with
 | nil=>exact ⟨zA3 _,zA3 _⟩
 | cons a r ih=>
  have h1:=ih (fun t ht=>h t (zF2 _ ht))
  have h2:=Jd8 a (h a qI1);rw [Jb9,zA9,zD5,Jdg];rw [JcP] at *;omega
end
section
open Go.RowKit Go.ChangeShapes Go.WideShapes Go.ChangeAt
def Blk (W:World) (B:Nat) (cs:Array Value) (t:TypeId):Prop:=W.heap[B]?=some (.cells cs t (0,0))
theorem Blk.lt {W:World} {B:Nat} {cs:Array Value} {t:TypeId} (h:Blk W B cs t):B<W.heap.size:=(zL2.1 h).1
theorem Blk.cell {W:World} {B:Nat} {cs:Array Value} {t:TypeId} (h:Blk W B cs t) (i:Nat):W.cell? ⟨B,i,none⟩=cs[i]?:=by simp [World.cell?,show W.heap[B]?=_ from h]
theorem Blk.frozen {W:World} {B:Nat} {cs:Array Value} {t:TypeId} (h:Blk W B cs t) (i:Nat):W.frozen? ⟨B,i,none⟩=false:=by simp [World.frozen?,show W.heap[B]?=_ from h]
theorem Blk.new (W:World) (t:TypeId) (cs:Array Value):Blk (W.alloc (.cells cs t)) W.heap.size cs t:=World.alloc_heap_new W _
theorem Blk.kept {W W':World} {row:Option Nat} {B:Nat} {cs:Array Value} {t:TypeId} (h:Blk W B cs t) (hg:W.grownBy W' row) (hne:some B≠row):Blk W' B cs t:=(hg.block B h.lt hne).trans h
theorem Blk.alloc {W:World} {B:Nat} {cs:Array Value} {t:TypeId} (h:Blk W B cs t) (o:Obj):Blk (W.alloc o) B cs t:=h.kept (World.grownBy_alloc W o none) qI1
theorem Blk.below {W W':World} {B:Nat} {cs:Array Value} {t:TypeId} (h:Blk W B cs t) (hb:Below W.heap.size W W'):Blk W' B cs t:=(hb.block B h.lt).trans h
theorem Blk.set {W:World} {B:Nat} {cs:Array Value} {t:TypeId} (h:Blk W B cs t) (i:Nat) (v:Value):Blk (W.setCell ⟨B,i,none⟩ v) B (cs.setIfInBounds i v) t:=by
 obtain ⟨hlt,hk⟩:=zL2.1 h;show (W.heap.modify B _)[B]?=_;rw [Array.getElem?_eq_getElem (by rw [Array.size_modify]; exact hlt),Array.getElem_modify_self,hk]
 rfl
theorem JoS (W:World) (s:ByteArray) (b:Bool) (t:TypeId):Cur (W.alloc (.cells #[.string s,.bool b] t)) W.heap.size s b:=
 ⟨(Blk.new W t _).cell 0,(Blk.new W t _).cell 1,(Blk.new W t _).frozen 0,(Blk.new W t _).frozen 1⟩
theorem JlP {W W':World} {row:Option Nat} {g:Nat} {s:ByteArray} {b:Bool} (h:Cur W g s b) (hg:W.grownBy W' row) (hne:some g≠row):Cur W' g s b:=by
 have hlt:g<W.heap.size:=World.block_lt_of_cell? W _ h.1;have e:=hg.block g hlt hne;exact ⟨(World.cell?_of_block (w:=W) (a:=⟨g,0,none⟩) e).trans h.1,(World.cell?_of_block (w:=W) (a:=⟨g,1,none⟩) e).trans h.2.1,(World.frozen?_of_block (a:=⟨g,0,none⟩) e).trans h.2.2.1,(World.frozen?_of_block (a:=⟨g,1,none⟩) e).trans h.2.2.2⟩
structure DSt (w W:World) (s:ByteArray) (bad:Bool):Prop where
 bel:Below w.heap.size w W
 z:Blk W w.heap.size #[.int .i64 0,.int .i64 0,.int .i64 0,.string ⟨#[]⟩,.string ⟨#[]⟩,.int .i64 0,.int .i64 0] 39
 c:Cur W (w.heap.size+1) s bad
theorem DSt.lt {w W:World} {s:ByteArray} {b:Bool} (h:DSt w W s b):w.heap.size+1<W.heap.size:=World.block_lt_of_cell? W _ h.c.1
theorem DSt.step {w W W':World} {s s':ByteArray} {b b':Bool} (h:DSt w W s b) (hc:Cur W' (w.heap.size+1) s' b') (hg:W.grownBy W' (some (w.heap.size+1))):DSt w W' s' b':=
 ⟨h.bel.grown hg (by have:=h.lt; omega) (fun k e=>by cases e; omega),h.z.kept hg qI1,hc⟩
theorem DSt.keep {w W W':World} {s:ByteArray} {b:Bool} (h:DSt w W s b) (hb:Below W.heap.size W W'):DSt w W' s b:=
 ⟨h.bel.trans (hb.mono (by have:=h.lt; omega)),h.z.below hb,JgT h.c hb⟩
structure DBt (w W:World) (g:Nat) (s:ByteArray) (bad:Bool):Prop where
 bel:Below w.heap.size w W
 z:Blk W w.heap.size #[.int .i64 0,.int .i64 0,.int .i64 0,.string ⟨#[]⟩,.string ⟨#[]⟩,.int .i64 0,.int .i64 0] 39
 c:Cur W g s bad
 gt:w.heap.size<g
theorem DBt.lt {w W:World} {g:Nat} {s:ByteArray} {b:Bool} (h:DBt w W g s b):g<W.heap.size:=World.block_lt_of_cell? W _ h.c.1
theorem DBt.step {w W W':World} {g:Nat} {s s':ByteArray} {b b':Bool} (h:DBt w W g s b) (hc:Cur W' g s' b') (hg:W.grownBy W' (some g)):DBt w W' g s' b':=
 ⟨h.bel.grown hg (by have:=h.lt; have:=h.gt; omega) (fun k e=>by cases e; have:=h.gt; omega),h.z.kept hg (by have:=h.gt; simp; omega),hc,h.gt⟩
theorem DBt.keep {w W W':World} {g:Nat} {s:ByteArray} {b:Bool} (h:DBt w W g s b) (hb:Below W.heap.size W W'):DBt w W' g s b:=
 ⟨h.bel.trans (hb.mono (by have:=h.lt; have:=h.gt; omega)),h.z.below hb,JgT h.c hb,h.gt⟩
theorem DBt.other {w W W':World} {g k:Nat} {s:ByteArray} {b:Bool} (h:DBt w W g s b) (hg:W.grownBy W' (some k)) (hlt:g<k):DBt w W' g s b:=
 ⟨h.bel.grown hg (by have:=h.lt; have:=h.gt; omega) (fun j e=>by cases e; have:=h.gt; omega),h.z.kept hg (by have:=h.gt; simp; omega),JlP h.c hg qB1,h.gt⟩
theorem Blk.range {W:World} {B:Nat} {cs:Array Value} {t:TypeId} (h:Blk W B cs t):W.rangeAt B 0 cs.toList:=by
 intro j v hv;rw [zG3,h.cell,<-Array.getElem?_toList,hv]
abbrev set7 (W:World) (B:Nat) (t:Txn):World:=((((((W.setCell ⟨B,0,none⟩ (.int .i64 t.zxid)).setCell ⟨B,1,none⟩ (.int .i64 t.op)).setCell ⟨B,2,none⟩ (.int .i64 t.session)).setCell ⟨B,3,none⟩ (.string t.path)).setCell ⟨B,4,none⟩ (.string t.data)).setCell ⟨B,5,none⟩ (.int .i64 t.version)).setCell ⟨B,6,none⟩ (.int .i64 t.owner)
theorem Blk.put {W:World} {B:Nat} {cs:Array Value} {ty:TypeId} (h:Blk W B cs ty) (i:Nat) (v:Value) (cs':Array Value) (e:cs'=cs.setIfInBounds i v):Blk (W.setCell ⟨B,i,none⟩ v) B cs' ty:=by
 rw [e]; exact h.set i v
theorem blk_set7 {W:World} {B:Nat} {x0 x1 x2 x3 x4 x5 x6:Value} {ty:TypeId} (h:Blk W B #[x0,x1,x2,x3,x4,x5,x6] ty) (t:Txn):Blk (set7 W B t) B #[.int .i64 t.zxid,.int .i64 t.op,.int .i64 t.session,.string t.path,.string t.data,.int .i64 t.version,.int .i64 t.owner] ty:=by
 unfold set7;generalize Value.int .i64 t.zxid=v0;generalize Value.int .i64 t.op=v1;generalize Value.int .i64 t.session=v2;generalize Value.string t.path=v3;generalize Value.string t.data=v4;generalize Value.int .i64 t.version=v5;generalize Value.int .i64 t.owner=v6;have h0:=h.put 0 v0 #[v0,x1,x2,x3,x4,x5,x6] rfl;have h1:=h0.put 1 v1 #[v0,v1,x2,x3,x4,x5,x6] rfl;have h2:=h1.put 2 v2 #[v0,v1,v2,x3,x4,x5,x6] rfl;have h3:=h2.put 3 v3 #[v0,v1,v2,v3,x4,x5,x6] rfl;have h4:=h3.put 4 v4 #[v0,v1,v2,v3,v4,x5,x6] rfl;have h5:=h4.put 5 v5 #[v0,v1,v2,v3,v4,v5,x6] rfl;exact h5.put 6 v6 #[v0,v1,v2,v3,v4,v5,v6] rfl
theorem JmY {w W:World} {B:Nat} (h:Below B w W) {C:Nat} (hC:B<=C) (t:Txn):Below B w (set7 W C t):=
 ((((((h.setCell (p:=⟨C,0,none⟩) hC _).setCell (p:=⟨C,1,none⟩) hC _).setCell (p:=⟨C,2,none⟩) hC _).setCell (p:=⟨C,3,none⟩) hC _).setCell (p:=⟨C,4,none⟩) hC _).setCell (p:=⟨C,5,none⟩) hC _).setCell (p:=⟨C,6,none⟩) hC _
theorem Jfm {fn:Func} {p u v:Tmp} {ty:TypeId} (h:fn.results=#[.cell p ty,.tmp u,.tmp v]) (tmps:Array Value) (P:Program) (w:World) (a:Addr) (ha:tmps.getD p undef=.pointer (some a)) (x:Value) (hl:(loadVar ty a).run P w=.ok x w) :
  (results fn tmps).run P w=.ok (.tuple #[x,tmps.getD u undef,tmps.getD v undef]) w:=by
 simp only [results,h];have ha':tmps[p]?.getD undef=.pointer (some a):=by simpa using ha
 simp [Result.andThen,ha',asAddr,hl]
theorem Jdo {s:ByteArray} {w W:World} {a:Act} {t:Txn} {n e:Int} (hr:decR s=(t,n,e)) (bel:Below w.heap.size w W) {x0 x1 x2 x3 x4 x5 x6:Value} (z:Blk W w.heap.size #[x0,x1,x2,x3,x4,x5,x6] 39)
  (hd:a.defers=[]) (h2:a.tmps.getD 2 undef=.pointer (some ⟨w.heap.size,0,none⟩)) (h3:a.tmps.getD 3 undef=.int .i64 n) (h4:a.tmps.getD 4 undef=.int .i64 e) :
  bodyPost Tryz.prog Tryz.f97 (fun e w'=>e=.returned (.tuple #[vTxn (decR s).1,.int .i64 (decR s).2.1,.int .i64 (decR s).2.2])/\Below w.heap.size w w') Exit.ret a (set7 W w.heap.size t):=by
 refine zA1 (Jfm rfl a.tmps Tryz.prog _ _ h2 _ (run_loadVar_mid _ _ _ _ _ _ (Blk.range (blk_set7 z t)) Tryz.underlying39 rfl qE1)) hd ?_;rw [hr,h3,h4];exact ⟨rfl,JmY bel (zA3 _) t⟩
theorem JhI (s:ByteArray) (w:World) (hs:s.size<=281474976710656) :
  Calls Tryz.prog 97 #[.string s] w fun e w'=>e=.returned (.tuple #[vTxn (decR s).1,.int .i64 (decR s).2.1,.int .i64 (decR s).2.2])/\Below w.heap.size w w':=by
 have HSUM:=zA0 (fun (s:ByteArray) (w:World) (h:s.size<=9223372036854775807)=>show Calls Tryz.prog 126 #[.string s] w fun e w'=>∃ n:Nat,e=.returned (.int .i64 n)/\n<4294967296/\Hid (sumN (bs s)=n)/\w=w' from (Jnv s w h).mono fun e w' h=>⟨_,h.1,Jkg _,zA0 rfl,h.2⟩)
 have D0:=zA0 (show DSt w ((w.alloc (.cells #[.int .i64 0,.int .i64 0,.int .i64 0,.string ⟨#[]⟩,.string ⟨#[]⟩,.int .i64 0,.int .i64 0] 39)).alloc (.cells #[.string s,.bool false] 198)) s false from ⟨zL,(Blk.new w _ _).alloc _,(by have h:=JoS (w.alloc (.cells #[.int .i64 0,.int .i64 0,.int .i64 0,.string ⟨#[]⟩,.string ⟨#[]⟩,.int .i64 0,.int .i64 0] 39)) s false 198; simpa using h)⟩)
 go_enter Tryz.func97,Tryz.ntmps97
 go_upto_region 2 with (fail)
 generalize ((w.alloc (.cells #[.int .i64 0,.int .i64 0,.int .i64 0,.string ⟨#[]⟩,.string ⟨#[]⟩,.int .i64 0,.int .i64 0] 39)).alloc (.cells #[.string s,.bool false] 198))=W0 at *;go_upto_region 5 with (first | (go_at_call 124; (refine (JeH _ s false 1 _ D0.out.c qG1 qH1).mono ?_); rintro e W1 ⟨rfl,hc,hg⟩; have D1:=zA0 (D0.out.step hc hg); clear hc hg D0; have HR1:=zA0 (show decR s=dec1 s (Jau s false 1) (JaF s false 1) (badT s false 1) from rfl); have hs1:=JaT s false 1; generalize ht1:Jau s false 1=t1 at *; generalize hs1e:JaF s false 1=s1 at *; generalize hb1e:badT s false 1=b1 at *; have z0:=D1.out.z.cell 0; have z1:=D1.out.z.cell 1; have z2:=D1.out.z.cell 2; have z3:=D1.out.z.cell 3; have z4:=D1.out.z.cell 4; have z5:=D1.out.z.cell 5; have z6:=D1.out.z.cell 6; have zf:=D1.out.z.frozen) | (go_at_call 125; (refine (Jbw _ s1 b1 2 _ D1.out.c qG1 qH1).mono ?_); rintro e W2 ⟨rfl,hc,hg⟩; have D2:=zA0 (D1.out.step hc hg); clear hc hg D1; clear z0 z1 z2 z3 z4 z5 z6 zf; obtain ⟨n,hn,hnl⟩:=valT s1 b1 2 qG1; have HR2:=zA0 (HR1.out.trans (JkR ‹(!t1.toList == [84])=false› hn)); clear HR1; generalize valI (bs (Jau s1 b1 2))=x at *; subst hn; have hs2:=JaT s1 b1 2; generalize hs2e:JaF s1 b1 2=s2 at *; generalize hb2e:badT s1 b1 2=b2 at *; have zb:=D2.out.c.2.1; have z0:=D2.out.z.cell 0; have z1:=D2.out.z.cell 1; have z2:=D2.out.z.cell 2; have z3:=D2.out.z.cell 3; have z4:=D2.out.z.cell 4; have z5:=D2.out.z.cell 5; have z6:=D2.out.z.cell 6; have zf:=D2.out.z.frozen))
 all_goals try (exact Jdo (t:=txn0) (n:=0) (e:=2) (HR1.out.trans (JlK ‹(!t1.toList == [84])=true›)) D1.out.bel D1.out.z rfl rfl rfl rfl)
 go_upto_region 7 with (fail)
 all_goals try (exact Jdo (t:=txn0) (n:=0) (e:=2) (HR2.out.trans (JlJ ‹b2=true›)) D2.out.bel D2.out.z rfl rfl rfl rfl)
 all_goals try (exact Jdo (t:=txn0) (n:=0) (e:=2) (HR2.out.trans (JlI ‹1024<(n:Int)›)) D2.out.bel D2.out.z rfl rfl rfl rfl)
 go_upto_region 8 with (first | (go_at_call 124; (refine (JeH _ s2 b2 n _ D2.out.c qH1 qH1).mono ?_); rintro e W3 ⟨rfl,hc,hg⟩; have D3:=zA0 (D2.out.step hc hg); clear hc hg D2 zb; clear z0 z1 z2 z3 z4 z5 z6 zf; have HR3:=zA0 (HR2.out.trans (JkQ ‹¬ b2=true› ‹(n:Int)<=1024›)); clear HR2; have ht3:=JdU s2 b2 n; have hs3:=JaT s2 b2 n; generalize ht3:Jau s2 b2 n=t3 at *; generalize hs3e:JaF s2 b2 n=s3 at *; generalize hb3e:badT s2 b2 n=b3 at *))
 go_upto_region 11 with (first | (go_at_call 125; have HC3:=zA0 (JoS W3 t3 false 198); have D3b:=zA0 (D3.out.keep (show Below W3.heap.size W3 (World.alloc W3 (.cells #[.string t3,.bool false] 198)) from zL)); have hgt:=D3.out.lt; (refine (Jbw _ s3 b3 4 _ D3b.out.c qG1 qH1).mono ?_); rintro e W4 ⟨rfl,hc,hg⟩; have D4:=zA0 (D3b.out.step hc hg); have HC4:=zA0 (JlP HC3.out hg qB1); clear hc hg D3 D3b HC3; generalize W3.heap.size=g at *; obtain ⟨m,hm,hml⟩:=valT s3 b3 4 qG1; have HR4:=zA0 (show decR s=dec4 s n t3 m (badT s3 b3 4) from HR3.out.trans (by unfold dec3; rw [hm])); clear HR3; generalize valI (bs (Jau s3 b3 4))=x at *; subst hm; have hs4:=JaT s3 b3 4; generalize hs4e:JaF s3 b3 4=s4 at *; generalize hb4e:badT s3 b3 4=b4 at *; have zb:=D4.out.c.2.1; have z0:=D4.out.z.cell 0; have z1:=D4.out.z.cell 1; have z2:=D4.out.z.cell 2; have z3:=D4.out.z.cell 3; have z4:=D4.out.z.cell 4; have z5:=D4.out.z.cell 5; have z6:=D4.out.z.cell 6; have zf:=D4.out.z.frozen))
 all_goals try (exact Jdo (t:=txn0) (n:=0) (e:=2) (HR4.out.trans (JlH ‹b4=true›)) D4.out.bel D4.out.z rfl rfl rfl rfl)
 have hsz:n+7<=s.size:=by
  have k4:=Jl7 (hb4e.trans ‹b4=false›);have k3:=Jl7 (hb3e.trans k4.1);have k2:=Jl7 (hb2e.trans k3.1);have k1:=Jl7 (hb1e.trans k2.1);have l1:=zC1 s1;rw [<-hs1e,k1.2.2.1,zE5,zC1] at l1;have l2:=zC1 s2;rw [<-hs2e,k2.2.2.1,zE5,zC1] at l2;have l3:=zC1 s3;rw [<-hs3e,k3.2.2.1,zE5,zC1] at l3;rw [hs1e] at l1;rw [hs2e] at l2;rw [hs3e] at l3;omega
 go_upto_region 13 with ((go_at_call 126; (refine (HSUM.out _ _ (by rw [zH5]; omega)).mono ?_); rintro e w13 ⟨sm,rfl,hsm,HSM,rfl⟩))
 all_goals try (exact Jdo (t:=txn0) (n:=0) (e:=5) (HR4.out.trans (JlG ‹b4=false› (by rw [HSM.out]; exact ‹((sm:Int) != (m:Int))=true›))) D4.out.bel D4.out.z rfl rfl rfl rfl)
 have HQ0:=zA0 (HR4.out.trans (JoN ‹b4=false› (by rw [HSM.out]; exact ‹((sm:Int) != (m:Int))=false›)))
 have E0:=zA0 (show DBt w W4 g t3 false from ⟨D4.out.bel,D4.out.z,HC4.out,by omega⟩)
 have hu0:t3.size<=s.size:=qCE;clear HR4 D4 HC4 HSM hsz hs1 hs2 hs3 hs4 ht3 z0 z1 z2 z3 z4 z5 z6 zf zb hs1e hs2e hs3e hs4e hb1e hb2e hb3e hb4e HSUM;clear ht1 ht3;go_upto_region 14 with (first | (go_at_call 125; (refine (Jbw _ t3 false 8 _ E0.out.c qG1 qH1).mono ?_); rintro e X1 ⟨rfl,hc,hg⟩; have E1:=zA0 (E0.out.step hc hg); clear hc hg E0; have hu1:=JaT t3 false 8; have HQ1:=zA0 (show decR s=dB2 n (valI (bs (Jau t3 false 8))) (JaF t3 false 8) (badT t3 false 8) from HQ0.out); clear HQ0; generalize valI (bs (Jau t3 false 8))=z at *; generalize JaF t3 false 8=u1 at *; generalize badT t3 false 8=c1 at *) | (go_at_call 125; (refine (Jbw _ u1 c1 1 _ E1.out.c qG1 qH1).mono ?_); rintro e X2 ⟨rfl,hc,hg⟩; have E2:=zA0 (E1.out.step hc hg); clear hc hg E1; have hu2:=JaT u1 c1 1; have HQ2:=zA0 (show decR s=dB3 n z (valI (bs (Jau u1 c1 1))) (JaF u1 c1 1) (badT u1 c1 1) from HQ1.out); clear HQ1; generalize valI (bs (Jau u1 c1 1))=o at *; generalize JaF u1 c1 1=u2 at *; generalize badT u1 c1 1=c2 at *) | (go_at_call 125; (refine (Jbw _ u2 c2 4 _ E2.out.c qG1 qH1).mono ?_); rintro e X3 ⟨rfl,hc,hg⟩; have E3:=zA0 (E2.out.step hc hg); clear hc hg E2; have hu3:=JaT u2 c2 4; have HQ3:=zA0 (show decR s=dB4 n z o (valI (bs (Jau u2 c2 4))) (JaF u2 c2 4) (badT u2 c2 4) from HQ2.out); clear HQ2; generalize valI (bs (Jau u2 c2 4))=ss at *; generalize JaF u2 c2 4=u3 at *; generalize badT u2 c2 4=c3 at *) | (go_at_call 125; (refine (Jbw _ u3 c3 4 _ E3.out.c qG1 qH1).mono ?_); rintro e X4 ⟨rfl,hc,hg⟩; have E4:=zA0 (E3.out.step hc hg); clear hc hg E3; have hu4:=JaT u3 c3 4; have HQ4:=zA0 (show decR s=dB5 n z o ss (valI (bs (Jau u3 c3 4))) (JaF u3 c3 4) (badT u3 c3 4) from HQ3.out); clear HQ3; generalize valI (bs (Jau u3 c3 4))=v at *; generalize JaF u3 c3 4=u4 at *; generalize badT u3 c3 4=c4 at *) | (go_at_call 125; (refine (Jbw _ u4 c4 4 _ E4.out.c qG1 qH1).mono ?_); rintro e X5 ⟨rfl,hc,hg⟩; have E5:=zA0 (E4.out.step hc hg); clear hc hg E4; have hu5:=JaT u4 c4 4; have HQ5:=zA0 (show decR s=dB6 n z o ss v (valI (bs (Jau u4 c4 4))) (JaF u4 c4 4) (badT u4 c4 4) from HQ4.out); clear HQ4; generalize valI (bs (Jau u4 c4 4))=ow at *; generalize JaF u4 c4 4=u5 at *; generalize badT u4 c4 4=c5 at *))
 have E6:=zA0 (E5.out.keep (show Below X5.heap.size X5 (World.alloc X5 (.cells #[.int .i64 z,.int .i64 o,.int .i64 ss,.string ⟨#[]⟩,.string ⟨#[]⟩,.int .i64 v,.int .i64 ow] 39)) from zL))
 have F6:=zA0 (show Blk (World.alloc X5 (.cells #[.int .i64 z,.int .i64 o,.int .i64 ss,.string ⟨#[]⟩,.string ⟨#[]⟩,.int .i64 v,.int .i64 ow] 39)) X5.heap.size #[.int .i64 z,.int .i64 o,.int .i64 ss,.string ⟨#[]⟩,.string ⟨#[]⟩,.int .i64 v,.int .i64 ow] 39 from Blk.new _ _ _)
 have hgT:=E5.out.lt;clear E5;generalize (World.alloc X5 (.cells #[.int .i64 z,.int .i64 o,.int .i64 ss,.string ⟨#[]⟩,.string ⟨#[]⟩,.int .i64 v,.int .i64 ow] 39))=X6 at *;generalize X5.heap.size=gT at *;go_upto_region 15 with (first | (go_at_call 125; (refine (Jbw _ u5 c5 1 _ E6.out.c qG1 qH1).mono ?_); rintro e X7 ⟨rfl,hc,hg⟩; have E7:=zA0 (E6.out.step hc hg); have F7:=zA0 (F6.out.kept hg qB1); clear hc hg E6 F6; have hu7:=JaT u5 c5 1; obtain ⟨pl,hn,hlpl⟩:=valT u5 c5 1 qG1; have HQ7:=zA0 (show decR s=dB7 n z o ss v ow pl (JaF u5 c5 1) (badT u5 c5 1) from HQ5.out.trans (by unfold dB6; rw [hn]; rfl)); clear HQ5; generalize valI (bs (Jau u5 c5 1))=x at *; subst hn; generalize JaF u5 c5 1=u7 at *; generalize badT u5 c5 1=c7 at *) | (go_at_call 124; (refine (JeH _ u7 c7 pl _ E7.out.c qH1 qH1).mono ?_); rintro e X8 ⟨rfl,hc,hg⟩; have E8:=zA0 (E7.out.step hc hg); have F8:=zA0 (F7.out.kept hg qB1); clear hc hg E7 F7; have hu8:=JaT u7 c7 pl; have ht8:=JdU u7 c7 pl; have HQ8:=zA0 (show decR s=dB8 n z o ss v ow (Jau u7 c7 pl) (JaF u7 c7 pl) (badT u7 c7 pl) from HQ7.out); clear HQ7; generalize Jau u7 c7 pl=p at *; generalize JaF u7 c7 pl=u8 at *; generalize badT u7 c7 pl=c8 at *; have y3:=F8.out.cell 3; have yf:=F8.out.frozen))
 have E9:=zA0 (E8.out.other (zD9 X8 gT 3 (.string p)) hgT);have F9:=zA0 (F8.out.put 3 (.string p) #[.int .i64 z,.int .i64 o,.int .i64 ss,.string p,.string ⟨#[]⟩,.int .i64 v,.int .i64 ow] rfl);clear E8 F8 y3 yf;generalize (World.setCell X8 ⟨gT,3,none⟩ (.string p))=X9 at *;go_upto_region 16 with (first | (go_at_call 125; (refine (Jbw _ u8 c8 2 _ E9.out.c qG1 qH1).mono ?_); rintro e X10 ⟨rfl,hc,hg⟩; have E10:=zA0 (E9.out.step hc hg); have F10:=zA0 (F9.out.kept hg qB1); clear hc hg E9 F9; have hu10:=JaT u8 c8 2; obtain ⟨dl,hn,hldl⟩:=valT u8 c8 2 qG1; have HQ10:=zA0 (show decR s=dB9 n z o ss v ow p dl (JaF u8 c8 2) (badT u8 c8 2) from HQ8.out.trans (by unfold dB8; rw [hn]; rfl)); clear HQ8; generalize valI (bs (Jau u8 c8 2))=x at *; subst hn; generalize JaF u8 c8 2=u10 at *; generalize badT u8 c8 2=c10 at *) | (go_at_call 124; (refine (JeH _ u10 c10 dl _ E10.out.c qH1 qH1).mono ?_); rintro e X11 ⟨rfl,hc,hg⟩; have E11:=zA0 (E10.out.step hc hg); have F11:=zA0 (F10.out.kept hg qB1); clear hc hg E10 F10; have hu11:=JaT u10 c10 dl; have ht11:=JdU u10 c10 dl; have HQ11:=zA0 (show decR s=dB10 n z o ss v ow p (Jau u10 c10 dl) (JaF u10 c10 dl) (badT u10 c10 dl) from HQ10.out); clear HQ10; generalize Jau u10 c10 dl=d at *; generalize JaF u10 c10 dl=u11 at *; generalize badT u10 c10 dl=c11 at *; have y4:=F11.out.cell 4; have yf:=F11.out.frozen))
 have E12:=zA0 (E11.out.other (zD9 X11 gT 4 (.string d)) hgT);have F12:=zA0 (F11.out.put 4 (.string d) #[.int .i64 z,.int .i64 o,.int .i64 ss,.string p,.string d,.int .i64 v,.int .i64 ow] rfl);clear E11 F11 y4 yf;generalize (World.setCell X11 ⟨gT,4,none⟩ (.string d))=X12 at *;have zb:=E12.out.c.2.1;have za:=E12.out.c.1;have z0:=E12.out.z.cell 0;have z1:=E12.out.z.cell 1;have z2:=E12.out.z.cell 2;have z3:=E12.out.z.cell 3;have z4:=E12.out.z.cell 4;have z5:=E12.out.z.cell 5;have z6:=E12.out.z.cell 6;have zf:=E12.out.z.frozen;go_upto_region 18 with (fail)
 all_goals try (exact Jdo (t:=txn0) (n:=0) (e:=2) (HQ11.out.trans (JlM ‹c11=true›)) E12.out.bel E12.out.z rfl rfl rfl rfl)
 all_goals try (exact Jdo (t:=txn0) (n:=0) (e:=2) (HQ11.out.trans (JjV ‹(!u11.toList.isEmpty)=true›)) E12.out.bel E12.out.z rfl rfl rfl rfl)
 have y0:=F12.out.cell 0;have y1:=F12.out.cell 1;have y2:=F12.out.cell 2;have y3:=F12.out.cell 3;have y4:=F12.out.cell 4;have y5:=F12.out.cell 5;have y6:=F12.out.cell 6;have yf:=F12.out.frozen;have HG:=zA0 (fun w=>JeG ⟨z,o,ss,p,d,v,ow⟩ w (by show p.size<=_; omega))
 go_wp2_with (first | (go_at_call 127; (refine (HG.out _).mono ?_); rintro e X13 ⟨rfl,hb⟩; have E13:=zA0 (E12.out.keep hb); have F13:=zA0 (F12.out.below hb); clear hb E12 F12 HG z0 z1 z2 z3 z4 z5 z6 zf y0 y1 y2 y3 y4 y5 y6 yf za zb; have z0:=E13.out.z.cell 0; have z1:=E13.out.z.cell 1; have z2:=E13.out.z.cell 2; have z3:=E13.out.z.cell 3; have z4:=E13.out.z.cell 4; have z5:=E13.out.z.cell 5; have z6:=E13.out.z.cell 6; have zf:=E13.out.z.frozen; have y0:=F13.out.cell 0; have y1:=F13.out.cell 1; have y2:=F13.out.cell 2; have y3:=F13.out.cell 3; have y4:=F13.out.cell 4; have y5:=F13.out.cell 5; have y6:=F13.out.cell 6; have yf:=F13.out.frozen; generalize hgt0:Jat ⟨z,o,ss,p,d,v,ow⟩=gd at *))
 all_goals try (have hq:=‹(gd != 0)=true›; exact Jdo (t:=txn0) (n:=0) (e:=gd) (by rw [<-hgt0]; exact HQ11.out.trans (JlL ‹¬ c11=true› ‹(!u11.toList.isEmpty)=false› (by rw [hgt0]; exact ‹(gd != 0)=true›))) E13.out.bel E13.out.z rfl rfl rfl rfl)
 all_goals try (have hq:=‹(gd != 0)=false›; exact Jdo (t:=⟨z,o,ss,p,d,v,ow⟩) (n:=(n:Int)+7) (e:=0) (HQ11.out.trans (JkS ‹¬ c11=true› ‹(!u11.toList.isEmpty)=false› (by rw [hgt0]; exact ‹(gd != 0)=false›))) E13.out.bel E13.out.z rfl rfl rfl rfl)
theorem JkJ (x:Node) (w:World) :
  Calls Tryz.prog 139 #[vNode x] w fun e w'=>e=.returned (.bool (decide (2147483647<x.cversion)))/\Below w.heap.size w w':=by
 obtain ⟨xp,xd,xz,xm,xq,xv,xc,xo,xk⟩:=x;go_enter Tryz.func139,Tryz.ntmps139
 go_wp2_with fail;go_ret;exact ⟨rfl,zR⟩
theorem Joj (v:Value) (l:List Node) (w:World) (h:Sl Jab 9 w v l) (hm:l.length<=140737488355328) :
  Calls Tryz.prog 170 #[v,.func (.func 139) #[] #[]] w fun e w'=>(∃ i:Int,e=.returned (.int .i64 i)/\decide (0<=i)=JbD l/\-1<=i)/\Below w.heap.size w w':=by
 obtain ⟨A,c,rfl,h1,h1b⟩:=h.form;have H:=zA0 h;clear h;go_enter Tryz.func170,Tryz.ntmps170
 go_wp2_with fail;go_loopw [8] (fun i wr=>∃ (k:Nat),k<=l.length/\i=.int .i64 k/\Hid (∀ x∈l.take k,x.cversion<=2147483647)/\Below w.heap.size w wr) (fun i _=>l.length - (intOf i).toNat)
 case atStart=>exact ⟨0,zB9 _,rfl,zA0 qI1,zB6 _ _⟩
 case round=>
  obtain ⟨k,hk,rfl,hno,hb⟩:=hrel
  by_cases hlt:k<l.length
  ·have hx:l[k]?=some (l[k]'hlt):=zA8 _
   obtain ⟨bk,off,rfl,hbw,c0,c1,c2,c3,c4,c5,c6,c7,c8⟩:=(H.out.below hb).Node_at hx;have HC:=zA0 (fun (W:World)=>JkJ (l[k]'hlt) W)
   have HX:=zA0 hx;generalize l[k]'hlt=x at *;obtain ⟨xp,xd,xz,xm,xq,xv,xc,xo,xk⟩:=x;simp only at *;clear hx
   by_cases hf:2147483647<xc
   ·rw [zB0 hf] at HC
    go_wp2_with ((go_at_call 139; refine zc (HC.out _) (fun ext1 d1=>?_)))
    go_ret;refine ⟨⟨_,rfl,?_,by omega⟩,zR⟩
    rw [zB0 qH1];unfold JbD;symm;rw [List.any_eq_true];exact ⟨_,zD3 HX.out,zB0 hf⟩
   ·have hle:xc<=2147483647:=by omega
    rw [zA7 hf] at HC;clear hf;go_wp2_with ((go_at_call 139; refine zc (HC.out _) (fun ext1 d1=>?_)))
    go_roundw
    case rel=>exact ⟨k+1,by omega,by go_num,zA0 (fun y hy=>by
     rw [zF7,HX.out,zE7] at hy;rcases hy with hy | hy
     ·exact hno.out y hy
     ·obtain rfl:=zE3.1 hy
      exact hle),zR⟩
    case measure=>simp [intOf]; omega
  ·have hk':k=l.length:=by omega
   subst hk';go_wp2_with fail;go_ret;refine ⟨⟨_,rfl,?_,by omega⟩,zR⟩
   rw [zA7 qH1];symm;unfold JbD;rw [List.any_eq_false];intro y hy;have:=hno.out y (by rw [zG1]; exact hy)
   simp;omega
theorem JiP (v:Value) (l:List Node) (w:World) (h:Sl Jab 9 w v l) (hm:l.length<=140737488355328) :
  Calls Tryz.prog 138 #[v,.func (.func 139) #[] #[]] w fun e w'=>e=.returned (.bool (JbD l))/\Below w.heap.size w w':=by
 have H:=zA0 h;obtain ⟨A,c,rfl,h1,h1b⟩:=h.form;clear h;go_enter Tryz.func138,Tryz.ntmps138
 go_wp2_with ((go_at_call 170; refine (Joj _ _ _ H.out hm).mono ?_; rintro e w1 ⟨⟨i,rfl,hi,hi1⟩,hb1⟩; obtain ⟨ext1,d1,rfl⟩:=zA2 _ hb1; clear hb1));go_ret;refine ⟨?_,zR⟩;rw [<-hi];rfl
end
end Go.Proofs.YtjnooagaghdkdaaGreatDoor
