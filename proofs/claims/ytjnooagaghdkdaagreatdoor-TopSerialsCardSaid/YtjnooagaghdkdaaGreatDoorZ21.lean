/-L-/
import Derived.Test.YtjnooagaghdkdaaGreatDoorZ17
set_option maxHeartbeats 10000000
set_option maxRecDepth 100000
set_option linter.all false
namespace Go.Proofs.YtjnooagaghdkdaaGreatDoor
section
open Go.RowKit
abbrev logN:ByteArray:=⟨#[108,111,103]⟩
abbrev noB:ByteArray:=⟨#[]⟩
theorem Jgs:JaK (bs logN)=true:=by kernel_rfl
def appL (l:List File) (t:Txn) (safe:Bool):List File:=if Jat t=0 then (if JbB l logN (encR t)=0/\safe=true then JfD (JbP l logN (encR t)) logN else JbP l logN (encR t)) else []
def appE (l:List File) (t:Txn) (safe:Bool):Int:=if Jat t=0 then (if JbB l logN (encR t)=0/\safe=true then JaW (JbP l logN (encR t)) logN else JbB l logN (encR t)) else Jat t
theorem Ji9 (m:List Txn) (t:Txn):bS (recs (m ++ [t]))=bS (recs m) ++ bS (recT t):=by
 rw [JaR,Jdf,bS_add];rfl
def JdQ (f:List File) (l:List Txn) (f':List File) (e:Int):Prop:=
 (JaW f logN=7/\l=[]/\f'=JbP f logN noB/\e=JbB f logN noB)\/
 (JaW f logN≠7/\JaW f logN≠0/\l=[]/\f'=[]/\e=JaW f logN)\/
 (JaW f logN=0/\e=0/\∃ n,Jfg (bs (JbC f logN)) l n/\f'=cutL f logN n)
theorem JoQ {f:List File} (h:JaW f logN=0) {n:Nat} (hn:n<=(JbC f logN).size):cutE f logN n=0:=by
 obtain ⟨h1,h2⟩:=Jgj h;unfold cutE;rw [if_pos h1,if_pos h2,if_pos];refine ⟨by omega,?_⟩
 have:JbC f logN=(Jaq f logN).safe ++ (Jaq f logN).tail:=by
  unfold JbC;rw [h1,h2];rfl
 rw [<-this];omega
theorem JnI {s:List UInt8} {l:List Txn} {n:Nat} (h:Jfg s l n):n<=s.length/\s.take n=recs l:=by
 obtain ⟨_,h2,r,h3,_⟩:=h;rw [h3,h2,zA9,zH2];exact ⟨by omega,rfl⟩
theorem Jja {f:List File} {a:List Txn} {b:List File} (h:JdQ f a b 0):Jez a/\JaL b=true/\JaW b logN=0/\JbC b logN=bS (recs a)/\(⟨logN,bS (recs a),noB⟩:File)∈b:=by
 have fin:∀ {f b:List File} {S:ByteArray},JaL f=true->b=putL f ⟨logN,S,noB⟩->JaL b=true->JaW b logN=0/\JbC b logN=S/\(⟨logN,S,noB⟩:File)∈b:=by
  intro f b S hf hb hgb;have hm:(⟨logN,S,noB⟩:File)∈b:=by
   rw [hb];exact (Jln ((JbH f).1 hf).2.2 _ _).2 (.inl rfl)
  have:=Jh1 hgb hm;exact ⟨this.1,this.2.trans ByteArray.append_empty,hm⟩
 rcases h with ⟨h1,rfl,h3,h4⟩ | ⟨_,h2,_,_,h5⟩ | ⟨h1,_,n,hs,hb⟩
 ·obtain ⟨k1,k2,k3⟩:=JfJ h4.symm
  have ho:Jcc f logN=JeU logN:=by
   unfold Jcc;unfold JaW at h1;rw [if_pos k1] at h1;cases hk:isK (f.map File.name) logN with
   | true=>rw [hk] at h1; simp at h1
   | false=>rfl
  rw [ho] at k2;have k4:=fin k1 (b:=b) (S:=noB) (by rw [h3,k2]; rfl) (by rw [h3]; exact k3)
  exact ⟨⟨by simp,List.Pairwise.nil⟩,by rw [h3]; exact k3,k4.1,k4.2.1,k4.2.2⟩
 ·exact absurd h5.symm h2
 ·have hle:=JnI hs
  rw [zC1] at hle;obtain ⟨_,_,_,c4,c5⟩:=cut_ok (JoQ h1 hle.1);have hx:(JbC f logN).extract 0 ((n:Int)).toNat=bS (recs a):=by
   apply Jbs;rw [JaC,zJ1,zG9];exact hle.2
  rw [hx] at c4;have k4:=fin (Jgj h1).1 (hb.trans c4) (by rw [hb]; exact c5)
  exact ⟨hs.1,by rw [hb]; exact c5,k4.1,k4.2.1,k4.2.2⟩
end
end Go.Proofs.YtjnooagaghdkdaaGreatDoor
namespace Go.Proofs.YtjnooagaghdkdaaGreatDoor
open Go.RowKit Go.ChangeShapes Go.WideShapes Go.ChangeAt
end Go.Proofs.YtjnooagaghdkdaaGreatDoor
