/-L-/
import Derived.Test.YtjnooagaghdkdaaGreatDoorV16
set_option maxHeartbeats 10000000
set_option maxRecDepth 100000
set_option linter.all false
namespace Go.Proofs.YtjnooagaghdkdaaGreatDoor
section
open Go.RowKit
abbrev logN:ByteArray:=⟨#[108,111,103]⟩
abbrev noB:ByteArray:=⟨#[]⟩
theorem Jgv:JaK (bs logN)=true:=by kernel_rfl
def appL (l:List File) (t:Txn) (safe:Bool):List File:=if Jat t=0 then (if Jbv l logN (encR t)=0/\safe=true then JfJ (JbI l logN (encR t)) logN else JbI l logN (encR t)) else []
def appE (l:List File) (t:Txn) (safe:Bool):Int:=if Jat t=0 then (if Jbv l logN (encR t)=0/\safe=true then JaT (JbI l logN (encR t)) logN else Jbv l logN (encR t)) else Jat t
theorem Ji8 (m:List Txn) (t:Txn):bS (recs (m ++ [t]))=bS (recs m) ++ bS (recT t):=by
 rw [Ja2,Jdd,bS_add];rfl
def JdQ (f:List File) (l:List Txn) (f':List File) (e:Int):Prop:=
 (JaT f logN=7/\l=[]/\f'=JbI f logN noB/\e=Jbv f logN noB)\/
 (JaT f logN≠7/\JaT f logN≠0/\l=[]/\f'=[]/\e=JaT f logN)\/
 (JaT f logN=0/\e=0/\∃ n,Jfe (bs (Jbx f logN)) l n/\f'=cutL f logN n)
theorem JoY {f:List File} (h:JaT f logN=0) {n:Nat} (hn:n<=(Jbx f logN).size):cutE f logN n=0:=by
 obtain ⟨h1,h2⟩:=Jgl h;unfold cutE;rw [if_pos h1,if_pos h2,if_pos];refine ⟨by omega,?_⟩
 have:Jbx f logN=(Jar f logN).safe ++ (Jar f logN).tail:=by
  unfold Jbx;rw [h1,h2];rfl
 rw [<-this];omega
theorem JnT {s:List UInt8} {l:List Txn} {n:Nat} (h:Jfe s l n):n<=s.length/\s.take n=recs l:=by
 obtain ⟨_,h2,r,h3,_⟩:=h;rw [h3,h2,zB1,zH3];exact ⟨by omega,rfl⟩
theorem Ji9 {f:List File} {a:List Txn} {b:List File} (h:JdQ f a b 0):Jfz a/\JaI b=true/\JaT b logN=0/\Jbx b logN=bS (recs a)/\(⟨logN,bS (recs a),noB⟩:File)∈b:=by
 have fin:∀ {f b:List File} {S:ByteArray},JaI f=true->b=putL f ⟨logN,S,noB⟩->JaI b=true->JaT b logN=0/\Jbx b logN=S/\(⟨logN,S,noB⟩:File)∈b:=by
  intro f b S hf hb hgb;have hm:(⟨logN,S,noB⟩:File)∈b:=by
   rw [hb];exact (Jlw ((JbD f).1 hf).2.2 _ _).2 (.inl rfl)
  have:=Jh4 hgb hm;exact ⟨this.1,this.2.trans ByteArray.append_empty,hm⟩
 rcases h with ⟨h1,rfl,h3,h4⟩ | ⟨_,h2,_,_,h5⟩ | ⟨h1,_,n,hs,hb⟩
 ·obtain ⟨k1,k2,k3⟩:=JfO h4.symm
  have ho:Jb7 f logN=JeO logN:=by
   unfold Jb7;unfold JaT at h1;rw [if_pos k1] at h1;cases hk:isK (f.map File.name) logN with
   | true=>rw [hk] at h1; simp at h1
   | false=>rfl
  rw [ho] at k2;have k4:=fin k1 (b:=b) (S:=noB) (by rw [h3,k2]; rfl) (by rw [h3]; exact k3)
  exact ⟨⟨by simp,List.Pairwise.nil⟩,by rw [h3]; exact k3,k4.1,k4.2.1,k4.2.2⟩
 ·exact absurd h5.symm h2
 ·have hle:=JnT hs
  rw [zC2] at hle;obtain ⟨_,_,_,c4,c5⟩:=cut_ok (JoY h1 hle.1);have hx:(Jbx f logN).extract 0 ((n:Int)).toNat=bS (recs a):=by
   apply Jcb;rw [JaG,zI6,zG5];exact hle.2
  rw [hx] at c4;have k4:=fin (Jgl h1).1 (hb.trans c4) (by rw [hb]; exact c5)
  exact ⟨hs.1,by rw [hb]; exact c5,k4.1,k4.2.1,k4.2.2⟩
end
end Go.Proofs.YtjnooagaghdkdaaGreatDoor
namespace Go.Proofs.YtjnooagaghdkdaaGreatDoor
open Go.RowKit Go.ChangeShapes Go.WideShapes Go.ChangeAt
end Go.Proofs.YtjnooagaghdkdaaGreatDoor
