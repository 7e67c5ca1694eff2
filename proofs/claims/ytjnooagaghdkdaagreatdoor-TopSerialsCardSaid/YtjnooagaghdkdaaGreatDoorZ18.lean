/-L-/
import Derived.Test.YtjnooagaghdkdaaGreatDoorZ10
import Derived.Test.YtjnooagaghdkdaaGreatDoorZ14
set_option maxHeartbeats 10000000
set_option maxRecDepth 100000
set_option linter.all false
namespace Go.Proofs.YtjnooagaghdkdaaGreatDoor
section
open Go.RowKit
theorem eq_slash {p:ByteArray}:p.toList=[47]↔p=slash:=by
 constructor
 ·intro h
  exact JdN (by rw [h]; unfold slash; rw [zE4])
 ·intro h
  rw [h];unfold slash;rw [zE4]
theorem Joy {p:ByteArray}:p.toList=[]↔p=⟨#[]⟩:=by
 constructor
 ·intro h
  exact JdN (by rw [h,zE4])
 ·intro h
  rw [h,zE4]
theorem Jc2 {x:Txn} (h:Jat x=0):(1<=x.op/\x.op<=5)/\Zx x.zxid/\(1<=x.session/\x.session<=2147483647)/\(0<=x.version/\x.version<=2147483647)/\(0<=x.owner/\x.owner<=2147483647)/\x.data.size<=256/\
  (x.op<=2->x.path=⟨#[]⟩/\x.data=⟨#[]⟩/\x.version=0/\x.owner=0)/\(3<=x.op->Jaw x.path=true)/\(3<=x.op->x.op≠5->x.path≠slash)/\(x.op=4->x.data=⟨#[]⟩/\x.version=0/\x.owner=0)/\(x.op=3->x.version=0)/\(x.op=5->x.owner=0):=by
 unfold Jat at h
 by_cases h1:x.op<1\/5<x.op
 ·rw [if_pos h1] at h; exact absurd h qG1
 rw [if_neg h1] at h
 by_cases h2:¬ (0<=x.zxid/\x.zxid<4611686018427387904)\/x.session<1\/2147483647<x.session\/x.version<0\/2147483647<x.version\/x.owner<0\/2147483647<x.owner
 ·rw [if_pos h2] at h; exact absurd h qG1
 rw [if_neg h2] at h
 by_cases h3:256<(x.data.size:Int)
 ·rw [if_pos h3] at h; exact absurd h qG1
 rw [if_neg h3] at h
 by_cases h4:x.op<=2/\(x.path.toList≠[]\/x.data.toList≠[]\/x.version≠0\/x.owner≠0)
 ·rw [if_pos h4] at h; exact absurd h qG1
 rw [if_neg h4] at h
 by_cases h5:3<=x.op/\(Jaw x.path=false\/(x.path.toList=[47]/\x.op≠5))
 ·rw [if_pos h5] at h; exact absurd h qG1
 rw [if_neg h5] at h
 by_cases h6:(x.op=4/\(x.data.toList≠[]\/x.version≠0\/x.owner≠0))\/(x.op=3/\x.version≠0)\/(x.op=5/\x.owner≠0)
 ·rw [if_pos h6] at h; exact absurd h qG1
 clear h;refine ⟨by omega,by unfold Zx; omega,by omega,by omega,by omega,by omega,?_,?_,?_,?_,?_,?_⟩
 ·intro ho
  have h7:¬ (x.path.toList≠[]\/x.data.toList≠[]\/x.version≠0\/x.owner≠0):=fun e=>h4 ⟨ho,e⟩
  refine ⟨Joy.1 (Classical.byContradiction fun e=>h7 (.inl e)),Joy.1 (Classical.byContradiction fun e=>h7 (.inr (.inl e))),?_,?_⟩
  ·exact Classical.byContradiction fun e=>h7 (.inr (.inr (.inl e)))
  ·exact Classical.byContradiction fun e=>h7 (.inr (.inr (.inr e)))
 ·intro ho
  cases hg:Jaw x.path with
  | true=>rfl
  | false=>exact absurd ⟨ho,.inl hg⟩ h5
 ·intro ho h8 e
  exact h5 ⟨ho,.inr ⟨eq_slash.2 e,h8⟩⟩
 ·intro ho
  refine ⟨Joy.1 (Classical.byContradiction fun e=>h6 (.inl ⟨ho,.inl e⟩)),?_,?_⟩
  ·exact Classical.byContradiction fun e=>h6 (.inl ⟨ho,.inr (.inl e)⟩)
  ·exact Classical.byContradiction fun e=>h6 (.inl ⟨ho,.inr (.inr e)⟩)
 ·intro ho
  exact Classical.byContradiction fun e=>h6 (.inr (.inl ⟨ho,e⟩))
 ·intro ho
  exact Classical.byContradiction fun e=>h6 (.inr (.inr ⟨ho,e⟩))
theorem Jgx {t:Tr} {x:Txn} (h:Jfy t x=0):hasN t.nodes x.path=false/\hasN t.nodes (JaH x.path)=true/\(getN t.nodes (JaH x.path)).owner=0/\(x.owner=0\/x.owner=x.session)/\t.nodes.length<400:=by
 unfold Jfy at h
 by_cases h1:hasN t.nodes x.path=true
 ·rw [if_pos h1] at h; exact absurd h qG1
 rw [if_neg h1] at h
 by_cases h2:hasN t.nodes (JaH x.path)=true
 case neg=>rw [if_neg h2] at h; exact absurd h qG1
 rw [if_pos h2] at h
 by_cases h3:(getN t.nodes (JaH x.path)).owner≠0
 ·rw [if_pos h3] at h; exact absurd h qG1
 rw [if_neg h3] at h
 by_cases h4:x.owner≠0/\x.owner≠x.session
 ·rw [if_pos h4] at h; exact absurd h qG1
 rw [if_neg h4] at h
 by_cases h5:400<=t.nodes.length
 ·rw [if_pos h5] at h; exact absurd h qG1
 refine ⟨by simpa using h1,h2,by omega,by omega,by omega⟩
theorem JbE {t:Tr} {x:Txn} (h:JbA t x=0):Jan t=true/\Jat x=0/\t.zxid<x.zxid/\(x.op=1->isI t.sess x.session=false)/\(x.op≠1->isI t.sess x.session=true)/\(x.op=3->Jfy t x=0)/\
  (x.op=4->hasN t.nodes x.path=true/\(getN t.nodes x.path).kids<=0)/\(x.op=5->hasN t.nodes x.path=true/\x.version=(getN t.nodes x.path).version+1):=by
 unfold JbA at h
 by_cases h1:Jan t=false
 ·rw [if_pos h1] at h; exact absurd h qG1
 rw [if_neg h1] at h
 by_cases h2:Jat x≠0
 ·rw [if_pos h2] at h; exact absurd h h2
 rw [if_neg h2] at h
 by_cases h3:x.zxid<=t.zxid
 ·rw [if_pos h3] at h; exact absurd h qG1
 rw [if_neg h3] at h;refine ⟨by simpa using h1,Classical.not_not.1 h2,by omega,?_⟩
 by_cases h4:x.op=1
 ·rw [if_pos h4] at h
  by_cases h5:isI t.sess x.session=true
  ·rw [if_pos h5] at h; exact absurd h qG1
  ·exact ⟨fun _=>by simpa using h5,fun e=>absurd h4 e,fun e=>by omega,fun e=>by omega,fun e=>by omega⟩
 rw [if_neg h4] at h
 by_cases h5:isI t.sess x.session=false
 ·rw [if_pos h5] at h; exact absurd h qG1
 rw [if_neg h5] at h;refine ⟨fun e=>absurd e h4,fun _=>by simpa using h5,?_⟩
 by_cases h6:x.op=3
 ·rw [if_pos h6] at h
  exact ⟨fun _=>h,fun e=>by omega,fun e=>by omega⟩
 rw [if_neg h6] at h;refine ⟨fun e=>absurd e h6,?_⟩
 by_cases h7:x.op=4
 ·rw [if_pos h7] at h
  refine ⟨fun _=>?_,fun e=>by omega⟩
  by_cases h8:hasN t.nodes x.path=true
  ·rw [if_pos h8] at h
   by_cases h9:0<(getN t.nodes x.path).kids
   ·rw [if_pos h9] at h; exact absurd h qG1
   ·exact ⟨h8,by omega⟩
  ·rw [if_neg h8] at h; exact absurd h qG1
 rw [if_neg h7] at h;refine ⟨fun e=>absurd e h7,fun h7=>?_⟩
 rw [if_pos h7] at h
 by_cases h8:hasN t.nodes x.path=true
 ·rw [if_pos h8] at h
  by_cases h9:x.version≠(getN t.nodes x.path).version+1
  ·rw [if_pos h9] at h; exact absurd h qG1
  ·exact ⟨h8,Classical.not_not.1 h9⟩
 ·rw [if_neg h8] at h; exact absurd h qG1
theorem doN_1 {t:Tr} {x:Txn} (h:x.op=1):doN t x=t.nodes/\doS t x=insS t.sess x.session/\doV t x=[]:=by
 refine ⟨?_,?_,?_⟩
 ·unfold doN; rw [if_neg qH1,if_neg qH1,if_neg qH1,if_neg qH1]
 ·unfold doS; rw [if_pos h]
 ·unfold doV; rw [if_neg qH1,if_neg qH1,if_neg qH1,if_neg qH1]
theorem doN_2 {t:Tr} {x:Txn} (h:x.op=2):doN t x=JfB t.nodes x.session x.zxid/\doS t x=delS t.sess x.session/\doV t x=Jo4 t.nodes x.session:=by
 refine ⟨?_,?_,?_⟩
 ·unfold doN; rw [if_pos h]
 ·unfold doS; rw [if_neg qH1,if_pos h]
 ·unfold doV; rw [if_pos h]
theorem doN_3 {t:Tr} {x:Txn} (h:x.op=3):doN t x=Jgt t.nodes x/\doS t x=t.sess/\doV t x=Jn9 x.path:=by
 refine ⟨?_,?_,?_⟩
 ·unfold doN; rw [if_neg qH1,if_pos h]
 ·unfold doS; rw [if_neg qH1,if_neg qH1]
 ·unfold doV; rw [if_neg qH1,if_pos h]
theorem doN_4 {t:Tr} {x:Txn} (h:x.op=4):doN t x=JcS t.nodes x.path x.zxid/\doS t x=t.sess/\doV t x=JgI x.path:=by
 refine ⟨?_,?_,?_⟩
 ·unfold doN; rw [if_neg qH1,if_neg qH1,if_pos h]
 ·unfold doS; rw [if_neg qH1,if_neg qH1]
 ·unfold doV; rw [if_neg qH1,if_neg qH1,if_pos h]
theorem doN_5 {t:Tr} {x:Txn} (h:x.op=5):doN t x=setN t.nodes x/\doS t x=t.sess/\doV t x=[⟨3,x.path⟩]:=by
 refine ⟨?_,?_,?_⟩
 ·unfold doN; rw [if_neg qH1,if_neg qH1,if_neg qH1,if_pos h]
 ·unfold doS; rw [if_neg qH1,if_neg qH1]
 ·unfold doV; rw [if_neg qH1,if_neg qH1,if_neg qH1,if_pos h]
theorem Jb6 {t:Tr} {x:Txn} (h:JbA t x=0):GoodW x.zxid (doN t x) (doS t x):=by
 obtain ⟨hg,hx,hz,w1,w2,w3,w4,w5⟩:=JbE h;obtain ⟨x1,x2,x3,x4,x5,x6,x7,x8,x9,x10,x11,x12⟩:=Jc2 hx;obtain ⟨g,_⟩:=JaP hg;have g':GoodW x.zxid t.nodes t.sess:=g.later qH1 x2.2;rcases (by omega:x.op=1\/x.op=2\/x.op=3\/x.op=4\/x.op=5) with ho | ho | ho | ho | ho
 ·obtain ⟨e1,e2,_⟩:=doN_1 (t:=t) ho
  rw [e1,e2];have hs:=(isI_no g.sess).1 (w1 ho);obtain ⟨i1,i2,_⟩:=Joh g.sess hs;refine g'.with_sess i1 (fun s hs=>?_) (fun n hn=>?_)
  ·rcases (i2 s).1 hs with rfl | hs
   ·exact x3
   ·exact g.sessB s hs
  ·rcases g.own n hn with h0 | ⟨h0,_⟩
   ·exact .inl h0
   ·exact .inr ((i2 _).2 (.inr h0))
 ·obtain ⟨e1,e2,_⟩:=doN_2 (t:=t) ho
  rw [e1,e2];have hs:=(JgA g.sess).1 (w2 qH1);obtain ⟨i1,i2,_⟩:=JoK g.sess hs;obtain ⟨c1,c2,_,_⟩:=JmA g' (s:=x.session) qH1;refine c1.with_sess i1 (fun s hs=>g.sessB s ((i2 s).1 hs).1) (fun n hn=>?_)
  rcases c1.own n hn with h0 | ⟨h0,_⟩
  ·exact .inl h0
  ·exact .inr ((i2 _).2 ⟨h0,(c2 n hn).1⟩)
 ·obtain ⟨e1,e2,_⟩:=doN_3 (t:=t) ho
  rw [e1,e2];obtain ⟨l1,l2,l3,l4,l5⟩:=Jgx (w3 ho);obtain ⟨hm,hp⟩:=JgJ l2;refine Joo g' x rfl l1 (x8 qH1) (x9 qH1 qH1) x6 l5 ?_ hm hp l3;rcases l4 with h0 | h0
  ·exact .inl h0
  ·rw [h0]
   exact .inr ((JgA g.sess).1 (w2 qH1))
 ·obtain ⟨e1,e2,_⟩:=doN_4 (t:=t) ho
  rw [e1,e2];obtain ⟨l1,l2⟩:=w4 ho;obtain ⟨hm,hp⟩:=JgJ l1;have hk:(getN t.nodes x.path).kids=0:=by
   have:=g.kids _ hm;omega
  have:=JgF g' hm (by rw [hp]; exact x9 qH1 qH1) hk
  rw [hp] at this;exact this
 ·obtain ⟨e1,e2,_⟩:=doN_5 (t:=t) ho
  rw [e1,e2];exact good_set g' x rfl (w5 ho).1 x6 x4
theorem JiC {t:Tr} {x:Txn} (h:Jaz t x=0):JbA t x=0/\JbD (doN t x)=false:=by
 unfold Jaz at h
 by_cases h1:JbA t x=0
 ·rw [if_pos h1] at h
  cases hf:JbD (doN t x) with
  | false=>exact ⟨h1,rfl⟩
  | true=>rw [hf,if_pos rfl] at h; exact absurd h qG1
 ·rw [if_neg h1] at h
  exact absurd h h1
theorem JfS {t:Tr} {x:Txn} (h:Jaz t x=0):JaO t x=⟨x.zxid,doN t x,doS t x⟩/\Jcg t x=doV t x:=by
 unfold JaO Jcg;rw [if_pos h,if_pos h];exact ⟨rfl,rfl⟩
theorem Jd9 {t:Tr} {x:Txn} (h:Jaz t x=0):Jan (JaO t x)=true/\Jan t=true/\t.zxid<x.zxid:=by
 obtain ⟨h1,h2⟩:=JiC h;obtain ⟨h3,_,h4,_⟩:=JbE h1;rw [(JfS h).1];exact ⟨(Jij _ _ _).2 ⟨Jb6 h1,h2⟩,h3,h4⟩
theorem Jll:Jan newTr=true:=by
 refine (Jij _ _ _).2 ⟨⟨by decide,by decide,⟨rootN,[],rfl,rfl,rfl⟩,zO3 _ _,.nil,by simp,?_,?_,?_,?_,?_⟩,?_⟩
 ·intro n hn
  rw [zE3.1 hn];exact ⟨JbQ,by decide⟩
 ·intro n hn
  rw [zE3.1 hn];decide
 ·intro n hn
  rw [zE3.1 hn];exact .inl rfl
 ·intro n hn
  rw [zE3.1 hn];exact .inl rfl
 ·intro n hn
  rw [zE3.1 hn];rw [zP6,if_neg]
  ·rfl
  ·rw [JeX (show Jaw rootN.path=true from JbQ)]
   exact fun e=>e.1 rfl
 ·exact Jdm.2 (fun n hn=>by rw [zE3.1 hn]; decide)
end
end Go.Proofs.YtjnooagaghdkdaaGreatDoor
namespace Go.Proofs.YtjnooagaghdkdaaGreatDoor
open Go.RowKit
end Go.Proofs.YtjnooagaghdkdaaGreatDoor
namespace Go.Proofs.YtjnooagaghdkdaaGreatDoor
section
open Go.RowKit
abbrev Jed:Txn:=⟨0,0,0,⟨#[]⟩,⟨#[]⟩,0,0⟩
def serR (s:ByteArray) (n:Int):ByteArray × Int:=if n<0\/2147483647<n then (⟨#[]⟩,3) else if JaK (bs s ++ digs 10 n.toNat) then (⟨(bs s ++ digs 10 n.toNat).toArray⟩,0) else (⟨#[]⟩,2)
def seqF (n:Int):Bool:=decide (n=2\/n=3)
def ephF (n:Int):Bool:=decide (n=1\/n=3)
def Jeb (t:Tr) (r:Request):Int × Int:=
 if Jaw r.path then (if isI t.sess r.session then (if hasN t.nodes r.path then (if r.version≠-1/\r.version≠(getN t.nodes r.path).version then (0,9) else ((getN t.nodes r.path).version,0)) else (0,7)) else (0,12)) else (0,2)
def seqR (t:Tr) (p:ByteArray):ByteArray × Int:=
 if hasN t.nodes (Jac p).1 then (if (serR (Jac p).2.1 (getN t.nodes (Jac p).1).cversion).2≠0 then (⟨#[]⟩,(serR (Jac p).2.1 (getN t.nodes (Jac p).1).cversion).2) else JcR (Jac p).1 (serR (Jac p).2.1 (getN t.nodes (Jac p).1).cversion).1) else (⟨#[]⟩,7)
def creR (t:Tr) (r:Request):ByteArray × Int:=
 if r.flags<0\/3<r.flags then (⟨#[]⟩,3)
 else if (Jac r.path).2.2≠0 then (⟨#[]⟩,2)
 else if isI t.sess r.session=false then (⟨#[]⟩,12)
 else if seqF r.flags then seqR t r.path else (r.path,0)
def JbS (t:Tr) (z:Int) (r:Request):Txn × Int:=
 if r.op=1\/r.op=2 then (⟨z,r.op,r.session,⟨#[]⟩,⟨#[]⟩,0,0⟩,0)
 else if r.op=3 then (⟨z,r.op,r.session,(creR t r).1,r.data,0,if ephF r.flags then r.session else 0⟩,(creR t r).2)
 else if r.op=4 then (⟨z,r.op,r.session,r.path,⟨#[]⟩,0,0⟩,(Jeb t r).2)
 else if r.op=5 then (⟨z,r.op,r.session,r.path,r.data,(Jeb t r).1+1,0⟩,(Jeb t r).2)
 else (Jed,4)
theorem Joa (t:Tr) (z:Int) {r:Request} (h:r.op=1\/r.op=2):JbS t z r=(⟨z,r.op,r.session,⟨#[]⟩,⟨#[]⟩,0,0⟩,0):=by unfold JbS; rw [if_pos h]
theorem made_3 (t:Tr) (z:Int) {r:Request} (h:r.op=3):JbS t z r=(⟨z,r.op,r.session,(creR t r).1,r.data,0,if ephF r.flags then r.session else 0⟩,(creR t r).2):=by unfold JbS; rw [if_neg qH1,if_pos h]
theorem made_4 (t:Tr) (z:Int) {r:Request} (h:r.op=4):JbS t z r=(⟨z,r.op,r.session,r.path,⟨#[]⟩,0,0⟩,(Jeb t r).2):=by unfold JbS; rw [if_neg qH1,if_neg qH1,if_pos h]
theorem made_5 (t:Tr) (z:Int) {r:Request} (h:r.op=5):JbS t z r=(⟨z,r.op,r.session,r.path,r.data,(Jeb t r).1+1,0⟩,(Jeb t r).2):=by unfold JbS; rw [if_neg qH1,if_neg qH1,if_neg qH1,if_pos h]
theorem made_no (t:Tr) (z:Int) {r:Request} (h:r.op<1\/5<r.op):JbS t z r=(Jed,4):=by unfold JbS; rw [if_neg qH1,if_neg qH1,if_neg qH1,if_neg qH1]
def JiB (t:Tr) (z:Int) (r:Request):Bool:=Jan t && decide (0<=z/\z<4611686018427387904/\1<=r.session/\r.session<=2147483647)
def Jbi (t:Tr) (z:Int) (r:Request):Int:=if JiB t z r then (if (JbS t z r).2≠0 then (JbS t z r).2 else Jaz t (JbS t z r).1) else 3
def JaS (t:Tr) (z:Int) (r:Request):Txn:=if Jbi t z r=0 then (JbS t z r).1 else Jed
theorem Jkv {t:Tr} {z:Int} {r:Request} (h:Jbi t z r=0):JiB t z r=true/\(JbS t z r).2=0/\Jaz t (JbS t z r).1=0/\JaS t z r=(JbS t z r).1:=by
 have h0:=h;unfold Jbi at h;cases ha:JiB t z r with
 | false=>rw [ha,if_neg qG1] at h; exact absurd h qG1
 | true=>
  rw [ha,if_pos rfl] at h
  by_cases hm:(JbS t z r).2=0
  ·rw [if_neg qH1] at h
   exact ⟨rfl,hm,h,by unfold JaS; rw [if_pos h0]⟩
  ·rw [if_pos hm] at h
   exact absurd h hm
theorem JeQ {t:Tr} {z:Int} {r:Request} (h:Jbi t z r≠0):JaS t z r=Jed:=by unfold JaS; rw [if_neg h]
theorem Jlr {t:Tr} {z:Int} {r:Request} (h:(JbS t z r).2=0):(JbS t z r).1.zxid=z/\(JbS t z r).1.op=r.op/\(JbS t z r).1.session=r.session/\((JbS t z r).1.owner=0\/(JbS t z r).1.owner=r.session):=by
 unfold JbS at h ⊢
 by_cases h1:r.op=1\/r.op=2
 ·rw [if_pos h1]
  exact ⟨rfl,rfl,rfl,.inl rfl⟩
 rw [if_neg h1] at h ⊢
 by_cases h2:r.op=3
 ·rw [if_pos h2]
  refine ⟨rfl,rfl,rfl,?_⟩;simp only;split
  ·exact .inr rfl
  ·exact .inl rfl
 rw [if_neg h2] at h ⊢
 by_cases h3:r.op=4
 ·rw [if_pos h3]
  exact ⟨rfl,rfl,rfl,.inl rfl⟩
 rw [if_neg h3] at h ⊢
 by_cases h4:r.op=5
 ·rw [if_pos h4]
  exact ⟨rfl,rfl,rfl,.inl rfl⟩
 rw [if_neg h4] at h;exact absurd h qG1
theorem Jj9 {t:Tr} (hg:Jan t=true) (r:Request):0<=(Jeb t r).1/\(Jeb t r).1<=2147483647:=by
 unfold Jeb;cases Jaw r.path with
 | false=>simp
 | true=>
  cases isI t.sess r.session with
  | false=>simp
  | true=>
   cases h:hasN t.nodes r.path with
   | false=>simp
   | true=>
    have:=(JaP hg).1.stat _ (JgJ h).1;rw [if_pos rfl,if_pos rfl,if_pos rfl];split
    ·exact ⟨zD6 _,by decide⟩
    ·exact ⟨this.1,this.2.1⟩
theorem Jcw {t:Tr} {z:Int} {r:Request} (h:Jbi t z r=0):Jaz t (JaS t z r)=0/\(JaO t (JaS t z r)).zxid=z/\(JaS t z r).zxid=z/\(JaS t z r).op=r.op/\(JaS t z r).session=r.session/\Jat (JaS t z r)=0/\((JaS t z r).owner=0\/(JaS t z r).owner=r.session):=by
 obtain ⟨h1,h2,h3,h4⟩:=Jkv h;obtain ⟨m1,m2,m3,m4⟩:=Jlr h2;rw [h4];refine ⟨h3,?_,m1,m2,m3,(JbE (JiC h3).1).2.1,m4⟩;rw [(JfS h3).1];exact m1
theorem Jhh:∀ (l:List Int) (lo hi:Int),l.Pairwise (·<·)->(∀ s∈l,lo<=s/\s<=hi)->lo<=hi+1->(l.length:Int)<=hi+1 - lo
 | [],lo,hi,_,_,h=>by simp; omega
 | a :: l,lo,hi,hp,hb,h=>by
  rw [zG7] at hp;have ha:=hb a qI1;have:=Jhh l (a+1) hi hp.2 (fun s hs=>⟨hp.1 s hs,(hb s (by simp [hs])).2⟩) qH1
  rw [zD5];omega
structure SnapOk (t:Tr):Prop where
 ns:t.sess.length<=2147483647
 nn:t.nodes.length<=400
 z:0<=t.zxid/\t.zxid<4611686018427387904
 s:∀ s∈t.sess,1<=s/\s<=2147483647
 n:∀ n∈t.nodes,n.path.size<=200/\n.data.size<=256/\(0<=n.czxid/\n.czxid<4611686018427387904)/\(0<=n.mzxid/\n.mzxid<4611686018427387904)/\(0<=n.pzxid/\n.pzxid<4611686018427387904)/\(0<=n.version/\n.version<=2147483647)/\(0<=n.cversion/\n.cversion<=2147483647)/\(0<=n.owner/\n.owner<=2147483647)/\(0<=n.kids/\n.kids<=400)
theorem snap_ok {t:Tr} (h:Jan t=true):SnapOk t:=by
 obtain ⟨g,f⟩:=JaP h;refine ⟨?_,g.len,g.zx,g.sessB,fun n hn=>?_⟩
 ·have:=Jhh t.sess 1 2147483647 g.sess g.sessB qG1
  omega
 ·have a:=Ja6 (g.path n hn).1
  have b:=(g.path n hn).2;have c:=g.stat n hn;have d:=Jdm.1 f n hn;have e:=g.own n hn;have k:=g.kids n hn;have k2:t.nodes.countP (kidB n.path)<=400:=zB5 zL9 g.len;have hz:=g.zx;refine ⟨a.2,b,by omega,by omega,by omega,by omega,by omega,?_,by omega⟩
  rcases e with e | ⟨e,_⟩
  ·omega
  ·have:=g.sessB _ e
   omega
end
section
open Go.RowKit Go.ChangeShapes Go.WideShapes Go.ChangeAt
theorem Bk.far {w:World} {g g2 j:Nat} {cs:List Value} {t:TypeId} {v:Value} (h:Bk w g cs t) (hne:g≠g2):Bk (w.setCell ⟨g2,j,none⟩ v) g cs t:=h.grown (zD9 w g2 j v) (by simpa using hne)
section
variable {α:Type} {f:α->List Value} {s:Nat} {e:TypeId} {w:World} {B:Nat} {v:Value} {l:List α}
theorem Ow.far2 (h:Ow f s e w B v l) {g j:Nat} {u:Value} (hne:v.ownBlock≠some g):Ow f s e (w.setCell ⟨g,j,none⟩ u) B v l:=h.kept (zD9 w g j u) (.inr hne)
theorem Jfz {x x':α} {j:Nat} {u:Value} (J:List Value) (hj:j<s) (hx':f x'=(f x).set j u):∀ (l:List α) (k:Nat),(∀ x∈l,(f x).length=s)->l[k]?=some x->(l.flatMap f ++ J).set (k*s+j) u=(l.set k x').flatMap f ++ J
 | [],k,_,h=>by simp at h
 | y :: l,0,hf,h=>by
  simp at h;subst h;have hy:=hf y qI1;rw [Nat.zero_mul,zG3,zG2,zC0,List.set_append_left _ _ qH1,zA4,zG2,hx',zC0]
 | y :: l,k+1,hf,h=>by
  have hy:=hf y qI1;have ih:=Jfz J hj hx' l k (fun x hx=>hf x (by simp [hx])) qA1
  rw [zG2,zC0,zM3 _ _ (by rw [hy,Nat.succ_mul]; omega),hy,show (k+1)*s+j - s=k*s+j from by rw [Nat.succ_mul]; omega,ih,zA5,zG2,zC0]
theorem Ow.cell1 {g n c:Nat} (h:Ow f s e w B (.slice (some ⟨g,0,none⟩) n c) l) {k j o:Nat} {x x':α} {u:Value} (hx:l[k]?=some x) (hj:j<s) (ho:o=k*s+j) (hx':f x'=(f x).set j u) :
  Ow f s e (w.setCell ⟨g,o,none⟩ u) B (.slice (some ⟨g,0,none⟩) n c) (l.set k x'):=by
 subst ho;have hk:=(zB3.1 hx).1;have hnl:n=l.length:=by obtain ⟨_,_,h,_⟩:=h.form; injection h
 obtain ⟨g',J,hg,hB,hb,hl,hn,hc,_⟩:=h.blk qH1;injection hg with hg
 injection hg with hg
 subst hg;have hset:=Jfz J hj hx' l k h.2 hx;have hlen:(l.set k x').length=n:=by rw [zF4,hnl]
 have hff:∀ y∈l.set k x',(f y).length=s:=by
  intro y hy;rcases zQ7 hy with h' | rfl
  ·exact h.2 y h'
  ·rw [hx',zF4]
   exact h.2 x (zD3 hx)
 have:=Ow.of_blk (J:=J) hff hB (hb.put (k*s+j) u) hset (by rw [zF4]; exact hl) qH1 hc
 rw [hlen] at this;exact this
end
theorem Ow.at_cell {α:Type} {f:α->List Value} {s:Nat} {e:TypeId} {w:World} {B g n c:Nat} {l:List α} (h:Ow f s e w B (.slice (some ⟨g,0,none⟩) n c) l) {k j o:Nat} {x:α} {u:Value} (hx:l[k]?=some x) (hu:(f x)[j]?=some u) (ho:o=k*s+j):w.cell? ⟨g,o,none⟩=some u/\w.frozen? ⟨g,o,none⟩=false:=by
 subst ho;have hk:=(zB3.1 hx).1;have hnl:n=l.length:=by obtain ⟨_,_,h,_⟩:=h.form; injection h
 obtain ⟨g',J,hg,hB,hb,hl,hn,hc,_⟩:=h.blk qH1;injection hg with hg
 injection hg with hg
 subst hg;refine ⟨?_,hb.frozen _⟩;rw [hb.cell];have h1:=JbN h.2 hx hu;rw [zF1 (zB3.1 h1).1];exact h1
abbrev txnV (t:Txn):Value:=.agg #[.int .i64 t.zxid,.int .i64 t.op,.int .i64 t.session,.string t.path,.string t.data,.int .i64 t.version,.int .i64 t.owner]
structure Hand (w:World) (B b:Nat) (t:Tr) (ev:List Event) (nv sv vv:Value):Prop where
 bk:Bk w b [.int .i64 t.zxid,nv,sv,vv] 211
 nodes:Ow Jab 9 75 w B nv t.nodes
 sess:Ow cInt 1 3 w B sv t.sess
 evs:Ow JaG 2 78 w B vv ev
 nb:nv.ownBlock≠some b
 sb:sv.ownBlock≠some b
 vb:vv.ownBlock≠some b
 ns:∀ q,nv.ownBlock=some q->sv.ownBlock≠some q
 nv:∀ q,nv.ownBlock=some q->vv.ownBlock≠some q
 sv:∀ q,sv.ownBlock=some q->vv.ownBlock≠some q
 base:B<=b
theorem Hand.below {w w':World} {B b:Nat} {t:Tr} {ev:List Event} {nv sv vv:Value} (h:Hand w B b t ev nv sv vv) (hb:Below w.heap.size w w'):Hand w' B b t ev nv sv vv:=
 ⟨h.bk.below hb,h.nodes.below hb,h.sess.below hb,h.evs.below hb,h.nb,h.sb,h.vb,h.ns,h.nv,h.sv,h.base⟩
theorem Hand.cells {w:World} {B b:Nat} {t:Tr} {ev:List Event} {nv sv vv:Value} (h:Hand w B b t ev nv sv vv) :
  w.cell? ⟨b,0,none⟩=some (.int .i64 t.zxid)/\w.cell? ⟨b,1,none⟩=some nv/\w.cell? ⟨b,2,none⟩=some sv/\w.cell? ⟨b,3,none⟩=some vv/\w.frozen? ⟨b,1,none⟩=false/\w.frozen? ⟨b,2,none⟩=false/\w.frozen? ⟨b,3,none⟩=false/\w.frozen? ⟨b,0,none⟩=false/\b<w.heap.size:=
 ⟨h.bk.cell 0,h.bk.cell 1,h.bk.cell 2,h.bk.cell 3,h.bk.frozen 1,h.bk.frozen 2,h.bk.frozen 3,h.bk.frozen 0,h.bk.lt⟩
theorem Hand.put {w:World} {B b g n c:Nat} {z:Int} {l:List Node} {ss:List Int} {ev:List Event} {sv vv:Value} (h:Hand w B b ⟨z,l,ss⟩ ev (.slice (some ⟨g,0,none⟩) n c) sv vv) {k j o:Nat} {x x':Node} {u:Value} (hx:l[k]?=some x) (hj:j<9) (ho:o=k*9+j) (hx':Jab x'=(Jab x).set j u) :
  Hand (w.setCell ⟨g,o,none⟩ u) B b ⟨z,l.set k x',ss⟩ ev (.slice (some ⟨g,0,none⟩) n c) sv vv:=by
 have hg:(Value.slice (some ⟨g,0,none⟩) n c).ownBlock=some g:=rfl;exact ⟨h.bk.far (fun e=>h.nb (by rw [hg,e])),h.nodes.cell1 hx hj ho hx',h.sess.far2 (h.ns g hg),h.evs.far2 (h.nv g hg),h.nb,h.sb,h.vb,h.ns,h.nv,h.sv,h.base⟩
theorem Hand.events {w w1:World} {B b:Nat} {t:Tr} {ev ev':List Event} {nv sv vv vv':Value} (h:Hand w B b t ev nv sv vv) (hg:w.grownBy w1 vv.ownBlock) (ho:Ow JaG 2 78 w1 B vv' ev') (ha:vv'.ownBlock=vv.ownBlock\/∃ q,vv'.ownBlock=some q/\w.heap.size<=q) :
  Hand (w1.setCell ⟨b,3,none⟩ vv') B b t ev' nv sv vv':=by
 have hb1:Bk w1 b [.int .i64 t.zxid,nv,sv,vv] 211:=h.bk.grown hg (fun e=>h.vb e.symm)
 have hlt:=h.bk.lt;have hvb:vv'.ownBlock≠some b:=by
  rcases ha with e | ⟨q,e,hq⟩
  ·rw [e]; exact h.vb
  ·rw [e]; intro e2; injection e2 with e2; omega
 refine ⟨by simpa using hb1.put 3 vv',(h.nodes.kept hg ?_).far2 h.nb,(h.sess.kept hg ?_).far2 h.sb,ho.far2 hvb,h.nb,h.sb,hvb,h.ns,fun q hq=>?_,fun q hq=>?_,h.base⟩
 ·cases hn:nv.ownBlock with
  | none=>exact .inl rfl
  | some q=>exact .inr (fun e=>h.nv q hn e.symm)
 ·cases hn:sv.ownBlock with
  | none=>exact .inl rfl
  | some q=>exact .inr (fun e=>h.sv q hn e.symm)
 ·rcases ha with e | ⟨r,e,hr⟩
  ·rw [e]; exact h.nv q hq
  ·have:=(h.nodes.lt q hq)
   rw [e]; intro e2; injection e2 with e2; omega
 ·rcases ha with e | ⟨r,e,hr⟩
  ·rw [e]; exact h.sv q hq
  ·have:=(h.sess.lt q hq)
   rw [e]; intro e2; injection e2 with e2; omega
theorem Hand.rows {w w1:World} {B b:Nat} {z:Int} {l l':List Node} {ss:List Int} {ev:List Event} {nv sv vv nv':Value} (h:Hand w B b ⟨z,l,ss⟩ ev nv sv vv) (hg:w.grownBy w1 nv.ownBlock) (ho:Ow Jab 9 75 w1 B nv' l') (ha:nv'.ownBlock=nv.ownBlock\/∃ q,nv'.ownBlock=some q/\w.heap.size<=q) :
  Hand (w1.setCell ⟨b,1,none⟩ nv') B b ⟨z,l',ss⟩ ev nv' sv vv:=by
 have hb1:Bk w1 b [.int .i64 z,nv,sv,vv] 211:=h.bk.grown hg (fun e=>h.nb e.symm)
 have hlt:=h.bk.lt;have hvb:nv'.ownBlock≠some b:=by
  rcases ha with e | ⟨q,e,hq⟩
  ·rw [e]; exact h.nb
  ·rw [e]; intro e2; injection e2 with e2; omega
 refine ⟨by simpa using hb1.put 1 nv',ho.far2 hvb,(h.sess.kept hg ?_).far2 h.sb,(h.evs.kept hg ?_).far2 h.vb,hvb,h.sb,h.vb,fun q hq=>?_,fun q hq=>?_,h.sv,h.base⟩
 ·cases hn:sv.ownBlock with
  | none=>exact .inl rfl
  | some q=>exact .inr (fun e=>h.ns q e.symm hn)
 ·cases hn:vv.ownBlock with
  | none=>exact .inl rfl
  | some q=>exact .inr (fun e=>h.nv q e.symm hn)
 ·rcases ha with e | ⟨r,e,hr⟩
  ·rw [e] at hq; exact h.ns q hq
  ·intro e2
   have:=(h.sess.lt q e2);rw [e] at hq; injection hq with hq; omega
 ·rcases ha with e | ⟨r,e,hr⟩
  ·rw [e] at hq; exact h.nv q hq
  ·intro e2
   have:=(h.evs.lt q e2);rw [e] at hq; injection hq with hq; omega
theorem Hand.sessions {w w1:World} {B b:Nat} {z:Int} {l:List Node} {ss ss':List Int} {ev:List Event} {nv sv vv sv':Value} (h:Hand w B b ⟨z,l,ss⟩ ev nv sv vv) (hg:w.grownBy w1 sv.ownBlock) (ho:Ow cInt 1 3 w1 B sv' ss') (ha:sv'.ownBlock=sv.ownBlock\/∃ q,sv'.ownBlock=some q/\w.heap.size<=q) :
  Hand (w1.setCell ⟨b,2,none⟩ sv') B b ⟨z,l,ss'⟩ ev nv sv' vv:=by
 have hb1:Bk w1 b [.int .i64 z,nv,sv,vv] 211:=h.bk.grown hg (fun e=>h.sb e.symm)
 have hlt:=h.bk.lt;have hvb:sv'.ownBlock≠some b:=by
  rcases ha with e | ⟨q,e,hq⟩
  ·rw [e]; exact h.sb
  ·rw [e]; intro e2; injection e2 with e2; omega
 refine ⟨by simpa using hb1.put 2 sv',(h.nodes.kept hg ?_).far2 h.nb,ho.far2 hvb,(h.evs.kept hg ?_).far2 h.vb,h.nb,hvb,h.vb,fun q hq=>?_,h.nv,fun q hq=>?_,h.base⟩
 ·cases hn:nv.ownBlock with
  | none=>exact .inl rfl
  | some q=>exact .inr (fun e=>h.ns q hn e.symm)
 ·cases hn:vv.ownBlock with
  | none=>exact .inl rfl
  | some q=>exact .inr (fun e=>h.sv q e.symm hn)
 ·rcases ha with e | ⟨r,e,hr⟩
  ·rw [e]; exact h.ns q hq
  ·have:=(h.nodes.lt q hq)
   rw [e]; intro e2; injection e2 with e2; omega
 ·rcases ha with e | ⟨r,e,hr⟩
  ·rw [e] at hq; exact h.sv q hq
  ·intro e2
   have:=(h.evs.lt q e2);rw [e] at hq; injection hq with hq; omega
theorem Below.set_up {B:Nat} {w w1:World} {g o:Nat} {v:Value} (h:Below B w w1) (hg:B<=g):Below B w (w1.setCell ⟨g,o,none⟩ v):=h.setCell hg v
theorem Below.grown_up {B:Nat} {w w1 w2:World} {row:Option Nat} (h:Below B w w1) (hB:B<=w1.heap.size) (hg:w1.grownBy w2 row) (hr:∀ q,row=some q->B<=q):Below B w w2:=by
 obtain ⟨g1,g2,g3,g4,g5⟩:=hg;refine h.trans ⟨g1,g2,g3,g4,fun k hk=>g5 k qH1 ?_⟩
 cases row with
 | none=>simp
 | some q=>have:=hr q rfl; simp; omega
theorem JdF {w W X w2:World} {B b:Nat} {t:Tr} {ev ev':List Event} {nv sv vv v2:Value} (HH:Hand W B b t ev nv sv vv) (HB:Below B w W) (hX:Below W.heap.size W X) (hown2:Ow JaG 2 78 w2 B v2 ev') (hg2:X.grownBy w2 vv.ownBlock) (ha:v2.ownBlock=vv.ownBlock\/v2.ownBlock=some X.heap.size) :
  Hand (w2.setCell ⟨b,3,none⟩ v2) B b t ev' nv sv v2/\Below B w (w2.setCell ⟨b,3,none⟩ v2)/\w2.cell? ⟨b,3,none⟩=some vv/\w2.frozen? ⟨b,3,none⟩=false/\b<w2.heap.size:=by
 have hbl:=HH.bk.lt;have hbB:=HH.base;have hXs:=hX.size;have hk:Bk w2 b [.int .i64 t.zxid,nv,sv,vv] 211:=(HH.bk.below hX).grown hg2 (fun e=>HH.vb e.symm)
 refine ⟨(HH.below hX).events hg2 hown2 (ha.imp id (fun e=>⟨_,e,zA3 _⟩)),?_,hk.cell 3,hk.frozen 3,hk.lt⟩
 exact Below.set_up (Below.grown_up (HB.trans (hX.mono qH1)) qH1 hg2 (fun q hq=>((HH.evs.below hX).own_in hq).1)) hbB
theorem Jjy {w W X w2:World} {B b:Nat} {z:Int} {l l':List Node} {ss:List Int} {ev:List Event} {nv sv vv v2:Value} (HH:Hand W B b ⟨z,l,ss⟩ ev nv sv vv) (HB:Below B w W) (hX:Below W.heap.size W X) (hown2:Ow Jab 9 75 w2 B v2 l') (hg2:X.grownBy w2 nv.ownBlock) (ha:v2.ownBlock=nv.ownBlock\/v2.ownBlock=some X.heap.size) :
  Hand (w2.setCell ⟨b,1,none⟩ v2) B b ⟨z,l',ss⟩ ev v2 sv vv/\Below B w (w2.setCell ⟨b,1,none⟩ v2)/\w2.cell? ⟨b,1,none⟩=some nv/\w2.frozen? ⟨b,1,none⟩=false/\b<w2.heap.size:=by
 have hbl:=HH.bk.lt;have hbB:=HH.base;have hXs:=hX.size;have hk:Bk w2 b [.int .i64 z,nv,sv,vv] 211:=(HH.bk.below hX).grown hg2 (fun e=>HH.nb e.symm)
 refine ⟨(HH.below hX).rows hg2 hown2 (ha.imp id (fun e=>⟨_,e,zA3 _⟩)),?_,hk.cell 1,hk.frozen 1,hk.lt⟩
 exact Below.set_up (Below.grown_up (HB.trans (hX.mono qH1)) qH1 hg2 (fun q hq=>((HH.nodes.below hX).own_in hq).1)) hbB
theorem Jjx {w W X w2:World} {B b:Nat} {z:Int} {l:List Node} {ss ss':List Int} {ev:List Event} {nv sv vv v2:Value} (HH:Hand W B b ⟨z,l,ss⟩ ev nv sv vv) (HB:Below B w W) (hX:Below W.heap.size W X) (hown2:Ow cInt 1 3 w2 B v2 ss') (hg2:X.grownBy w2 sv.ownBlock) (ha:v2.ownBlock=sv.ownBlock\/v2.ownBlock=some X.heap.size) :
  Hand (w2.setCell ⟨b,2,none⟩ v2) B b ⟨z,l,ss'⟩ ev nv v2 vv/\Below B w (w2.setCell ⟨b,2,none⟩ v2)/\w2.cell? ⟨b,2,none⟩=some sv/\w2.frozen? ⟨b,2,none⟩=false/\b<w2.heap.size:=by
 have hbl:=HH.bk.lt;have hbB:=HH.base;have hXs:=hX.size;have hk:Bk w2 b [.int .i64 z,nv,sv,vv] 211:=(HH.bk.below hX).grown hg2 (fun e=>HH.sb e.symm)
 refine ⟨(HH.below hX).sessions hg2 hown2 (ha.imp id (fun e=>⟨_,e,zA3 _⟩)),?_,hk.cell 2,hk.frozen 2,hk.lt⟩
 exact Below.set_up (Below.grown_up (HB.trans (hX.mono qH1)) qH1 hg2 (fun q hq=>((HH.sess.below hX).own_in hq).1)) hbB
def Jjm (l:List Node) (x:Txn) (th:Int):Int:=if th=0 then 8 else if hasN l (JaH x.path) then (if (getN l (JaH x.path)).owner≠0 then 11 else if x.owner≠0/\x.owner≠x.session then 12 else if 400<=l.length then 6 else 0) else 7
theorem lacks_is (t:Tr) (x:Txn):Jjm t.nodes x (getE t.nodes x.path)=Jfy t x:=by
 unfold Jjm Jfy getE;cases hasN t.nodes x.path <;> rfl
theorem trLacks (z:Int) (v v2:Value) (l:List Node) (ss:List Int) (x:Txn) (th:Int) (w:World) (h:Sl Jab 9 w v l) (h2:Sl cInt 1 w v2 ss) (hn:l.length<=140737488355328) (hp:x.path.size<=9223372036854775807) :
  Calls Tryz.prog 162 #[.agg #[.int .i64 z,v,v2],txnV x,.int .i64 th] w fun e w'=>e=.returned (.int .i64 (Jjm l x th))/\Below w.heap.size w w':=by
 obtain ⟨A,c,rfl,h1,h1b⟩:=h.form;obtain ⟨A2,c2,rfl,h3,h3b⟩:=h2.form;have HV:=zA0 h;have HSP:=zA0 (fun (W:World)=>Jdz x.path W hp)
 have HGT:=zA0 (fun (W:World) (h:Sl Jab 9 W (.slice A l.length c) l)=>Jl4 z (.slice A l.length c) A2 ss.length c2 l (Jac x.path).1 W h hn)
 unfold Jjm JaH;obtain ⟨xz,xo,xs,xp,xd,xv,xw⟩:=x;simp only at *;generalize Jac xp=sp at *;obtain ⟨sd,st,se⟩:=sp;simp only at *;clear h h2;unfold getE at HGT;generalize getN l sd=g at *;obtain ⟨gp,gd,g1,g2,g3,g4,g5,go,gk⟩:=g;simp only at *
 by_cases a1:th=0
 ·rw [if_pos a1]
  subst a1;cases hk:hasN l sd
  all_goals rw [hk] at HGT
  all_goals simp only [if_true,zC7,if_false] at HGT
  all_goals clear hk
  case false=>
   go_enter Tryz.func162,Tryz.ntmps162
   go_wp2_with (first | (go_at_call 129; refine zc (HSP.out _) (fun ext1 d1=>?_)) | (go_at_call 78; refine zc (HGT.out _ (HV.out.below zR)) (fun ext2 d2=>?_)))
   go_ret;exact ⟨rfl,zR⟩
  case true=>
   go_enter Tryz.func162,Tryz.ntmps162
   go_wp2_with (first | (go_at_call 129; refine zc (HSP.out _) (fun ext1 d1=>?_)) | (go_at_call 78; refine zc (HGT.out _ (HV.out.below zR)) (fun ext2 d2=>?_)))
   go_ret;exact ⟨rfl,zR⟩
 ·rw [if_neg a1]
  have q1:(th == 0)=false:=zB7.2 a1;cases hk:hasN l sd with
  | false=>
   rw [hk] at HGT;simp only [zC7,if_false] at HGT ⊢;clear hk;go_enter Tryz.func162,Tryz.ntmps162
   go_wp2_with (first | (go_at_call 129; refine zc (HSP.out _) (fun ext1 d1=>?_)) | (go_at_call 78; refine zc (HGT.out _ (HV.out.below zR)) (fun ext2 d2=>?_)))
   go_ret;exact ⟨rfl,zR⟩
  | true=>
   rw [hk] at HGT;simp only [if_true] at HGT ⊢;clear hk
   by_cases a2:go=0
   ·subst a2
    rw [if_neg qI1]
    by_cases a3:xw=0
    ·subst a3
     rw [if_neg qI1]
     by_cases a4:400<=l.length
     ·rw [if_pos a4]
      have q4:decide ((400:Int)<=(l.length:Int))=true:=zB0 qH1;go_enter Tryz.func162,Tryz.ntmps162
      go_wp2_with (first | (go_at_call 129; refine zc (HSP.out _) (fun ext1 d1=>?_)) | (go_at_call 78; refine zc (HGT.out _ (HV.out.below zR)) (fun ext2 d2=>?_)))
      go_ret;exact ⟨rfl,zR⟩
     ·rw [if_neg a4]
      have q4:decide ((400:Int)<=(l.length:Int))=false:=zA7 qH1;go_enter Tryz.func162,Tryz.ntmps162
      go_wp2_with (first | (go_at_call 129; refine zc (HSP.out _) (fun ext1 d1=>?_)) | (go_at_call 78; refine zc (HGT.out _ (HV.out.below zR)) (fun ext2 d2=>?_)))
      go_ret;exact ⟨rfl,zR⟩
    ·have q3:(xw == 0)=false:=zB7.2 a3
     by_cases a5:xw=xs
     ·subst a5
      rw [if_neg qI1]
      by_cases a4:400<=l.length
      ·rw [if_pos a4]
       have q4:decide ((400:Int)<=(l.length:Int))=true:=zB0 qH1;go_enter Tryz.func162,Tryz.ntmps162
       go_wp2_with (first | (go_at_call 129; refine zc (HSP.out _) (fun ext1 d1=>?_)) | (go_at_call 78; refine zc (HGT.out _ (HV.out.below zR)) (fun ext2 d2=>?_)))
       go_ret;exact ⟨rfl,zR⟩
      ·rw [if_neg a4]
       have q4:decide ((400:Int)<=(l.length:Int))=false:=zA7 qH1;go_enter Tryz.func162,Tryz.ntmps162
       go_wp2_with (first | (go_at_call 129; refine zc (HSP.out _) (fun ext1 d1=>?_)) | (go_at_call 78; refine zc (HGT.out _ (HV.out.below zR)) (fun ext2 d2=>?_)))
       go_ret;exact ⟨rfl,zR⟩
     ·have q5:(xw == xs)=false:=zB7.2 a5
      rw [if_pos ⟨a3,a5⟩];have q3b:(xw != 0)=true:=zC9.2 a3;have q5b:(xw != xs)=true:=zC9.2 a5;go_enter Tryz.func162,Tryz.ntmps162
      go_wp2_with (first | (go_at_call 129; refine zc (HSP.out _) (fun ext1 d1=>?_)) | (go_at_call 78; refine zc (HGT.out _ (HV.out.below zR)) (fun ext2 d2=>?_)))
      go_ret;exact ⟨rfl,zR⟩
   ·rw [if_pos a2]
    have q2:(go == 0)=false:=zB7.2 a2;go_enter Tryz.func162,Tryz.ntmps162
    go_wp2_with (first | (go_at_call 129; refine zc (HSP.out _) (fun ext1 d1=>?_)) | (go_at_call 78; refine zc (HGT.out _ (HV.out.below zR)) (fun ext2 d2=>?_)))
    go_ret;exact ⟨rfl,zR⟩
def Jk0 (w:World) (B b:Nat) (t:Tr) (ev:List Event) (e:Ending) (w':World):Prop:=∃ nv sv vv,e=.returned (.tuple #[])/\Hand w' B b t ev nv sv vv/\Below B w w'
theorem kidN_no {l:List Node} {d:ByteArray} (h:hasN l d=false) (more z:Int):kidN l d more z=l:=by unfold kidN; rw [h]; rfl
theorem kidN_yes {l:List Node} {d:ByteArray} (h:hasN l d=true) {x:Node} (hx:l[posN l d]?=some x) (more z:Int):kidN l d more z=l.set (posN l d) (bump x more z):=by
 unfold kidN;rw [h,if_pos rfl,zE6,hx];rfl
theorem Jom (z:Int) (l:List Node) (ss:List Int) (ev:List Event) (p:ByteArray) (more zx:Int) (nv sv vv:Value) (w:World) (B b:Nat) (h:Hand w B b ⟨z,l,ss⟩ ev nv sv vv) (hB:B<=w.heap.size) (hp:p.size<=9223372036854775807) (hn:l.length<=140737488355328)
  (hev:(ev.length+1)*24<=140737488355328) (hmore:more=1\/more = -1) (hbd:∀ n∈l,-4000000000<=n.kids/\n.kids<=4000000000/\-4000000000<=n.cversion/\n.cversion<=4000000000) :
  Calls Tryz.prog 168 #[.pointer (some ⟨b,0,none⟩),.string p,.int .i64 more,.int .i64 zx] w (Jk0 w B b ⟨z,kidN l (Jac p).1 more zx,ss⟩ (ev ++ [⟨4,(Jac p).1⟩])):=by
 obtain ⟨A,c,rfl,h1,h1b,_⟩:=h.nodes.form;obtain ⟨A2,c2,rfl,h2,h2b,_⟩:=h.sess.form;obtain ⟨A3,c3,rfl,h3,h3b,_⟩:=h.evs.form;have HBZ:=zA0 hB;have HH:=zA0 h;have HSP:=zA0 (fun (W:World)=>Jdz p W hp)
 have HFD:=zA0 (fun (W:World) (h:Sl Jab 9 W (.slice A l.length c) l)=>JfX z (.slice A l.length c) A2 ss.length c2 l (Jac p).1 W h hn)
 obtain ⟨b0,b1,b2,b3,bf1,bf2,bf3,bf0,blt⟩:=h.cells;generalize Jac p=sp at *;obtain ⟨sd,st,se⟩:=sp;simp only at *;clear h;cases hk:hasN l sd with
 | false=>
  rw [kidN_no hk];rw [hk] at HFD;clear hk hbd hmore;generalize posN l sd=q at *;go_enter Tryz.func168,Tryz.ntmps168
  go_upto_region 7 with (first | (go_at_call 129; refine zc (HSP.out _) (fun ext1 d1=>?_)) | (go_at_call 108; refine zc (HFD.out _ (HH.out.nodes.sl.below zR)) (fun ext2 d2=>?_)))
  refine Jax (fun W1 hW1=>?_)
  have hbW1:Below w.heap.size w W1:=qNE;clear hW1 b0 b1 b2 b3 bf1 bf2 bf3 bf0 HSP HFD;have HHW:=zA0 (HH.out.below hbW1);have HBW:=zA0 (hbW1.mono hB);obtain ⟨d0,d1,d2,d3,df1,df2,df3,df0,dlt⟩:=HHW.out.cells;have hBW:B<=W1.heap.size:=zB5 HHW.out.base (zG5 dlt);have HEV:=zA0 (fun (X:World) (hX:Below W1.heap.size W1 X)=>(HHW.out.evs.below hX))
  go_wp2_with (at_builtin; go_loud (refine Jaf _ rfl (.tmp 61) (.tmp 64) _ rfl JgR (B:=B) (l:=ev) (m:=[⟨4,sd⟩]) rfl rfl (HEV.out _ zR) (Sl.one_at JaG 2 _ _ _ rfl _ rfl qH1 qI1) Jda qs0 qB1 qB1 ?_; intro v2 w2 hown2 hg2 hat2; obtain ⟨A4,c4,rfl,_⟩:=hown2.form; have HX3:=zA0 (JdF HHW.out HBW.out zR hown2 hg2 hat2); obtain ⟨_,_,hs3,hf3,hl3⟩:=HX3.out; clear hown2 hg2 hat2));go_end0;simp only [zA9,zD5,zG6,zG3] at HX3;exact ⟨_,_,_,rfl,HX3.out.1,HX3.out.2.1⟩
 | true=>
  have hx:=JkI hk;generalize getN l sd=x at hx;rw [kidN_yes hk hx];rw [hk] at HFD;obtain ⟨bk1,bk2,bc1,bc2⟩:=hbd x (zD3 hx);clear hbd hk;generalize posN l sd=q at *;have hql:=(zB3.1 hx).1;obtain ⟨g,J,rfl,hBg,_,_,hnc,_,_⟩:=HH.out.nodes.blk qH1;have hqc:q<c:=qCE;obtain ⟨xp,xd,xz,xm,xq,xv,xc,xo,xk⟩:=x;simp only at bk1 bk2 bc1 bc2;go_enter Tryz.func168,Tryz.ntmps168
  go_upto_region 4 with (first | (go_at_call 129; refine zc (HSP.out _) (fun ext1 d1=>?_)) | (go_at_call 108; refine zc (HFD.out _ (HH.out.nodes.sl.below zR)) (fun ext2 d2=>?_)))
  refine Jax (fun W1 hW1=>?_)
  have hbW1:Below w.heap.size w W1:=qNE;have H1:=zA0 (HH.out.below hbW1);clear hW1 b0 b1 b2 b3 bf1 bf2 bf3 bf0 HSP HFD;obtain ⟨e1,e1f⟩:=H1.out.nodes.at_cell (j:=8) (o:=q*9+2+6) hx rfl qH1;have hmw:IntKind.i64.wrap (xk+more)=xk+more:=qHE;have hcw:IntKind.i64.wrap (xc+1)=xc+1:=qHE;clear hmore;go_upto_region 5 with fail
  refine Jax (fun W2 hW2=>?_)
  have hbW2:Below B w W2:=by rw [hW2.out]; exact Below.set_up (hbW1.mono hB) hBg
  have H2:=zA0 (show Hand W2 B b _ ev _ _ _ from hW2.out▸H1.out.put (k:=q) (j:=8) (x':=⟨xp,xd,xz,xm,xq,xv,xc,xo,xk+more⟩) hx qH1 qH1 rfl)
  clear hW2 e1 e1f H1;have hx2:=zJ7 (a:=(⟨xp,xd,xz,xm,xq,xv,xc,xo,xk+more⟩:Node)) hql;obtain ⟨e1,e1f⟩:=H2.out.nodes.at_cell (j:=6) (o:=q*9+2+4) hx2 rfl qH1;go_upto_region 6 with fail
  refine Jax (fun W3 hW3=>?_)
  have hbW3:Below B w W3:=by rw [hW3.out]; exact Below.set_up hbW2 hBg
  have H3:=zA0 (show Hand W3 B b _ ev _ _ _ from hW3.out▸H2.out.put (k:=q) (j:=6) (x':=⟨xp,xd,xz,xm,xq,xv,xc+1,xo,xk+more⟩) hx2 qH1 qH1 rfl)
  rw [List.set_set] at H3;clear hW3 e1 e1f H2 hx2 hbW2;have hx3:=zJ7 (a:=(⟨xp,xd,xz,xm,xq,xv,xc+1,xo,xk+more⟩:Node)) hql;obtain ⟨e1,e1f⟩:=H3.out.nodes.at_cell (j:=4) (o:=q*9+2+2) hx3 rfl qH1;go_upto_region 7 with fail
  refine Jax (fun W4 hW4=>?_)
  have hbW4:Below B w W4:=by rw [hW4.out]; exact Below.set_up hbW3 hBg
  have H4:=zA0 (show Hand W4 B b _ ev _ _ _ from hW4.out▸H3.out.put (k:=q) (j:=4) (x':=⟨xp,xd,xz,xm,zx,xv,xc+1,xo,xk+more⟩) hx3 qH1 qH1 rfl)
  rw [List.set_set] at H4;clear hW4 e1 e1f H3 hx3 hbW3 hmw hcw hbW1;have HHW:=zA0 H4.out;have HBW:=zA0 hbW4;obtain ⟨d0,d1,d2,d3,df1,df2,df3,df0,dlt⟩:=HHW.out.cells;have hBW:B<=W4.heap.size:=zB5 HHW.out.base (zG5 dlt);have HEV:=zA0 (fun (X:World) (hX:Below W4.heap.size W4 X)=>(HHW.out.evs.below hX))
  go_wp2_with (at_builtin; go_loud (refine Jaf _ rfl (.tmp 61) (.tmp 64) _ rfl JgR (B:=B) (l:=ev) (m:=[⟨4,sd⟩]) rfl rfl (HEV.out _ zR) (Sl.one_at JaG 2 _ _ _ rfl _ rfl qH1 qI1) Jda qs0 qB1 qB1 ?_; intro v2 w2 hown2 hg2 hat2; obtain ⟨A4,c4,rfl,_⟩:=hown2.form; have HX3:=zA0 (JdF HHW.out HBW.out zR hown2 hg2 hat2); obtain ⟨_,_,hs3,hf3,hl3⟩:=HX3.out; clear hown2 hg2 hat2));go_end0;simp only [zA9,zD5,zG6,zG3] at HX3;exact ⟨_,_,_,rfl,HX3.out.1,HX3.out.2.1⟩
theorem Jlh (A:Option Addr) (n c m d:Nat):(Value.slice A n c).ownBlock=(Value.slice A m d).ownBlock:=by
 cases A with
 | none=>rfl
 | some a=>rfl
theorem mem_delN {l:List Node} {p:ByteArray} {n:Node} (h:n∈delN l p):n∈l:=by
 unfold delN at h;rcases zE7.1 h with h | h
 ·exact zH7 h
 ·exact zL0 h
theorem delN_len {l:List Node} {p:ByteArray} (h:posN l p<l.length):(delN l p).length=l.length - 1:=by
 unfold delN;rw [zA9,zC2,zE5];omega
theorem Jhr (z:Int) (l:List Node) (ss:List Int) (ev:List Event) (p:ByteArray) (zx:Int) (nv sv vv:Value) (w:World) (B b:Nat) (h:Hand w B b ⟨z,l,ss⟩ ev nv sv vv) (hB:B<=w.heap.size) (hk:hasN l p=true) (hp:p.size<=9223372036854775807) (hn:l.length<=140737488355328)
  (hev:(ev.length+2)*24<=140737488355328) (hbd:∀ n∈l,-4000000000<=n.kids/\n.kids<=4000000000/\-4000000000<=n.cversion/\n.cversion<=4000000000) :
  Calls Tryz.prog 136 #[.pointer (some ⟨b,0,none⟩),.string p,.int .i64 zx] w (Jk0 w B b ⟨z,JcS l p zx,ss⟩ (ev ++ JgI p)):=by
 obtain ⟨A,c,rfl,h1,h1b,_⟩:=h.nodes.form;obtain ⟨A2,c2,rfl,h2,h2b,_⟩:=h.sess.form;obtain ⟨A3,c3,rfl,h3,h3b,_⟩:=h.evs.form;have HH:=zA0 h;have HFD:=zA0 (fun (W:World) (h:Sl Jab 9 W (.slice A l.length c) l)=>JfX z (.slice A l.length c) A2 ss.length c2 l p W h hn)
 rw [hk] at HFD;have hql:=Jii hk;have hdl:=delN_len hql;have HBD:=zA0 (fun n (h:n∈delN l p)=>hbd n (mem_delN h))
 have hdd:delN l p=l.take (posN l p) ++ l.drop (posN l p+1):=rfl;unfold JcS JgI JaH;generalize delN l p=L at *;generalize posN l p=q at *;obtain ⟨b0,b1,b2,b3,bf1,bf2,bf3,bf0,blt⟩:=h.cells;clear h hk hbd;go_enter Tryz.func136,Tryz.ntmps136
 go_upto_region 1 with ((go_at_call 108; refine zc (HFD.out _ (HH.out.nodes.sl.below zR)) (fun ext2 d2=>?_)))
 refine Jax (fun W1 hW1=>?_)
 have hbW1:Below w.heap.size w W1:=qNE;have H1:=zA0 (HH.out.below hbW1);clear hW1 b0 b1 b2 b3 bf1 bf2 bf3 bf0 HFD;obtain ⟨b0,b1,b2,b3,bf1,bf2,bf3,bf0,blt1⟩:=H1.out.cells;go_upto_region 2 with (go_at_call 167; go_loud ((with_reducible refine (delNode _ _ _ _ l _ B H1.out.nodes hql (by simpa [maxLen] using h1b)).mono ?_); rintro e w2 ⟨rfl,hd⟩; have HX:=zA0 (Jjy (v2:=.slice A (l.length - 1) c) H1.out (hbW1.mono hB) (zB6 _ _) hd.out.1 hd.out.2 (Or.inl (Jlh A _ _ _ _))); obtain ⟨_,_,hs3,hf3,hl3⟩:=HX.out; clear hd))
 refine Jax (fun W2 hW2=>?_)
 rw [<-hW2.out,<-hdd] at HX;have H2:=zA0 HX.out.1;have hb2:Below B w W2:=HX.out.2.1;clear hW2 HX hs3 hf3 hl3 H1 b0 b1 b2 b3 bf1 bf2 bf3 bf0;obtain ⟨b0,b1,b2,b3,bf1,bf2,bf3,bf0,blt2⟩:=H2.out.cells;have hBW:B<=W2.heap.size:=zB5 H2.out.base (zG5 blt2);have HEV:=zA0 (fun (X:World) (hX:Below W2.heap.size W2 X)=>(H2.out.evs.below hX))
 go_upto_region 3 with (at_builtin; refine Jaf _ rfl (.tmp 34) (.tmp 37) _ rfl JgR (B:=B) (l:=ev) (m:=[⟨2,p⟩]) rfl rfl (HEV.out _ zR) (Sl.one_at JaG 2 _ _ _ rfl _ rfl qH1 qI1) Jda qs0 qB1 qB1 ?_; intro v2 w2 hown2 hg2 hat2; obtain ⟨A4,c4,rfl,_⟩:=hown2.form; have HX3:=zA0 (JdF H2.out hb2 zR hown2 hg2 hat2); obtain ⟨_,_,hs3,hf3,hl3⟩:=HX3.out; clear hown2 hg2 hat2)
 refine Jax (fun W3 hW3=>?_)
 simp only [zA9,zD5,zG6,zG3] at HX3;rw [<-hW3.out] at HX3;have H3:=zA0 HX3.out.1;have hb3:Below B w W3:=HX3.out.2.1;clear hW3 HX3 hs3 hf3 hl3 H2 b0 b1 b2 b3 bf1 bf2 bf3 bf0 HEV;have hBW3:B<=W3.heap.size:=zB5 H3.out.base (zG5 H3.out.bk.lt);go_wp2_with (go_at_call 168; (with_reducible refine (Jom z L ss (ev ++ [⟨2,p⟩]) p (-1) zx _ _ _ W3 B b H3.out hBW3 hp qH1 qB1 (Or.inr rfl) HBD.out).mono ?_); rintro e w4 ⟨nv4,sv4,vv4,rfl,hh4,hb4⟩; have HH4:=zA0 hh4; clear hh4);go_end0;have hfin:=HH4.out;rw [zC0] at hfin;exact ⟨_,_,_,rfl,hfin,hb3.trans hb4⟩
end
section
open Go.RowKit
def Jdt (l:List Node) (z:Int) (ps:List ByteArray):List Node:=ps.foldl (fun l p=>JcS l p z) l
structure Cl (z:Int) (ss:List Int) (s:Int) (l:List Node) (ps:List ByteArray):Prop where
 good:GoodW z l ss
 nd:ps.Nodup
 there:∀ p∈ps,∃ n∈l,n.path=p
 own:∀ n∈l,n.owner=s↔n.path∈ps
theorem Cl.step {z:Int} {ss:List Int} {s:Int} (hs0:s≠0) {l:List Node} {p:ByteArray} {ps:List ByteArray} (h:Cl z ss s l (p :: ps)):Cl z ss s (JcS l p z) ps/\∀ C:Int,(∀ n∈l,n.cversion<=C)->∀ n∈JcS l p z,n.cversion<=C+1:=by
 obtain ⟨h,hnd,hp,ho⟩:=h;obtain ⟨x,hx,hxp⟩:=hp p qI1;have hxo:=(ho x hx).2 (by rw [hxp]; simp)
 have hxk:x.kids=0:=by
  rcases h.own x hx with h0 | h0
  ·exact absurd (hxo.symm.trans h0) hs0
  ·exact h0.2
 have hxs:x.path≠slash:=fun e=>hs0 (hxo.symm.trans (h.rootOf hx e))
 have hmem:=Jia h.sorted hx z;have hg:=JgF h hx hxs hxk;rw [zK6] at hnd;rw [<-hxp];refine ⟨⟨hg,hnd.2,?_,?_⟩,?_⟩
 ·intro q hq
  obtain ⟨n,hn,hnq⟩:=hp q (by simp [hq])
  refine ⟨_,(hmem _).2 ⟨n,hn,?_,rfl⟩,by rw [Jam]; exact hnq⟩
  rw [hxp,hnq];exact fun e=>hnd.1 (e▸hq)
 ·intro n hn
  obtain ⟨m,hm,hmx,rfl⟩:=(hmem n).1 hn;rw [Jb5,Jam,ho m hm,zE2];constructor
  ·rintro (e | e)
   ·exact absurd (e.trans hxp.symm) hmx
   ·exact e
  ·exact .inr
 ·intro C hC n hn
  obtain ⟨m,hm,hmx,rfl⟩:=(hmem n).1 hn;have:=hC m hm;unfold JaX;split
  ·simp only [bump]
   omega
  ·omega
theorem Cl.fold {z:Int} {ss:List Int} {s:Int} (hs0:s≠0):∀ (ps qs:List ByteArray) (l:List Node),Cl z ss s l (ps ++ qs)->Cl z ss s (Jdt l z ps) qs/\∀ C:Int,(∀ n∈l,n.cversion<=C)->∀ n∈Jdt l z ps,n.cversion<=C+ps.length
 | [],qs,l,h=>⟨h,fun C hC n hn=>by have:=hC n hn; simpa using this⟩
 | p :: ps,qs,l,h=>by
  obtain ⟨h1,h2⟩:=h.step hs0;obtain ⟨h3,h4⟩:=Cl.fold hs0 ps qs (JcS l p z) h1;refine ⟨h3,fun C hC n hn=>?_⟩
  have:=h4 (C+1) (h2 C hC) n hn;rw [zD5];omega
theorem Cl.start {z:Int} {ss:List Int} {l:List Node} (h:GoodW z l ss) (s:Int):Cl z ss s l (JaJ l s):=
 ⟨h,Jgo h.sorted s,fun p hp=>by
  obtain ⟨n,hn,_,e⟩:=JeW.1 hp;exact ⟨n,hn,e⟩,fun n hn=>by
  rw [JeW];constructor
  ·intro e; exact ⟨n,hn,e,rfl⟩
  ·rintro ⟨m,hm,e,hp⟩
   rw [<-Jng h.sorted hm hn hp];exact e⟩
theorem Jhj {l:List Node} {k:Nat} {x:Node} (hx:l[k]?=some x) (s:Int):JaJ (l.take (k+1)) s=JaJ (l.take k) s ++ (if x.owner=s then [x.path] else []):=by
 unfold JaJ;rw [zF7,hx];simp only [zP9,zO6,zK1]
 by_cases h:x.owner=s
 ·rw [if_pos h,zR0 qA1]; rfl
 ·rw [if_neg h,List.filter_cons_of_neg qA1]; rfl
theorem Jkw (l:List Node) (k:Nat) (s:Int):JaJ l s=JaJ (l.take k) s ++ JaJ (l.drop k) s:=by
 unfold JaJ;rw [<-zK1,<-zO6,zD7]
theorem Jml {l:List Node} {k:Nat} {x:Node} (hx:l[k]?=some x) {s:Int} (ho:x.owner=s):JaJ (l.drop k) s=x.path :: JaJ (l.drop (k+1)) s:=by
 have h1:l.drop k=x :: l.drop (k+1):=by
  obtain ⟨hk,rfl⟩:=zB3.1 hx;exact (zQ1 hk).symm
 unfold JaJ;rw [h1,zR0 (by simpa using ho),zH8]
theorem Jlg (l:List Node) (s:Int):(JaJ l s).length<=l.length:=by
 unfold JaJ;rw [zG0];exact zM8 _ _
theorem close_at {z:Int} {ss:List Int} {l:List Node} (h:GoodW z l ss) {s:Int} (hs0:s≠0) (hc:∀ n∈l,n.cversion<=2147483647) {k:Nat} {x:Node} (hx:l[k]?=some x) (ho:x.owner=s) :
  GoodW z (Jdt l z (JaJ (l.take k) s)) ss/\hasN (Jdt l z (JaJ (l.take k) s)) x.path=true/\(∀ n∈Jdt l z (JaJ (l.take k) s),-4000000000<=n.kids/\n.kids<=4000000000/\-4000000000<=n.cversion/\n.cversion<=4000000000):=by
 have h0:=Cl.start h s;rw [Jkw l k s,Jml hx ho] at h0;obtain ⟨h1,h2⟩:=h0.fold hs0;have h3:=h2 2147483647 hc;have hlen:(JaJ (l.take k) s).length<=400:=zB5 (Jlg _ _) (by have:=h.len; rw [zC2]; omega)
 refine ⟨h1.good,(JgC h1.good.sorted).2 (h1.there x.path qI1),fun n hn=>?_⟩
 have a:=h1.good.kids n hn;have b:=h1.good.stat n hn;have c:=h3 n hn;have d:(Jdt l z (JaJ (l.take k) s)).countP (kidB n.path)<=400:=zB5 zL9 h1.good.len;omega
theorem JmQ (l:List Node) (z s:Int):Jdt l z (JaJ l s)=JfB l s z:=rfl
theorem JkV (l:List Node) (z:Int) (ps:List ByteArray) (p:ByteArray):Jdt l z (ps ++ [p])=JcS (Jdt l z ps) p z:=by
 unfold Jdt;rw [zI2];rfl
end
section
open Go.RowKit Go.ChangeShapes Go.WideShapes Go.ChangeAt
abbrev reqV (r:Request):Value:=.agg #[.int .i64 r.op,.int .i64 r.session,.string r.path,.string r.data,.int .i64 r.version,.int .i64 r.flags]
theorem Jni (z:Int) (v v2:Value) (l:List Node) (ss:List Int) (r:Request) (w:World) (h:Sl Jab 9 w v l) (h2:Sl cInt 1 w v2 ss) (hn:l.length<=140737488355328) (hn2:ss.length*8<=140737488355328) (hp:r.path.size<=9223372036854775807) :
  Calls Tryz.prog 103 #[.agg #[.int .i64 z,v,v2],reqV r] w fun e w'=>e=.returned (.tuple #[.int .i64 (Jeb ⟨z,l,ss⟩ r).1,.int .i64 (Jeb ⟨z,l,ss⟩ r).2])/\Below w.heap.size w w':=by
 obtain ⟨A,c,rfl,h1,h1b⟩:=h.form;obtain ⟨A2,c2,rfl,h3,h3b⟩:=h2.form;have HV:=zA0 h;have HS:=zA0 h2;clear h h2;obtain ⟨ro,rs,rp,rd,rv,rf⟩:=r;have HG:=zA0 (fun (W:World)=>JcG rp W hp)
 have HOP:=zA0 (fun (W:World) (h:Sl cInt 1 W (.slice A2 ss.length c2) ss)=>JiO z (.slice A2 ss.length c2) A l.length c ss rs W h qH1)
 have HGT:=zA0 (fun (W:World) (h:Sl Jab 9 W (.slice A l.length c) l)=>Jl4 z (.slice A l.length c) A2 ss.length c2 l rp W h qH1)
 unfold Jeb;simp only;unfold getE at HGT;cases g1:Jaw rp with
 | false=>
  rw [g1] at HG;clear g1 HOP HGT;simp only [zC7,if_false];go_enter Tryz.func103,Tryz.ntmps103
  go_wp2_with (go_at_call 31; refine zc (HG.out _) (fun ext1 d1=>?_))
  go_ret2;exact ⟨rfl,zR⟩
 | true=>
  rw [g1] at HG;rw [if_pos rfl];cases g2:isI ss rs with
  | false=>
   rw [g2] at HOP;clear g1 g2 HGT;simp only [zC7,if_false];go_enter Tryz.func103,Tryz.ntmps103
   go_wp2_with (first | (go_at_call 31; refine zc (HG.out _) (fun ext1 d1=>?_)) | (go_at_call 29; refine zc (HOP.out _ (HS.out.below zR)) (fun ext2 d2=>?_)))
   go_ret2;exact ⟨rfl,zR⟩
  | true=>
   rw [g2] at HOP;rw [if_pos rfl];cases g3:hasN l rp with
   | false=>
    rw [g3,Jil g3] at HGT;clear g1 g2 g3;simp only [zC7,if_false] at HGT ⊢;go_enter Tryz.func103,Tryz.ntmps103
    go_wp2_with (first | (go_at_call 31; refine zc (HG.out _) (fun ext1 d1=>?_)) | (go_at_call 29; refine zc (HOP.out _ (HS.out.below zR)) (fun ext2 d2=>?_)) | (go_at_call 78; refine zc (HGT.out _ (HV.out.below zR)) (fun ext3 d3=>?_)))
    go_ret2;exact ⟨rfl,zR⟩
   | true=>
    rw [g3,if_pos rfl] at HGT;rw [if_pos rfl];generalize getN l rp=n at *;obtain ⟨np,nd,n1,n2,n3,n4,n5,n6,n7⟩:=n;simp only at HGT ⊢;clear g1 g2 g3
    by_cases g4:rv = -1
    ·subst g4
     rw [if_neg (fun e=>e.1 rfl)]
     simp only;go_enter Tryz.func103,Tryz.ntmps103
     go_wp2_with (first | (go_at_call 31; refine zc (HG.out _) (fun ext1 d1=>?_)) | (go_at_call 29; refine zc (HOP.out _ (HS.out.below zR)) (fun ext2 d2=>?_)) | (go_at_call 78; refine zc (HGT.out _ (HV.out.below zR)) (fun ext3 d3=>?_)))
     go_ret2;exact ⟨rfl,zR⟩
    ·have b1:(rv == -1)=false:=zB7.2 g4
     have b2:(rv != -1)=true:=zC9.2 g4
     by_cases g5:rv=n4
     ·subst g5
      rw [if_neg (fun e=>e.2 rfl)]
      simp only;clear g4;go_enter Tryz.func103,Tryz.ntmps103
      go_wp2_with (first | (go_at_call 31; refine zc (HG.out _) (fun ext1 d1=>?_)) | (go_at_call 29; refine zc (HOP.out _ (HS.out.below zR)) (fun ext2 d2=>?_)) | (go_at_call 78; refine zc (HGT.out _ (HV.out.below zR)) (fun ext3 d3=>?_)))
      go_ret2;exact ⟨rfl,zR⟩
     ·rw [if_pos ⟨g4,g5⟩]
      have b3:(rv == n4)=false:=zB7.2 g5;have b4:(rv != n4)=true:=zC9.2 g5;clear g4 g5;simp only;go_enter Tryz.func103,Tryz.ntmps103
      go_wp2_with (first | (go_at_call 31; refine zc (HG.out _) (fun ext1 d1=>?_)) | (go_at_call 29; refine zc (HOP.out _ (HS.out.below zR)) (fun ext2 d2=>?_)) | (go_at_call 78; refine zc (HGT.out _ (HV.out.below zR)) (fun ext3 d3=>?_)))
      go_ret2;exact ⟨rfl,zR⟩
end
section
open Go.ChangeShapes Go.WideShapes Go.ChangeAt Go.RowKit
theorem JfI (p x y:List UInt8):Op.bytesLess (p ++ x) (p ++ y)=Op.bytesLess x y:=by
 induction p with
 | nil=>rfl
 | cons c p ih=>
  simp only [zF9,Op.bytesLess,ih];have:¬ c<c:=UInt8.lt_irrefl c;simp [this]
theorem Jej:∀ (x y:List UInt8) (c d:UInt8),x.length=y.length->Op.bytesLess (x ++ [c]) (y ++ [d])=(Op.bytesLess x y || (x == y && decide (c<d)))
 | [],[],c,d,_=>by simp [Op.bytesLess]
 | a :: x,b :: y,c,d,h=>by
  have ih:=Jej x y c d qA1;simp only [zF9,Op.bytesLess,ih]
  by_cases hab:a=b
  ·subst hab
   have:¬ a<a:=UInt8.lt_irrefl a;simp [this]
  ·have hab':(a == b)=false:=by simpa using hab
   simp [hab']
 | [],_ :: _,_,_,h=>by simp at h
 | _ :: _,[],_,_,h=>by simp at h
theorem JoI {a b:Nat} (ha:a<10) (hb:b<10):(UInt8.ofNat (48+a)=UInt8.ofNat (48+b))↔a=b:=by
 rw [<-UInt8.toNat_inj];simp;omega
theorem digit_lt {a b:Nat} (ha:a<10) (hb:b<10):(UInt8.ofNat (48+a)<UInt8.ofNat (48+b))↔a<b:=by
 rw [UInt8.lt_iff_toNat_lt];simp;omega
theorem JlF:∀ (k n m:Nat),n<10 ^ k->m<10 ^ k->(digs k n=digs k m↔n=m)
 | 0,n,m,hn,hm=>by simp [digs]; simp at hn hm; omega
 | k+1,n,m,hn,hm=>by
  have ih:=JlF k (n / 10) (m / 10) (by rw [zI4] at hn; omega) (by rw [zI4] at hm; omega)
  rw [digs,digs];constructor
  ·intro h
   have h1:=List.append_inj h (by simp [JbL])
   have h2:=ih.1 h1.1;have h3:=(JoI (Nat.mod_lt _ qH1) (Nat.mod_lt _ qH1)).1 (by simpa using h1.2)
   omega
  ·rintro rfl; rfl
theorem JjQ:∀ (k n m:Nat),n<10 ^ k->m<10 ^ k->Op.bytesLess (digs k n) (digs k m)=decide (n<m)
 | 0,n,m,hn,hm=>by simp at hn hm; subst hn; subst hm; rfl
 | k+1,n,m,hn,hm=>by
  have h1:n / 10<10 ^ k:=by rw [zI4] at hn; omega
  have h2:m / 10<10 ^ k:=by rw [zI4] at hm; omega
  rw [digs,digs,Jej _ _ _ _ (by simp [JbL]),JjQ k _ _ h1 h2]
  have h3:(digs k (n / 10) == digs k (m / 10))=decide (n / 10=m / 10):=by
   rw [zN8]; simp [JlF k _ _ h1 h2]
  rw [h3,zN8];simp only [zJ0,zE1,decide_eq_true_eq,digit_lt (Nat.mod_lt n (by omega:0<10)) (Nat.mod_lt m (by omega:0<10))]
  omega
theorem trSerial (s:ByteArray) (n:Int) (w:World) (hs:s.size<=140737488351232) :
  Calls Tryz.prog 130 #[.string s,.int .i64 n] w fun e w'=>e=.returned (.tuple #[.string (serR s n).1,.int .i64 (serR s n).2])/\Below w.heap.size w w':=by
 unfold serR
 by_cases hr:n<0\/2147483647<n
 ·rw [if_pos hr]
  exact (Ji2 s n w hr).mono fun e w' ⟨he,hw⟩=>⟨he,by rw [<-hw]; exact zB6 _ _⟩
 ·rw [if_neg hr]
  obtain ⟨k,rfl⟩:∃ k:Nat,n=k:=⟨n.toNat,by omega⟩
  refine (Jko s k _ rfl w qH1 hs).mono fun e w' ⟨he,hb⟩=>⟨?_,hb⟩
  rw [he];unfold Jkq;rw [zG9];cases JaK (bs s ++ digs 10 k) <;> rfl
end
section
open Go.RowKit
theorem joinT_bs {x:List UInt8} (d a b:ByteArray) (h:bs b=bs a ++ x):bs (Jbx d b)=bs (Jbx d a) ++ x:=by
 unfold Jbx;split
 ·rw [Jas,Jas,h,zC0]
 ·rw [Jas,Jas,Jas,Jas,h]
  simp only [zC0]
theorem Jla {p:ByteArray} (h:(Jac p).2.2=0):Jaw p=true/\p≠slash:=by
 have hg:Jaw p=true:=by
  cases hg:Jaw p with
  | true=>rfl
  | false=>
   unfold Jac at h;rw [hg] at h;simp at h
 exact ⟨hg,(Jf6 hg).1 h⟩
theorem seq_path {t:Tr} {p:ByteArray} (hp:(Jac p).2.2=0) (h:(seqR t p).2=0) :
  hasN t.nodes (Jac p).1=true/\(0<=(getN t.nodes (Jac p).1).cversion/\(getN t.nodes (Jac p).1).cversion<=2147483647)/\
  bs (seqR t p).1=bs p ++ digs 10 (getN t.nodes (Jac p).1).cversion.toNat/\JaH (seqR t p).1=(Jac p).1:=by
 obtain ⟨hg,hs⟩:=Jla hp;have hj:=(JdV hg hs).1;unfold seqR at h ⊢;cases h1:hasN t.nodes (Jac p).1 with
 | false=>rw [h1] at h; simp at h
 | true=>
  rw [h1,if_pos rfl] at h;rw [if_pos rfl];generalize (getN t.nodes (Jac p).1).cversion=cv at *
  by_cases h2:(serR (Jac p).2.1 cv).2=0
  ·rw [if_neg qH1] at h ⊢
   obtain ⟨j1,j2,j3,j4⟩:=JdZ h;obtain ⟨_,s1,_⟩:=join_all h;rw [j4];simp only;have h3:¬ (cv<0\/2147483647<cv):=by
    intro e;unfold serR at h2;rw [if_pos e] at h2;simp at h2
   have h4:(serR (Jac p).2.1 cv).1=⟨(bs (Jac p).2.1 ++ digs 10 cv.toNat).toArray⟩:=by
    unfold serR at h2 ⊢;rw [if_neg h3] at h2 ⊢;cases h5:JaK (bs (Jac p).2.1 ++ digs 10 cv.toNat) with
    | false=>rw [h5] at h2; simp at h2
    | true=>rfl
   refine ⟨trivial,by omega,?_,?_⟩
   ·rw [joinT_bs (Jac p).1 (Jac p).2.1 (serR (Jac p).2.1 cv).1 (x:=digs 10 cv.toNat) (by rw [h4]; rfl)]
    have:Jbx (Jac p).1 (Jac p).2.1=p:=by
     obtain ⟨_,_,_,k4⟩:=JdZ (d:=(Jac p).1) (n:=(Jac p).2.1) (by rw [hj])
     rw [hj] at k4;exact (Prod.mk.inj k4).1.symm
    rw [this]
   ·unfold JaH
    rw [s1]
  ·rw [if_pos h2] at h
   exact absurd h h2
theorem made_seq {t:Tr} {z:Int} {r:Request} (ho:r.op=3) (hf:r.flags=2\/r.flags=3) (h:Jbi t z r=0):(Jac r.path).2.2=0/\(seqR t r.path).2=0/\(JaS t z r).path=(seqR t r.path).1/\(JaS t z r).op=3/\(JaS t z r).zxid=z/\Jaz t (JaS t z r)=0:=by
 obtain ⟨h1,h2,h3,h4⟩:=Jkv h;obtain ⟨m1,m2,m3,m4⟩:=Jlr h2;have h5:(creR t r).2=0/\(JbS t z r).1.path=(creR t r).1:=by
  unfold JbS at h2 ⊢;rw [if_neg qH1,if_pos ho] at h2 ⊢;exact ⟨h2,rfl⟩
 have h6:(Jac r.path).2.2=0/\creR t r=seqR t r.path:=by
  have h7:=h5.1;unfold creR at h7 ⊢;rw [if_neg qH1] at h7 ⊢
  by_cases h8:(Jac r.path).2.2=0
  ·rw [if_neg qH1] at h7 ⊢
   cases h9:isI t.sess r.session with
   | false=>rw [h9] at h7; simp at h7
   | true=>
    rw [if_neg qG1,show seqF r.flags=true from zB0 hf,if_pos rfl]
    exact ⟨h8,rfl⟩
  ·rw [if_pos h8] at h7
   simp at h7
 rw [h4];rw [h6.2] at h5;exact ⟨h6.1,h5.1,h5.2,m2.trans ho,m1,h3⟩
end
end Go.Proofs.YtjnooagaghdkdaaGreatDoor
