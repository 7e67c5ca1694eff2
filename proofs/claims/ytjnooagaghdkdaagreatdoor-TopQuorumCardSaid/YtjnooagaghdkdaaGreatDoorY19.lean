/-L-/
import Derived.Test.YtjnooagaghdkdaaGreatDoorY17
set_option maxHeartbeats 10000000
set_option maxRecDepth 100000
set_option linter.all false
namespace Go.Proofs.YtjnooagaghdkdaaGreatDoor
section
open Go.RowKit Go.ChangeShapes Go.WideShapes Go.ChangeAt
theorem JiR {w:World} {n:Nat} {cs:List Value} (h:Deep Tryz.prog w (n+10) 27 cs):∃ r:Request,cs=Jlx r/\r.path.size<=140737488351232:=by
 obtain ⟨hl,hf⟩:=JgB Tryz.underlying27 h;rw [show Tryz.prog.cellsOf 27=6 from by kernel_rfl] at hl
 obtain ⟨c0,c1,c2,c3,c4,c5,rfl⟩:∃ a b c d e f,cs=[a,b,c,d,e,f]:=by
  rcases cs with _ | ⟨a,_ | ⟨b,_ | ⟨c,_ | ⟨d,_ | ⟨e,_ | ⟨f,_ | ⟨g,cs⟩⟩⟩⟩⟩⟩⟩ <;> simp at hl
  exact ⟨a,b,c,d,e,f,rfl⟩
 obtain ⟨z0,e0,_⟩:=Jb2 Tryz.underlying3 (JbR hf 0 3 0 1 rfl qE1);obtain ⟨z1,e1,_⟩:=Jb2 Tryz.underlying3 (JbR hf 1 3 1 1 rfl qE1);obtain ⟨p,e2,hp⟩:=JgC Tryz.underlying9 (JbR hf 2 9 2 1 rfl qE1);obtain ⟨d,e3,_⟩:=JgC Tryz.underlying9 (JbR hf 3 9 3 1 rfl qE1);obtain ⟨z4,e4,_⟩:=Jb2 Tryz.underlying3 (JbR hf 4 3 4 1 rfl qE1);obtain ⟨z5,e5,_⟩:=Jb2 Tryz.underlying3 (JbR hf 5 3 5 1 rfl qE1);simp only [zI5,List.drop_succ_cons,zL3,zN1,List.cons.injEq,and_true] at e0 e1 e2 e3 e4 e5;subst e0 e1 e2 e3 e4 e5;simp only [reachBytes] at hp;exact ⟨⟨z0,z1,p,d,z4,z5⟩,rfl,hp⟩
theorem JnD {w:World} {n:Nat} {cs:List Value} (h:Deep Tryz.prog w (n+11) 29 cs):∃ r:Deed,cs=Jmy r/\r.path.size<=140737488351232:=by
 obtain ⟨hl,hf⟩:=JgB Tryz.underlying29 h;rw [show Tryz.prog.cellsOf 29=13 from by kernel_rfl] at hl
 obtain ⟨c0,c1,c2,c3,c4,c5,c6,c7,c8,c9,c10,c11,c12,rfl⟩:∃ a b c d e f g h i j k l m,cs=[a,b,c,d,e,f,g,h,i,j,k,l,m]:=by
  rcases cs with _ | ⟨a,_ | ⟨b,_ | ⟨c,_ | ⟨d,_ | ⟨e,_ | ⟨f,_ | ⟨g,_ | ⟨h',_ | ⟨i,_ | ⟨j,_ | ⟨k,_ | ⟨l,_ | ⟨m,_ | ⟨n,cs⟩⟩⟩⟩⟩⟩⟩⟩⟩⟩⟩⟩⟩⟩ <;> simp at hl
  exact ⟨a,b,c,d,e,f,g,h',i,j,k,l,m,rfl⟩
 obtain ⟨z0,e0,_⟩:=Jb2 Tryz.underlying3 (JbR hf 0 3 0 1 rfl qE1);obtain ⟨z1,e1,_⟩:=Jb2 Tryz.underlying3 (JbR hf 1 3 1 1 rfl qE1);obtain ⟨z2,e2,_⟩:=Jb2 Tryz.underlying3 (JbR hf 2 3 2 1 rfl qE1);obtain ⟨q,e3,hq⟩:=JiR (JbR hf 3 27 3 6 rfl qE1);obtain ⟨z9,e9,_⟩:=Jb2 Tryz.underlying3 (JbR hf 4 3 9 1 rfl qE1);obtain ⟨z10,e10,_⟩:=Jb2 Tryz.underlying3 (JbR hf 5 3 10 1 rfl qE1);obtain ⟨z11,e11,_⟩:=Jb2 Tryz.underlying3 (JbR hf 6 3 11 1 rfl qE1);obtain ⟨z12,e12⟩:=Joq Tryz.underlying4 (JbR hf 7 4 12 1 rfl qE1);simp only [zI5,List.drop_succ_cons,zL3,zN1,List.cons.injEq,and_true,Jlx] at e0 e1 e2 e3 e9 e10 e11 e12;obtain ⟨e3,e4,e5,e6,e7,e8⟩:=e3;subst e0 e1 e2 e3 e4 e5 e6 e7 e8 e9 e10 e11 e12;exact ⟨⟨z0,z1,z2,q.op,q.session,q.path,q.data,q.version,q.flags,z9,z10,z11,z12⟩,rfl,hq⟩
end
end Go.Proofs.YtjnooagaghdkdaaGreatDoor
