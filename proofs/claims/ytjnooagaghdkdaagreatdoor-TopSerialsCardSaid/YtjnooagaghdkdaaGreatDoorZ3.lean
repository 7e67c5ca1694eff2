/-L-/
import Derived.Test.YtjnooagaghdkdaaGreatDoorZ1
set_option maxHeartbeats 10000000
set_option maxRecDepth 100000
set_option linter.all false
namespace Go.Proofs.YtjnooagaghdkdaaGreatDoor
section
open Go.RowKit Go.ChangeShapes Go.WideShapes Go.ChangeAt
def Jdw (k:Int) (n:Nat):Nat:=(if k.tmod n<0 then k.tmod n+n else k.tmod n).toNat
theorem Jh3 (k:Int) {n:Nat} (h0:0<n):Jdw k n<n:=by
 have ht1:-(n:Int)<k.tmod n:=by
  have:=zQ6 (-k) (show (0:Int)<n by omega)
  rw [Int.neg_tmod] at this;omega
 have ht2:k.tmod n<(n:Int):=zQ6 _ qH1;unfold Jdw;split <;> omega
theorem JeR (k:Int) (n:Nat) (w:World) (h0:0<n) (h1:n<=140737488355328) :
  Calls Tryz.prog 22 #[.int .i64 k,.int .i64 n] w fun e w'=>e=.returned (.int .i64 (Jdw k n))/\w=w':=by
 have ht1:-(n:Int)<k.tmod n:=by
  have:=zQ6 (-k) (show (0:Int)<n by omega)
  rw [Int.neg_tmod] at this;omega
 have ht2:k.tmod n<(n:Int):=zQ6 _ qH1;unfold Jdw;generalize hq:k.tmod n=q at *
 by_cases hn:q<0
 ·rw [if_pos hn]
  have hz:((q+n).toNat:Int)=q+n:=qCE;rw [hz];clear hz;go_enter Tryz.func22,Tryz.ntmps22
  go_wp2;go_ret;exact ⟨rfl,rfl⟩
 ·rw [if_neg hn]
  have hz:(q.toNat:Int)=q:=qCE;rw [hz];clear hz;go_enter Tryz.func22,Tryz.ntmps22
  go_wp2;go_ret;exact ⟨rfl,rfl⟩
theorem pick_16 (k:Int) (w:World):Calls Tryz.prog 22 #[.int .i64 k,.int .i64 16] w fun e w'=>e=.returned (.int .i64 (Jdw k 16))/\w=w':=JeR k 16 w qG1 qG1
theorem pick_4 (k:Int) (w:World):Calls Tryz.prog 22 #[.int .i64 k,.int .i64 4] w fun e w'=>e=.returned (.int .i64 (Jdw k 4))/\w=w':=JeR k 4 w qG1 qG1
theorem pick_3 (k:Int) (w:World):Calls Tryz.prog 22 #[.int .i64 k,.int .i64 3] w fun e w'=>e=.returned (.int .i64 (Jdw k 3))/\w=w':=JeR k 3 w qG1 qG1
theorem pick_40 (k:Int) (w:World):Calls Tryz.prog 22 #[.int .i64 k,.int .i64 40] w fun e w'=>e=.returned (.int .i64 (Jdw k 40))/\w=w':=JeR k 40 w qG1 qG1
theorem pick_8 (k:Int) (w:World):Calls Tryz.prog 22 #[.int .i64 k,.int .i64 8] w fun e w'=>e=.returned (.int .i64 (Jdw k 8))/\w=w':=JeR k 8 w qG1 qG1
end
end Go.Proofs.YtjnooagaghdkdaaGreatDoor
