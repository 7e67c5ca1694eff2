/-L-/
import Derived.Test.YtjnooagaghdkdaaGreatDoorZ26
set_option maxHeartbeats 10000000
set_option maxRecDepth 100000
set_option linter.all false
namespace Go.Proofs.YtjnooagaghdkdaaGreatDoor
open Go.RowKit Go.ChangeShapes Go.WideShapes Go.ChangeAt
end Go.Proofs.YtjnooagaghdkdaaGreatDoor
namespace Go.Proofs.YtjnooagaghdkdaaGreatDoor
section
open Go.RowKit Go.ChangeShapes Go.WideShapes Go.ChangeAt
abbrev folA (l m:List Txn):List Txn:=folM l m (l.length - comK l m)
theorem folA_eq (l m:List Txn):folA l m=m.take (comK l m) ++ l.drop (comK l m):=by
 unfold folA folM;rw [zG4 (l:=l.drop (comK l m)) (by rw [zE5]; exact zA3 _)]
end
end Go.Proofs.YtjnooagaghdkdaaGreatDoor
