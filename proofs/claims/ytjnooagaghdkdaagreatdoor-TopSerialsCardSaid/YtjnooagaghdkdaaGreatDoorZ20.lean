/-L-/
import Derived.Test.YtjnooagaghdkdaaGreatDoorZ18
set_option maxHeartbeats 10000000
set_option maxRecDepth 100000
set_option linter.all false
namespace Go.Proofs.YtjnooagaghdkdaaGreatDoor
open Go.RowKit Go.ChangeShapes Go.WideShapes Go.ChangeAt
end Go.Proofs.YtjnooagaghdkdaaGreatDoor
namespace Go.Proofs.YtjnooagaghdkdaaGreatDoor
open Go.RowKit Go.ChangeShapes Go.WideShapes Go.ChangeAt
end Go.Proofs.YtjnooagaghdkdaaGreatDoor
