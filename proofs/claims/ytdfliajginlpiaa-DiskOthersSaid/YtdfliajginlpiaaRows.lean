/-
  No cell of these rows narrows 'for every input' (looked for: loops, veiled, ifaces, maps, wideKeys, modest, calm, conditions, laid).
  DERIVED. THE GIVEN ROWS OF THIS SEAT. 6 by the template 'for every input the law returns true; each argument reads behind the call as it read before'; 0 by the template 'total and deterministic' (their statements: YtdfliajginlpiaaTotals.lean).
  GIVEN WITH THE SEED: the statements are not yours to turn. If you find one false, say at which input.
  Laid BY PROGRAM, IN A SANDBOX (cutbox-rows.mjs): the forced cells as the released guide's own fill.sh prints them over the translation db413e130c3c81d8… (all of the seat's roots in one cut). By AI agents, Wed Nov 11 2026. No macro, syntax, notation, axiom, sorry.
-/
import Derived.Test.YtdfliajginlpiaaChecked
import GoSem.Claim
import GoSem.ClaimJoined
import GoSem.ClaimMapViews
import Derived.JoinedTies
import Derived.KernelRfl
namespace Go.Proofs.Ytdfliajginlpiaa
/- THE CELL 'sum', in the pinned program and in every row, IS THE sha256 OF THE DUMP (.gsa) THAT YtdfliajginlpiaaProg.lean LOADS. Nothing in Lean hashes anything: it is a label: what it is worth is what the hold of that sum in a sandbox is worth. -/
noncomputable def Try.pinned : Pinned := { name := "ytdfliajginlpiaa", sum := "db413e130c3c81d8351336a1e0954aa8d67ef1f49e231ac5280eac9a2567c8d0", checked := Try.checked }
namespace Rows
def none {H : Type} : Left H := { results := [], args := [] }

/-- 'aviarykeep.ClientTold': WHATEVER THE INPUT: true; the input reads as it did. -/
def clientToldSpec : ChangeSpec := { name := "clientTold", fn := fun _ => fun
  | [d1, d2, d3] => { results := [.lit (.bool true)], args := [d1, d2, d3] }
  | _ => none }
def clientToldRow : OpenClaim := { program := "ytdfliajginlpiaa", sum := "db413e130c3c81d8351336a1e0954aa8d67ef1f49e231ac5280eac9a2567c8d0", func := "aviary/aviarykeep.ClientTold", spec := "clientTold", inPlace := ["internal/bytealg.abigen_runtime_cmpstring", "slices.overlaps[aviary/api.Entry]"], unfollowed := true, recurses := true, apart := false }
def ClientToldSaid : Prop := clientToldRow.holds Try.pinned (OpenSpec.ofChange clientToldSpec)

/-- ITS FALSE NEIGHBOUR: 'it returns false'. Refute it at one input. -/
def clientToldWrong : ChangeSpec := { name := "clientTold", fn := fun _ => fun
  | [d1, d2, d3] => { results := [.lit (.bool false)], args := [d1, d2, d3] }
  | _ => none }
def ClientToldWrongFalsely : Prop := clientToldRow.holds Try.pinned (OpenSpec.ofChange clientToldWrong)

/-- 'aviarykeep.DiskCrashes': WHATEVER THE INPUT: true; the input reads as it did. -/
def diskCrashesSpec : ChangeSpec := { name := "diskCrashes", fn := fun _ => fun
  | [d1, d2, d3] => { results := [.lit (.bool true)], args := [d1, d2, d3] }
  | _ => none }
def diskCrashesRow : OpenClaim := { program := "ytdfliajginlpiaa", sum := "db413e130c3c81d8351336a1e0954aa8d67ef1f49e231ac5280eac9a2567c8d0", func := "aviary/aviarykeep.DiskCrashes", spec := "diskCrashes", inPlace := ["internal/bytealg.abigen_runtime_cmpstring", "slices.overlaps[aviary/api.File]"], unfollowed := true, recurses := true, apart := false }
def DiskCrashesSaid : Prop := diskCrashesRow.holds Try.pinned (OpenSpec.ofChange diskCrashesSpec)

/-- ITS FALSE NEIGHBOUR: 'it returns false'. Refute it at one input. -/
def diskCrashesWrong : ChangeSpec := { name := "diskCrashes", fn := fun _ => fun
  | [d1, d2, d3] => { results := [.lit (.bool false)], args := [d1, d2, d3] }
  | _ => none }
def DiskCrashesWrongFalsely : Prop := diskCrashesRow.holds Try.pinned (OpenSpec.ofChange diskCrashesWrong)

/-- 'aviarykeep.DiskTorn': WHATEVER THE INPUT: true; the input reads as it did. -/
def diskTornSpec : ChangeSpec := { name := "diskTorn", fn := fun _ => fun
  | [d1, d2, d3, d4] => { results := [.lit (.bool true)], args := [d1, d2, d3, d4] }
  | _ => none }
def diskTornRow : OpenClaim := { program := "ytdfliajginlpiaa", sum := "db413e130c3c81d8351336a1e0954aa8d67ef1f49e231ac5280eac9a2567c8d0", func := "aviary/aviarykeep.DiskTorn", spec := "diskTorn", inPlace := ["internal/bytealg.abigen_runtime_cmpstring", "slices.overlaps[aviary/api.File]"], unfollowed := true, recurses := true, apart := false }
def DiskTornSaid : Prop := diskTornRow.holds Try.pinned (OpenSpec.ofChange diskTornSpec)

/-- ITS FALSE NEIGHBOUR: 'it returns false'. Refute it at one input. -/
def diskTornWrong : ChangeSpec := { name := "diskTorn", fn := fun _ => fun
  | [d1, d2, d3, d4] => { results := [.lit (.bool false)], args := [d1, d2, d3, d4] }
  | _ => none }
def DiskTornWrongFalsely : Prop := diskTornRow.holds Try.pinned (OpenSpec.ofChange diskTornWrong)

/-- 'aviarykeep.DiskSafe': WHATEVER THE INPUT: true; the input reads as it did. -/
def diskSafeSpec : ChangeSpec := { name := "diskSafe", fn := fun _ => fun
  | [d1, d2, d3, d4] => { results := [.lit (.bool true)], args := [d1, d2, d3, d4] }
  | _ => none }
def diskSafeRow : OpenClaim := { program := "ytdfliajginlpiaa", sum := "db413e130c3c81d8351336a1e0954aa8d67ef1f49e231ac5280eac9a2567c8d0", func := "aviary/aviarykeep.DiskSafe", spec := "diskSafe", inPlace := ["internal/bytealg.abigen_runtime_cmpstring", "slices.overlaps[aviary/api.File]"], unfollowed := true, recurses := true, apart := false }
def DiskSafeSaid : Prop := diskSafeRow.holds Try.pinned (OpenSpec.ofChange diskSafeSpec)

/-- ITS FALSE NEIGHBOUR: 'it returns false'. Refute it at one input. -/
def diskSafeWrong : ChangeSpec := { name := "diskSafe", fn := fun _ => fun
  | [d1, d2, d3, d4] => { results := [.lit (.bool false)], args := [d1, d2, d3, d4] }
  | _ => none }
def DiskSafeWrongFalsely : Prop := diskSafeRow.holds Try.pinned (OpenSpec.ofChange diskSafeWrong)

/-- 'aviarykeep.DiskOthers': WHATEVER THE INPUT: true; the input reads as it did. -/
def diskOthersSpec : ChangeSpec := { name := "diskOthers", fn := fun _ => fun
  | [d1, d2, d3, d4, d5] => { results := [.lit (.bool true)], args := [d1, d2, d3, d4, d5] }
  | _ => none }
def diskOthersRow : OpenClaim := { program := "ytdfliajginlpiaa", sum := "db413e130c3c81d8351336a1e0954aa8d67ef1f49e231ac5280eac9a2567c8d0", func := "aviary/aviarykeep.DiskOthers", spec := "diskOthers", inPlace := ["internal/bytealg.abigen_runtime_cmpstring", "slices.overlaps[aviary/api.File]"], unfollowed := true, recurses := true, apart := false }
def DiskOthersSaid : Prop := diskOthersRow.holds Try.pinned (OpenSpec.ofChange diskOthersSpec)

/-- ITS FALSE NEIGHBOUR: 'it returns false'. Refute it at one input. -/
def diskOthersWrong : ChangeSpec := { name := "diskOthers", fn := fun _ => fun
  | [d1, d2, d3, d4, d5] => { results := [.lit (.bool false)], args := [d1, d2, d3, d4, d5] }
  | _ => none }
def DiskOthersWrongFalsely : Prop := diskOthersRow.holds Try.pinned (OpenSpec.ofChange diskOthersWrong)

/-- 'aviarykeep.DiskGone': WHATEVER THE INPUT: true; the input reads as it did. -/
def diskGoneSpec : ChangeSpec := { name := "diskGone", fn := fun _ => fun
  | [d1, d2, d3] => { results := [.lit (.bool true)], args := [d1, d2, d3] }
  | _ => none }
def diskGoneRow : OpenClaim := { program := "ytdfliajginlpiaa", sum := "db413e130c3c81d8351336a1e0954aa8d67ef1f49e231ac5280eac9a2567c8d0", func := "aviary/aviarykeep.DiskGone", spec := "diskGone", inPlace := ["internal/bytealg.abigen_runtime_cmpstring", "slices.overlaps[aviary/api.File]"], unfollowed := true, recurses := true, apart := false }
def DiskGoneSaid : Prop := diskGoneRow.holds Try.pinned (OpenSpec.ofChange diskGoneSpec)

/-- ITS FALSE NEIGHBOUR: 'it returns false'. Refute it at one input. -/
def diskGoneWrong : ChangeSpec := { name := "diskGone", fn := fun _ => fun
  | [d1, d2, d3] => { results := [.lit (.bool false)], args := [d1, d2, d3] }
  | _ => none }
def DiskGoneWrongFalsely : Prop := diskGoneRow.holds Try.pinned (OpenSpec.ofChange diskGoneWrong)

/- THE SECOND FORM. 'bulk': how many values and letters a reading holds, each counted each time it is reached (what is shared counts as often as it is met; a slice's spare places count too). A statement '..UptoSaid' is the law's where the arguments, and the package variables that the reading takes, are together of bulk at most 1048576: NARROWER than '..Said'. Prove '..Said' where nothing that the law and all that it calls make is longer than what came in: it says more and counts as full. Else prove '..UptoSaid'. A law counts once. -/
mutual
def uptoBulk {H : Type} : DataW H → Nat
  | .lit (.string bytes) => bytes.length + 1
  | .lit _ => 1
  | .nil => 1
  | .ptr d => uptoBulk d + 1
  | .slice elems spare => uptoBulkAll elems + uptoBulkAll spare + 1
  | .agg parts => uptoBulkAll parts + 1
  | .iface _ d => uptoBulk d + 1
  | .map entries => uptoBulkEntries entries + 1
  | .held _ => 1
def uptoBulkAll {H : Type} : List (DataW H) → Nat
  | [] => 0
  | d :: r => uptoBulk d + uptoBulkAll r
def uptoBulkEntries {H : Type} : List (Lit × DataW H) → Nat
  | [] => 0
  | x :: r => uptoBulkEntry x + uptoBulkEntries r
def uptoBulkEntry {H : Type} : Lit × DataW H → Nat
  | (.string bytes, d) => bytes.length + uptoBulk d + 1
  | (_, d) => uptoBulk d + 1
 end
def uptoSmall : (H : Type) → List (DataW H) → Bool := fun _ ds => decide (uptoBulkAll ds ≤ 1048576)
def OpenSpec.upto (s : _root_.Go.ChangeSpec) : _root_.Go.OpenSpec := { _root_.Go.OpenSpec.ofChange s with cond := some uptoSmall }

/-- 'aviarykeep.ClientTold', WHERE WHAT IT READS IS OF BULK AT MOST 1048576: true; the input reads as it did. -/
def clientToldUptoRow : OpenClaim := { program := "ytdfliajginlpiaa", sum := "db413e130c3c81d8351336a1e0954aa8d67ef1f49e231ac5280eac9a2567c8d0", func := "aviary/aviarykeep.ClientTold", spec := "clientTold", inPlace := ["internal/bytealg.abigen_runtime_cmpstring", "slices.overlaps[aviary/api.Entry]"], unfollowed := true, recurses := true, apart := false, narrowed := true }
def ClientToldUptoSaid : Prop := clientToldUptoRow.holds Try.pinned (OpenSpec.upto clientToldSpec)

/-- 'aviarykeep.DiskCrashes', WHERE WHAT IT READS IS OF BULK AT MOST 1048576: true; the input reads as it did. -/
def diskCrashesUptoRow : OpenClaim := { program := "ytdfliajginlpiaa", sum := "db413e130c3c81d8351336a1e0954aa8d67ef1f49e231ac5280eac9a2567c8d0", func := "aviary/aviarykeep.DiskCrashes", spec := "diskCrashes", inPlace := ["internal/bytealg.abigen_runtime_cmpstring", "slices.overlaps[aviary/api.File]"], unfollowed := true, recurses := true, apart := false, narrowed := true }
def DiskCrashesUptoSaid : Prop := diskCrashesUptoRow.holds Try.pinned (OpenSpec.upto diskCrashesSpec)

/-- 'aviarykeep.DiskTorn', WHERE WHAT IT READS IS OF BULK AT MOST 1048576: true; the input reads as it did. -/
def diskTornUptoRow : OpenClaim := { program := "ytdfliajginlpiaa", sum := "db413e130c3c81d8351336a1e0954aa8d67ef1f49e231ac5280eac9a2567c8d0", func := "aviary/aviarykeep.DiskTorn", spec := "diskTorn", inPlace := ["internal/bytealg.abigen_runtime_cmpstring", "slices.overlaps[aviary/api.File]"], unfollowed := true, recurses := true, apart := false, narrowed := true }
def DiskTornUptoSaid : Prop := diskTornUptoRow.holds Try.pinned (OpenSpec.upto diskTornSpec)

/-- 'aviarykeep.DiskSafe', WHERE WHAT IT READS IS OF BULK AT MOST 1048576: true; the input reads as it did. -/
def diskSafeUptoRow : OpenClaim := { program := "ytdfliajginlpiaa", sum := "db413e130c3c81d8351336a1e0954aa8d67ef1f49e231ac5280eac9a2567c8d0", func := "aviary/aviarykeep.DiskSafe", spec := "diskSafe", inPlace := ["internal/bytealg.abigen_runtime_cmpstring", "slices.overlaps[aviary/api.File]"], unfollowed := true, recurses := true, apart := false, narrowed := true }
def DiskSafeUptoSaid : Prop := diskSafeUptoRow.holds Try.pinned (OpenSpec.upto diskSafeSpec)

/-- 'aviarykeep.DiskOthers', WHERE WHAT IT READS IS OF BULK AT MOST 1048576: true; the input reads as it did. -/
def diskOthersUptoRow : OpenClaim := { program := "ytdfliajginlpiaa", sum := "db413e130c3c81d8351336a1e0954aa8d67ef1f49e231ac5280eac9a2567c8d0", func := "aviary/aviarykeep.DiskOthers", spec := "diskOthers", inPlace := ["internal/bytealg.abigen_runtime_cmpstring", "slices.overlaps[aviary/api.File]"], unfollowed := true, recurses := true, apart := false, narrowed := true }
def DiskOthersUptoSaid : Prop := diskOthersUptoRow.holds Try.pinned (OpenSpec.upto diskOthersSpec)

/-- 'aviarykeep.DiskGone', WHERE WHAT IT READS IS OF BULK AT MOST 1048576: true; the input reads as it did. -/
def diskGoneUptoRow : OpenClaim := { program := "ytdfliajginlpiaa", sum := "db413e130c3c81d8351336a1e0954aa8d67ef1f49e231ac5280eac9a2567c8d0", func := "aviary/aviarykeep.DiskGone", spec := "diskGone", inPlace := ["internal/bytealg.abigen_runtime_cmpstring", "slices.overlaps[aviary/api.File]"], unfollowed := true, recurses := true, apart := false, narrowed := true }
def DiskGoneUptoSaid : Prop := diskGoneUptoRow.holds Try.pinned (OpenSpec.upto diskGoneSpec)

end Rows
end Go.Proofs.Ytdfliajginlpiaa
