/-
  No cell of these rows narrows 'for every input' (looked for: loops, veiled, ifaces, maps, wideKeys, modest, calm, conditions, laid).
  DERIVED. THE GIVEN ROWS OF THIS SEAT. 12 by the template 'for every input the law returns true; each argument reads behind the call as it read before'; 0 by the template 'total and deterministic' (their statements: YtahcmfnpfepimaaTotals.lean).
  GIVEN WITH THE SEED: the statements are not yours to turn. If you find one false, say at which input.
  Laid BY PROGRAM, IN A SANDBOX (cutbox-rows.mjs): the forced cells as the released guide's own fill.sh prints them over the translation 72a8c464e982655b… (all of the seat's roots in one cut). By AI agents, Wed Nov 11 2026. No macro, syntax, notation, axiom, sorry.
-/
import Derived.Test.YtahcmfnpfepimaaChecked
import GoSem.Claim
import GoSem.ClaimJoined
import GoSem.ClaimMapViews
import Derived.JoinedTies
import Derived.KernelRfl
namespace Go.Proofs.Ytahcmfnpfepimaa
/- THE CELL 'sum', in the pinned program and in every row, IS THE sha256 OF THE DUMP (.gsa) THAT YtahcmfnpfepimaaProg.lean LOADS. Nothing in Lean hashes anything: it is a label: what it is worth is what the hold of that sum in a sandbox is worth. -/
noncomputable def Try.pinned : Pinned := { name := "ytahcmfnpfepimaa", sum := "72a8c464e982655b3cc10ce999d7be83ec516fb849e0bd9ea0f5978636f01250", checked := Try.checked }
namespace Rows
def none {H : Type} : Left H := { results := [], args := [] }

/-- 'aviarykeep.RecipeFences': WHATEVER THE INPUT: true; the input reads as it did. -/
def recipeFencesSpec : ChangeSpec := { name := "recipeFences", fn := fun _ => fun
  | [d1, d2] => { results := [.lit (.bool true)], args := [d1, d2] }
  | _ => none }
def recipeFencesRow : OpenClaim := { program := "ytahcmfnpfepimaa", sum := "72a8c464e982655b3cc10ce999d7be83ec516fb849e0bd9ea0f5978636f01250", func := "aviary/aviarykeep.RecipeFences", spec := "recipeFences", apart := false }
def RecipeFencesSaid : Prop := recipeFencesRow.holds Try.pinned (OpenSpec.ofChange recipeFencesSpec)

/-- ITS FALSE NEIGHBOUR: 'it returns false'. Refute it at one input. -/
def recipeFencesWrong : ChangeSpec := { name := "recipeFences", fn := fun _ => fun
  | [d1, d2] => { results := [.lit (.bool false)], args := [d1, d2] }
  | _ => none }
def RecipeFencesWrongFalsely : Prop := recipeFencesRow.holds Try.pinned (OpenSpec.ofChange recipeFencesWrong)

/-- 'aviarykeep.ZxidOrder': WHATEVER THE INPUT: true; the input reads as it did. -/
def zxidOrderSpec : ChangeSpec := { name := "zxidOrder", fn := fun _ => fun
  | [d1, d2, d3, d4] => { results := [.lit (.bool true)], args := [d1, d2, d3, d4] }
  | _ => none }
def zxidOrderRow : OpenClaim := { program := "ytahcmfnpfepimaa", sum := "72a8c464e982655b3cc10ce999d7be83ec516fb849e0bd9ea0f5978636f01250", func := "aviary/aviarykeep.ZxidOrder", spec := "zxidOrder", apart := false }
def ZxidOrderSaid : Prop := zxidOrderRow.holds Try.pinned (OpenSpec.ofChange zxidOrderSpec)

/-- ITS FALSE NEIGHBOUR: 'it returns false'. Refute it at one input. -/
def zxidOrderWrong : ChangeSpec := { name := "zxidOrder", fn := fun _ => fun
  | [d1, d2, d3, d4] => { results := [.lit (.bool false)], args := [d1, d2, d3, d4] }
  | _ => none }
def ZxidOrderWrongFalsely : Prop := zxidOrderRow.holds Try.pinned (OpenSpec.ofChange zxidOrderWrong)

/-- 'aviarykeep.PathSerials': WHATEVER THE INPUT: true; the input reads as it did. -/
def pathSerialsSpec : ChangeSpec := { name := "pathSerials", fn := fun _ => fun
  | [d1, d2, d3] => { results := [.lit (.bool true)], args := [d1, d2, d3] }
  | _ => none }
def pathSerialsRow : OpenClaim := { program := "ytahcmfnpfepimaa", sum := "72a8c464e982655b3cc10ce999d7be83ec516fb849e0bd9ea0f5978636f01250", func := "aviary/aviarykeep.PathSerials", spec := "pathSerials", apart := false }
def PathSerialsSaid : Prop := pathSerialsRow.holds Try.pinned (OpenSpec.ofChange pathSerialsSpec)

/-- ITS FALSE NEIGHBOUR: 'it returns false'. Refute it at one input. -/
def pathSerialsWrong : ChangeSpec := { name := "pathSerials", fn := fun _ => fun
  | [d1, d2, d3] => { results := [.lit (.bool false)], args := [d1, d2, d3] }
  | _ => none }
def PathSerialsWrongFalsely : Prop := pathSerialsRow.holds Try.pinned (OpenSpec.ofChange pathSerialsWrong)

/-- 'aviarykeep.ClientRises': WHATEVER THE INPUT: true; the input reads as it did. -/
def clientRisesSpec : ChangeSpec := { name := "clientRises", fn := fun _ => fun
  | [d1, d2] => { results := [.lit (.bool true)], args := [d1, d2] }
  | _ => none }
def clientRisesRow : OpenClaim := { program := "ytahcmfnpfepimaa", sum := "72a8c464e982655b3cc10ce999d7be83ec516fb849e0bd9ea0f5978636f01250", func := "aviary/aviarykeep.ClientRises", spec := "clientRises", apart := false }
def ClientRisesSaid : Prop := clientRisesRow.holds Try.pinned (OpenSpec.ofChange clientRisesSpec)

/-- ITS FALSE NEIGHBOUR: 'it returns false'. Refute it at one input. -/
def clientRisesWrong : ChangeSpec := { name := "clientRises", fn := fun _ => fun
  | [d1, d2] => { results := [.lit (.bool false)], args := [d1, d2] }
  | _ => none }
def ClientRisesWrongFalsely : Prop := clientRisesRow.holds Try.pinned (OpenSpec.ofChange clientRisesWrong)

/-- 'aviarykeep.ZxidSteps': WHATEVER THE INPUT: true; the input reads as it did. -/
def zxidStepsSpec : ChangeSpec := { name := "zxidSteps", fn := fun _ => fun
  | [d] => { results := [.lit (.bool true)], args := [d] }
  | _ => none }
def zxidStepsRow : OpenClaim := { program := "ytahcmfnpfepimaa", sum := "72a8c464e982655b3cc10ce999d7be83ec516fb849e0bd9ea0f5978636f01250", func := "aviary/aviarykeep.ZxidSteps", spec := "zxidSteps", apart := false }
def ZxidStepsSaid : Prop := zxidStepsRow.holds Try.pinned (OpenSpec.ofChange zxidStepsSpec)

/-- ITS FALSE NEIGHBOUR: 'it returns false'. Refute it at one input. -/
def zxidStepsWrong : ChangeSpec := { name := "zxidSteps", fn := fun _ => fun
  | [d] => { results := [.lit (.bool false)], args := [d] }
  | _ => none }
def ZxidStepsWrongFalsely : Prop := zxidStepsRow.holds Try.pinned (OpenSpec.ofChange zxidStepsWrong)

/-- 'aviarykeep.ZabLeads': WHATEVER THE INPUT: true; the input reads as it did. -/
def zabLeadsSpec : ChangeSpec := { name := "zabLeads", fn := fun _ => fun
  | [d1, d2] => { results := [.lit (.bool true)], args := [d1, d2] }
  | _ => none }
def zabLeadsRow : OpenClaim := { program := "ytahcmfnpfepimaa", sum := "72a8c464e982655b3cc10ce999d7be83ec516fb849e0bd9ea0f5978636f01250", func := "aviary/aviarykeep.ZabLeads", spec := "zabLeads", apart := false }
def ZabLeadsSaid : Prop := zabLeadsRow.holds Try.pinned (OpenSpec.ofChange zabLeadsSpec)

/-- ITS FALSE NEIGHBOUR: 'it returns false'. Refute it at one input. -/
def zabLeadsWrong : ChangeSpec := { name := "zabLeads", fn := fun _ => fun
  | [d1, d2] => { results := [.lit (.bool false)], args := [d1, d2] }
  | _ => none }
def ZabLeadsWrongFalsely : Prop := zabLeadsRow.holds Try.pinned (OpenSpec.ofChange zabLeadsWrong)

/-- 'aviarykeep.WatchOnce': WHATEVER THE INPUT: true; the input reads as it did. -/
def watchOnceSpec : ChangeSpec := { name := "watchOnce", fn := fun _ => fun
  | [d1, d2] => { results := [.lit (.bool true)], args := [d1, d2] }
  | _ => none }
def watchOnceRow : OpenClaim := { program := "ytahcmfnpfepimaa", sum := "72a8c464e982655b3cc10ce999d7be83ec516fb849e0bd9ea0f5978636f01250", func := "aviary/aviarykeep.WatchOnce", spec := "watchOnce", unfollowed := true, recurses := true, apart := false }
def WatchOnceSaid : Prop := watchOnceRow.holds Try.pinned (OpenSpec.ofChange watchOnceSpec)

/-- ITS FALSE NEIGHBOUR: 'it returns false'. Refute it at one input. -/
def watchOnceWrong : ChangeSpec := { name := "watchOnce", fn := fun _ => fun
  | [d1, d2] => { results := [.lit (.bool false)], args := [d1, d2] }
  | _ => none }
def WatchOnceWrongFalsely : Prop := watchOnceRow.holds Try.pinned (OpenSpec.ofChange watchOnceWrong)

/-- 'aviarykeep.WatchParts': WHATEVER THE INPUT: true; the input reads as it did. -/
def watchPartsSpec : ChangeSpec := { name := "watchParts", fn := fun _ => fun
  | [d1, d2, d3] => { results := [.lit (.bool true)], args := [d1, d2, d3] }
  | _ => none }
def watchPartsRow : OpenClaim := { program := "ytahcmfnpfepimaa", sum := "72a8c464e982655b3cc10ce999d7be83ec516fb849e0bd9ea0f5978636f01250", func := "aviary/aviarykeep.WatchParts", spec := "watchParts", unfollowed := true, recurses := true, apart := false }
def WatchPartsSaid : Prop := watchPartsRow.holds Try.pinned (OpenSpec.ofChange watchPartsSpec)

/-- ITS FALSE NEIGHBOUR: 'it returns false'. Refute it at one input. -/
def watchPartsWrong : ChangeSpec := { name := "watchParts", fn := fun _ => fun
  | [d1, d2, d3] => { results := [.lit (.bool false)], args := [d1, d2, d3] }
  | _ => none }
def WatchPartsWrongFalsely : Prop := watchPartsRow.holds Try.pinned (OpenSpec.ofChange watchPartsWrong)

/-- 'aviarykeep.ZabMajority': WHATEVER THE INPUT: true; the input reads as it did. -/
def zabMajoritySpec : ChangeSpec := { name := "zabMajority", fn := fun _ => fun
  | [d] => { results := [.lit (.bool true)], args := [d] }
  | _ => none }
def zabMajorityRow : OpenClaim := { program := "ytahcmfnpfepimaa", sum := "72a8c464e982655b3cc10ce999d7be83ec516fb849e0bd9ea0f5978636f01250", func := "aviary/aviarykeep.ZabMajority", spec := "zabMajority", apart := false }
def ZabMajoritySaid : Prop := zabMajorityRow.holds Try.pinned (OpenSpec.ofChange zabMajoritySpec)

/-- ITS FALSE NEIGHBOUR: 'it returns false'. Refute it at one input. -/
def zabMajorityWrong : ChangeSpec := { name := "zabMajority", fn := fun _ => fun
  | [d] => { results := [.lit (.bool false)], args := [d] }
  | _ => none }
def ZabMajorityWrongFalsely : Prop := zabMajorityRow.holds Try.pinned (OpenSpec.ofChange zabMajorityWrong)

/-- 'aviarykeep.WatchDropped': WHATEVER THE INPUT: true; the input reads as it did. -/
def watchDroppedSpec : ChangeSpec := { name := "watchDropped", fn := fun _ => fun
  | [d1, d2] => { results := [.lit (.bool true)], args := [d1, d2] }
  | _ => none }
def watchDroppedRow : OpenClaim := { program := "ytahcmfnpfepimaa", sum := "72a8c464e982655b3cc10ce999d7be83ec516fb849e0bd9ea0f5978636f01250", func := "aviary/aviarykeep.WatchDropped", spec := "watchDropped", unfollowed := true, recurses := true, apart := false }
def WatchDroppedSaid : Prop := watchDroppedRow.holds Try.pinned (OpenSpec.ofChange watchDroppedSpec)

/-- ITS FALSE NEIGHBOUR: 'it returns false'. Refute it at one input. -/
def watchDroppedWrong : ChangeSpec := { name := "watchDropped", fn := fun _ => fun
  | [d1, d2] => { results := [.lit (.bool false)], args := [d1, d2] }
  | _ => none }
def WatchDroppedWrongFalsely : Prop := watchDroppedRow.holds Try.pinned (OpenSpec.ofChange watchDroppedWrong)

/-- 'aviarykeep.ZabSteps': WHATEVER THE INPUT: true; the input reads as it did. -/
def zabStepsSpec : ChangeSpec := { name := "zabSteps", fn := fun _ => fun
  | [d] => { results := [.lit (.bool true)], args := [d] }
  | _ => none }
def zabStepsRow : OpenClaim := { program := "ytahcmfnpfepimaa", sum := "72a8c464e982655b3cc10ce999d7be83ec516fb849e0bd9ea0f5978636f01250", func := "aviary/aviarykeep.ZabSteps", spec := "zabSteps", apart := false }
def ZabStepsSaid : Prop := zabStepsRow.holds Try.pinned (OpenSpec.ofChange zabStepsSpec)

/-- ITS FALSE NEIGHBOUR: 'it returns false'. Refute it at one input. -/
def zabStepsWrong : ChangeSpec := { name := "zabSteps", fn := fun _ => fun
  | [d] => { results := [.lit (.bool false)], args := [d] }
  | _ => none }
def ZabStepsWrongFalsely : Prop := zabStepsRow.holds Try.pinned (OpenSpec.ofChange zabStepsWrong)

/-- 'aviarykeep.ClientKept': WHATEVER THE INPUT: true; the input reads as it did. -/
def clientKeptSpec : ChangeSpec := { name := "clientKept", fn := fun _ => fun
  | [d1, d2, d3] => { results := [.lit (.bool true)], args := [d1, d2, d3] }
  | _ => none }
def clientKeptRow : OpenClaim := { program := "ytahcmfnpfepimaa", sum := "72a8c464e982655b3cc10ce999d7be83ec516fb849e0bd9ea0f5978636f01250", func := "aviary/aviarykeep.ClientKept", spec := "clientKept", inPlace := ["internal/bytealg.abigen_runtime_cmpstring", "slices.overlaps[aviary/api.Entry]"], unfollowed := true, recurses := true, apart := false }
def ClientKeptSaid : Prop := clientKeptRow.holds Try.pinned (OpenSpec.ofChange clientKeptSpec)

/-- ITS FALSE NEIGHBOUR: 'it returns false'. Refute it at one input. -/
def clientKeptWrong : ChangeSpec := { name := "clientKept", fn := fun _ => fun
  | [d1, d2, d3] => { results := [.lit (.bool false)], args := [d1, d2, d3] }
  | _ => none }
def ClientKeptWrongFalsely : Prop := clientKeptRow.holds Try.pinned (OpenSpec.ofChange clientKeptWrong)

/- THE SECOND FORM. 'bulk': how many values and letters a reading holds, each counted each time it is reached (what is shared counts as often as it is met; a slice's spare places count too). A statement '..UptoSaid' is the law's where the arguments, and the package variables that the reading takes, are together of bulk at most 1048576: NARROWER than '..Said'. Prove '..Said' where nothing that the law and all that it calls make is longer than what came in: it says more and counts as full. Else prove '..UptoSaid'. A law counts once. -/
mutual
def uptoBulk {H : Type} : DataW H → Nat
  | .lit (.string bytes) => bytes.length + 1
  | .lit _ => 1
  | .nil => 1
  | .ptr d => uptoBulk d + 1
  | .slice elems spare => uptoBulkAll elems + uptoBulkAll spare + 1
  | .agg parts => uptoBulkAll parts + 1
  | .iface _ d => uptoBulk d + 1
  | .map entries => uptoBulkEntries entries + 1
  | .held _ => 1
def uptoBulkAll {H : Type} : List (DataW H) → Nat
  | [] => 0
  | d :: r => uptoBulk d + uptoBulkAll r
def uptoBulkEntries {H : Type} : List (Lit × DataW H) → Nat
  | [] => 0
  | x :: r => uptoBulkEntry x + uptoBulkEntries r
def uptoBulkEntry {H : Type} : Lit × DataW H → Nat
  | (.string bytes, d) => bytes.length + uptoBulk d + 1
  | (_, d) => uptoBulk d + 1
 end
def uptoSmall : (H : Type) → List (DataW H) → Bool := fun _ ds => decide (uptoBulkAll ds ≤ 1048576)
def OpenSpec.upto (s : _root_.Go.ChangeSpec) : _root_.Go.OpenSpec := { _root_.Go.OpenSpec.ofChange s with cond := some uptoSmall }

/-- 'aviarykeep.RecipeFences', WHERE WHAT IT READS IS OF BULK AT MOST 1048576: true; the input reads as it did. -/
def recipeFencesUptoRow : OpenClaim := { program := "ytahcmfnpfepimaa", sum := "72a8c464e982655b3cc10ce999d7be83ec516fb849e0bd9ea0f5978636f01250", func := "aviary/aviarykeep.RecipeFences", spec := "recipeFences", apart := false, narrowed := true }
def RecipeFencesUptoSaid : Prop := recipeFencesUptoRow.holds Try.pinned (OpenSpec.upto recipeFencesSpec)

/-- 'aviarykeep.ZxidOrder', WHERE WHAT IT READS IS OF BULK AT MOST 1048576: true; the input reads as it did. -/
def zxidOrderUptoRow : OpenClaim := { program := "ytahcmfnpfepimaa", sum := "72a8c464e982655b3cc10ce999d7be83ec516fb849e0bd9ea0f5978636f01250", func := "aviary/aviarykeep.ZxidOrder", spec := "zxidOrder", apart := false, narrowed := true }
def ZxidOrderUptoSaid : Prop := zxidOrderUptoRow.holds Try.pinned (OpenSpec.upto zxidOrderSpec)

/-- 'aviarykeep.PathSerials', WHERE WHAT IT READS IS OF BULK AT MOST 1048576: true; the input reads as it did. -/
def pathSerialsUptoRow : OpenClaim := { program := "ytahcmfnpfepimaa", sum := "72a8c464e982655b3cc10ce999d7be83ec516fb849e0bd9ea0f5978636f01250", func := "aviary/aviarykeep.PathSerials", spec := "pathSerials", apart := false, narrowed := true }
def PathSerialsUptoSaid : Prop := pathSerialsUptoRow.holds Try.pinned (OpenSpec.upto pathSerialsSpec)

/-- 'aviarykeep.ClientRises', WHERE WHAT IT READS IS OF BULK AT MOST 1048576: true; the input reads as it did. -/
def clientRisesUptoRow : OpenClaim := { program := "ytahcmfnpfepimaa", sum := "72a8c464e982655b3cc10ce999d7be83ec516fb849e0bd9ea0f5978636f01250", func := "aviary/aviarykeep.ClientRises", spec := "clientRises", apart := false, narrowed := true }
def ClientRisesUptoSaid : Prop := clientRisesUptoRow.holds Try.pinned (OpenSpec.upto clientRisesSpec)

/-- 'aviarykeep.ZxidSteps', WHERE WHAT IT READS IS OF BULK AT MOST 1048576: true; the input reads as it did. -/
def zxidStepsUptoRow : OpenClaim := { program := "ytahcmfnpfepimaa", sum := "72a8c464e982655b3cc10ce999d7be83ec516fb849e0bd9ea0f5978636f01250", func := "aviary/aviarykeep.ZxidSteps", spec := "zxidSteps", apart := false, narrowed := true }
def ZxidStepsUptoSaid : Prop := zxidStepsUptoRow.holds Try.pinned (OpenSpec.upto zxidStepsSpec)

/-- 'aviarykeep.ZabLeads', WHERE WHAT IT READS IS OF BULK AT MOST 1048576: true; the input reads as it did. -/
def zabLeadsUptoRow : OpenClaim := { program := "ytahcmfnpfepimaa", sum := "72a8c464e982655b3cc10ce999d7be83ec516fb849e0bd9ea0f5978636f01250", func := "aviary/aviarykeep.ZabLeads", spec := "zabLeads", apart := false, narrowed := true }
def ZabLeadsUptoSaid : Prop := zabLeadsUptoRow.holds Try.pinned (OpenSpec.upto zabLeadsSpec)

/-- 'aviarykeep.WatchOnce', WHERE WHAT IT READS IS OF BULK AT MOST 1048576: true; the input reads as it did. -/
def watchOnceUptoRow : OpenClaim := { program := "ytahcmfnpfepimaa", sum := "72a8c464e982655b3cc10ce999d7be83ec516fb849e0bd9ea0f5978636f01250", func := "aviary/aviarykeep.WatchOnce", spec := "watchOnce", unfollowed := true, recurses := true, apart := false, narrowed := true }
def WatchOnceUptoSaid : Prop := watchOnceUptoRow.holds Try.pinned (OpenSpec.upto watchOnceSpec)

/-- 'aviarykeep.WatchParts', WHERE WHAT IT READS IS OF BULK AT MOST 1048576: true; the input reads as it did. -/
def watchPartsUptoRow : OpenClaim := { program := "ytahcmfnpfepimaa", sum := "72a8c464e982655b3cc10ce999d7be83ec516fb849e0bd9ea0f5978636f01250", func := "aviary/aviarykeep.WatchParts", spec := "watchParts", unfollowed := true, recurses := true, apart := false, narrowed := true }
def WatchPartsUptoSaid : Prop := watchPartsUptoRow.holds Try.pinned (OpenSpec.upto watchPartsSpec)

/-- 'aviarykeep.ZabMajority', WHERE WHAT IT READS IS OF BULK AT MOST 1048576: true; the input reads as it did. -/
def zabMajorityUptoRow : OpenClaim := { program := "ytahcmfnpfepimaa", sum := "72a8c464e982655b3cc10ce999d7be83ec516fb849e0bd9ea0f5978636f01250", func := "aviary/aviarykeep.ZabMajority", spec := "zabMajority", apart := false, narrowed := true }
def ZabMajorityUptoSaid : Prop := zabMajorityUptoRow.holds Try.pinned (OpenSpec.upto zabMajoritySpec)

/-- 'aviarykeep.WatchDropped', WHERE WHAT IT READS IS OF BULK AT MOST 1048576: true; the input reads as it did. -/
def watchDroppedUptoRow : OpenClaim := { program := "ytahcmfnpfepimaa", sum := "72a8c464e982655b3cc10ce999d7be83ec516fb849e0bd9ea0f5978636f01250", func := "aviary/aviarykeep.WatchDropped", spec := "watchDropped", unfollowed := true, recurses := true, apart := false, narrowed := true }
def WatchDroppedUptoSaid : Prop := watchDroppedUptoRow.holds Try.pinned (OpenSpec.upto watchDroppedSpec)

/-- 'aviarykeep.ZabSteps', WHERE WHAT IT READS IS OF BULK AT MOST 1048576: true; the input reads as it did. -/
def zabStepsUptoRow : OpenClaim := { program := "ytahcmfnpfepimaa", sum := "72a8c464e982655b3cc10ce999d7be83ec516fb849e0bd9ea0f5978636f01250", func := "aviary/aviarykeep.ZabSteps", spec := "zabSteps", apart := false, narrowed := true }
def ZabStepsUptoSaid : Prop := zabStepsUptoRow.holds Try.pinned (OpenSpec.upto zabStepsSpec)

/-- 'aviarykeep.ClientKept', WHERE WHAT IT READS IS OF BULK AT MOST 1048576: true; the input reads as it did. -/
def clientKeptUptoRow : OpenClaim := { program := "ytahcmfnpfepimaa", sum := "72a8c464e982655b3cc10ce999d7be83ec516fb849e0bd9ea0f5978636f01250", func := "aviary/aviarykeep.ClientKept", spec := "clientKept", inPlace := ["internal/bytealg.abigen_runtime_cmpstring", "slices.overlaps[aviary/api.Entry]"], unfollowed := true, recurses := true, apart := false, narrowed := true }
def ClientKeptUptoSaid : Prop := clientKeptUptoRow.holds Try.pinned (OpenSpec.upto clientKeptSpec)

end Rows
end Go.Proofs.Ytahcmfnpfepimaa
