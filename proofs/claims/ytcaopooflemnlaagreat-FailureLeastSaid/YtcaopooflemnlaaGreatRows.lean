/-
  No cell of these rows narrows 'for every input' (looked for: loops, veiled, ifaces, maps, wideKeys, modest, calm, conditions, laid).
  DERIVED. THE GIVEN ROWS OF THIS SEAT. 12 by the template 'for every input the law returns true; each argument reads behind the call as it read before'; 0 by the template 'total and deterministic' (their statements: YtcaopooflemnlaaGreatTotals.lean).
  GIVEN WITH THE SEED: the statements are not yours to turn. If you find one false, say at which input.
  Laid BY PROGRAM, IN A SANDBOX (cutbox-rows.mjs): the forced cells as the released guide's own fill.sh prints them over the translation de57b25421731733… (all of the seat's roots in one cut). By AI agents, Wed Nov 11 2026. No macro, syntax, notation, axiom, sorry.
-/
import Derived.Test.YtcaopooflemnlaaGreatChecked
import GoSem.Claim
import GoSem.ClaimJoined
import GoSem.ClaimMapViews
import Derived.JoinedTies
import Derived.KernelRfl
namespace Go.Proofs.YtcaopooflemnlaaGreat
/- THE CELL 'sum', in the pinned program and in every row, IS THE sha256 OF THE DUMP (.gsa) THAT YtcaopooflemnlaaGreatProg.lean LOADS. Nothing in Lean hashes anything: it is a label: what it is worth is what the hold of that sum in a sandbox is worth. -/
noncomputable def Tryz.pinned : Pinned := { name := "ytcaopooflemnlaagreat", sum := "de57b254217317332f4beb2eeb75be860dba69e5e36f9732255ef2a2aeab764f", checked := Tryz.checked }
namespace Rows
def none {H : Type} : Left H := { results := [], args := [] }

/-- 'loftblocklaw22.LiftlineTravels': WHATEVER THE INPUT: true; the input reads as it did. -/
def liftlineTravelsSpec : ChangeSpec := { name := "liftlineTravels", fn := fun _ => fun
  | [d] => { results := [.lit (.bool true)], args := [d] }
  | _ => none }
def liftlineTravelsRow : OpenClaim := { program := "ytcaopooflemnlaagreat", sum := "de57b254217317332f4beb2eeb75be860dba69e5e36f9732255ef2a2aeab764f", func := "loftblock/loftblocklaw22.LiftlineTravels", spec := "liftlineTravels", inPlace := ["math/bits.Add64", "math/bits.Sub64"], unfollowed := true, recurses := true, named := ["math/bits.divideError", "math/bits.overflowError"], apart := false }
def LiftlineTravelsSaid : Prop := liftlineTravelsRow.holds Tryz.pinned (OpenSpec.ofChange liftlineTravelsSpec)

/-- ITS FALSE NEIGHBOUR: 'it returns false'. Refute it at one input. -/
def liftlineTravelsWrong : ChangeSpec := { name := "liftlineTravels", fn := fun _ => fun
  | [d] => { results := [.lit (.bool false)], args := [d] }
  | _ => none }
def LiftlineTravelsWrongFalsely : Prop := liftlineTravelsRow.holds Tryz.pinned (OpenSpec.ofChange liftlineTravelsWrong)

/-- 'loftblocklaw22.LiftlineTurned': WHATEVER THE INPUT: true; the input reads as it did. -/
def liftlineTurnedSpec : ChangeSpec := { name := "liftlineTurned", fn := fun _ => fun
  | [d] => { results := [.lit (.bool true)], args := [d] }
  | _ => none }
def liftlineTurnedRow : OpenClaim := { program := "ytcaopooflemnlaagreat", sum := "de57b254217317332f4beb2eeb75be860dba69e5e36f9732255ef2a2aeab764f", func := "loftblock/loftblocklaw22.LiftlineTurned", spec := "liftlineTurned", inPlace := ["math/bits.Add64", "math/bits.Sub64"], unfollowed := true, recurses := true, named := ["math/bits.divideError", "math/bits.overflowError"], apart := false }
def LiftlineTurnedSaid : Prop := liftlineTurnedRow.holds Tryz.pinned (OpenSpec.ofChange liftlineTurnedSpec)

/-- ITS FALSE NEIGHBOUR: 'it returns false'. Refute it at one input. -/
def liftlineTurnedWrong : ChangeSpec := { name := "liftlineTurned", fn := fun _ => fun
  | [d] => { results := [.lit (.bool false)], args := [d] }
  | _ => none }
def LiftlineTurnedWrongFalsely : Prop := liftlineTurnedRow.holds Tryz.pinned (OpenSpec.ofChange liftlineTurnedWrong)

/-- 'loftblocklaw22.LiftlineWeighs': WHATEVER THE INPUT: true; the input reads as it did. -/
def liftlineWeighsSpec : ChangeSpec := { name := "liftlineWeighs", fn := fun _ => fun
  | [d] => { results := [.lit (.bool true)], args := [d] }
  | _ => none }
def liftlineWeighsRow : OpenClaim := { program := "ytcaopooflemnlaagreat", sum := "de57b254217317332f4beb2eeb75be860dba69e5e36f9732255ef2a2aeab764f", func := "loftblock/loftblocklaw22.LiftlineWeighs", spec := "liftlineWeighs", inPlace := ["math/bits.Add64", "math/bits.Sub64"], unfollowed := true, recurses := true, named := ["math/bits.divideError", "math/bits.overflowError"], apart := false }
def LiftlineWeighsSaid : Prop := liftlineWeighsRow.holds Tryz.pinned (OpenSpec.ofChange liftlineWeighsSpec)

/-- ITS FALSE NEIGHBOUR: 'it returns false'. Refute it at one input. -/
def liftlineWeighsWrong : ChangeSpec := { name := "liftlineWeighs", fn := fun _ => fun
  | [d] => { results := [.lit (.bool false)], args := [d] }
  | _ => none }
def LiftlineWeighsWrongFalsely : Prop := liftlineWeighsRow.holds Tryz.pinned (OpenSpec.ofChange liftlineWeighsWrong)

/-- 'loftblocklaw22.LiftlineHeads': WHATEVER THE INPUT: true; the input reads as it did. -/
def liftlineHeadsSpec : ChangeSpec := { name := "liftlineHeads", fn := fun _ => fun
  | [d] => { results := [.lit (.bool true)], args := [d] }
  | _ => none }
def liftlineHeadsRow : OpenClaim := { program := "ytcaopooflemnlaagreat", sum := "de57b254217317332f4beb2eeb75be860dba69e5e36f9732255ef2a2aeab764f", func := "loftblock/loftblocklaw22.LiftlineHeads", spec := "liftlineHeads", inPlace := ["math/bits.Add64", "math/bits.Sub64"], unfollowed := true, recurses := true, named := ["math/bits.divideError", "math/bits.overflowError"], apart := false }
def LiftlineHeadsSaid : Prop := liftlineHeadsRow.holds Tryz.pinned (OpenSpec.ofChange liftlineHeadsSpec)

/-- ITS FALSE NEIGHBOUR: 'it returns false'. Refute it at one input. -/
def liftlineHeadsWrong : ChangeSpec := { name := "liftlineHeads", fn := fun _ => fun
  | [d] => { results := [.lit (.bool false)], args := [d] }
  | _ => none }
def LiftlineHeadsWrongFalsely : Prop := liftlineHeadsRow.holds Tryz.pinned (OpenSpec.ofChange liftlineHeadsWrong)

/-- 'loftblocklaw24.FailureWorst': WHATEVER THE INPUT: true; the input reads as it did. -/
def failureWorstSpec : ChangeSpec := { name := "failureWorst", fn := fun _ => fun
  | [d] => { results := [.lit (.bool true)], args := [d] }
  | _ => none }
def failureWorstRow : OpenClaim := { program := "ytcaopooflemnlaagreat", sum := "de57b254217317332f4beb2eeb75be860dba69e5e36f9732255ef2a2aeab764f", func := "loftblock/loftblocklaw24.FailureWorst", spec := "failureWorst", inPlace := ["slices.overlaps[loftblock/api.Frac]"], unfollowed := true, recurses := true, apart := false }
def FailureWorstSaid : Prop := failureWorstRow.holds Tryz.pinned (OpenSpec.ofChange failureWorstSpec)

/-- ITS FALSE NEIGHBOUR: 'it returns false'. Refute it at one input. -/
def failureWorstWrong : ChangeSpec := { name := "failureWorst", fn := fun _ => fun
  | [d] => { results := [.lit (.bool false)], args := [d] }
  | _ => none }
def FailureWorstWrongFalsely : Prop := failureWorstRow.holds Tryz.pinned (OpenSpec.ofChange failureWorstWrong)

/-- 'loftblocklaw24.FailureCritical': WHATEVER THE INPUT: true; the input reads as it did. -/
def failureCriticalSpec : ChangeSpec := { name := "failureCritical", fn := fun _ => fun
  | [d] => { results := [.lit (.bool true)], args := [d] }
  | _ => none }
def failureCriticalRow : OpenClaim := { program := "ytcaopooflemnlaagreat", sum := "de57b254217317332f4beb2eeb75be860dba69e5e36f9732255ef2a2aeab764f", func := "loftblock/loftblocklaw24.FailureCritical", spec := "failureCritical", inPlace := ["slices.overlaps[loftblock/api.Frac]"], unfollowed := true, recurses := true, apart := false }
def FailureCriticalSaid : Prop := failureCriticalRow.holds Tryz.pinned (OpenSpec.ofChange failureCriticalSpec)

/-- ITS FALSE NEIGHBOUR: 'it returns false'. Refute it at one input. -/
def failureCriticalWrong : ChangeSpec := { name := "failureCritical", fn := fun _ => fun
  | [d] => { results := [.lit (.bool false)], args := [d] }
  | _ => none }
def FailureCriticalWrongFalsely : Prop := failureCriticalRow.holds Tryz.pinned (OpenSpec.ofChange failureCriticalWrong)

/-- 'loftblocklaw24.FailureSeen': WHATEVER THE INPUT: true; the input reads as it did. -/
def failureSeenSpec : ChangeSpec := { name := "failureSeen", fn := fun _ => fun
  | [d1, d2] => { results := [.lit (.bool true)], args := [d1, d2] }
  | _ => none }
def failureSeenRow : OpenClaim := { program := "ytcaopooflemnlaagreat", sum := "de57b254217317332f4beb2eeb75be860dba69e5e36f9732255ef2a2aeab764f", func := "loftblock/loftblocklaw24.FailureSeen", spec := "failureSeen", inPlace := ["slices.overlaps[loftblock/api.Frac]"], unfollowed := true, recurses := true, apart := false }
def FailureSeenSaid : Prop := failureSeenRow.holds Tryz.pinned (OpenSpec.ofChange failureSeenSpec)

/-- ITS FALSE NEIGHBOUR: 'it returns false'. Refute it at one input. -/
def failureSeenWrong : ChangeSpec := { name := "failureSeen", fn := fun _ => fun
  | [d1, d2] => { results := [.lit (.bool false)], args := [d1, d2] }
  | _ => none }
def FailureSeenWrongFalsely : Prop := failureSeenRow.holds Tryz.pinned (OpenSpec.ofChange failureSeenWrong)

/-- 'loftblocklaw22.LiftlineLoads': WHATEVER THE INPUT: true; the input reads as it did. -/
def liftlineLoadsSpec : ChangeSpec := { name := "liftlineLoads", fn := fun _ => fun
  | [d] => { results := [.lit (.bool true)], args := [d] }
  | _ => none }
def liftlineLoadsRow : OpenClaim := { program := "ytcaopooflemnlaagreat", sum := "de57b254217317332f4beb2eeb75be860dba69e5e36f9732255ef2a2aeab764f", func := "loftblock/loftblocklaw22.LiftlineLoads", spec := "liftlineLoads", inPlace := ["math/bits.Add64", "math/bits.Sub64"], unfollowed := true, recurses := true, named := ["math/bits.divideError", "math/bits.overflowError"], apart := false }
def LiftlineLoadsSaid : Prop := liftlineLoadsRow.holds Tryz.pinned (OpenSpec.ofChange liftlineLoadsSpec)

/-- ITS FALSE NEIGHBOUR: 'it returns false'. Refute it at one input. -/
def liftlineLoadsWrong : ChangeSpec := { name := "liftlineLoads", fn := fun _ => fun
  | [d] => { results := [.lit (.bool false)], args := [d] }
  | _ => none }
def LiftlineLoadsWrongFalsely : Prop := liftlineLoadsRow.holds Tryz.pinned (OpenSpec.ofChange liftlineLoadsWrong)

/-- 'loftblocklaw24.FailureWithout': WHATEVER THE INPUT: true; the input reads as it did. -/
def failureWithoutSpec : ChangeSpec := { name := "failureWithout", fn := fun _ => fun
  | [d1, d2, d3] => { results := [.lit (.bool true)], args := [d1, d2, d3] }
  | _ => none }
def failureWithoutRow : OpenClaim := { program := "ytcaopooflemnlaagreat", sum := "de57b254217317332f4beb2eeb75be860dba69e5e36f9732255ef2a2aeab764f", func := "loftblock/loftblocklaw24.FailureWithout", spec := "failureWithout", inPlace := ["slices.overlaps[loftblock/api.Frac]"], unfollowed := true, recurses := true, apart := false }
def FailureWithoutSaid : Prop := failureWithoutRow.holds Tryz.pinned (OpenSpec.ofChange failureWithoutSpec)

/-- ITS FALSE NEIGHBOUR: 'it returns false'. Refute it at one input. -/
def failureWithoutWrong : ChangeSpec := { name := "failureWithout", fn := fun _ => fun
  | [d1, d2, d3] => { results := [.lit (.bool false)], args := [d1, d2, d3] }
  | _ => none }
def FailureWithoutWrongFalsely : Prop := failureWithoutRow.holds Tryz.pinned (OpenSpec.ofChange failureWithoutWrong)

/-- 'loftblocklaw24.FailureLeast': WHATEVER THE INPUT: true; the input reads as it did. -/
def failureLeastSpec : ChangeSpec := { name := "failureLeast", fn := fun _ => fun
  | [d] => { results := [.lit (.bool true)], args := [d] }
  | _ => none }
def failureLeastRow : OpenClaim := { program := "ytcaopooflemnlaagreat", sum := "de57b254217317332f4beb2eeb75be860dba69e5e36f9732255ef2a2aeab764f", func := "loftblock/loftblocklaw24.FailureLeast", spec := "failureLeast", inPlace := ["slices.overlaps[loftblock/api.Frac]"], unfollowed := true, recurses := true, apart := false }
def FailureLeastSaid : Prop := failureLeastRow.holds Tryz.pinned (OpenSpec.ofChange failureLeastSpec)

/-- ITS FALSE NEIGHBOUR: 'it returns false'. Refute it at one input. -/
def failureLeastWrong : ChangeSpec := { name := "failureLeast", fn := fun _ => fun
  | [d] => { results := [.lit (.bool false)], args := [d] }
  | _ => none }
def FailureLeastWrongFalsely : Prop := failureLeastRow.holds Tryz.pinned (OpenSpec.ofChange failureLeastWrong)

/-- 'loftblocklaw22.LiftlineHeaviest': WHATEVER THE INPUT: true; the input reads as it did. -/
def liftlineHeaviestSpec : ChangeSpec := { name := "liftlineHeaviest", fn := fun _ => fun
  | [d] => { results := [.lit (.bool true)], args := [d] }
  | _ => none }
def liftlineHeaviestRow : OpenClaim := { program := "ytcaopooflemnlaagreat", sum := "de57b254217317332f4beb2eeb75be860dba69e5e36f9732255ef2a2aeab764f", func := "loftblock/loftblocklaw22.LiftlineHeaviest", spec := "liftlineHeaviest", inPlace := ["math/bits.Add64", "math/bits.Sub64"], unfollowed := true, recurses := true, named := ["math/bits.divideError", "math/bits.overflowError"], apart := false }
def LiftlineHeaviestSaid : Prop := liftlineHeaviestRow.holds Tryz.pinned (OpenSpec.ofChange liftlineHeaviestSpec)

/-- ITS FALSE NEIGHBOUR: 'it returns false'. Refute it at one input. -/
def liftlineHeaviestWrong : ChangeSpec := { name := "liftlineHeaviest", fn := fun _ => fun
  | [d] => { results := [.lit (.bool false)], args := [d] }
  | _ => none }
def LiftlineHeaviestWrongFalsely : Prop := liftlineHeaviestRow.holds Tryz.pinned (OpenSpec.ofChange liftlineHeaviestWrong)

/-- 'loftblocklaw24.FailureSums': WHATEVER THE INPUT: true; the input reads as it did. -/
def failureSumsSpec : ChangeSpec := { name := "failureSums", fn := fun _ => fun
  | [d1, d2, d3] => { results := [.lit (.bool true)], args := [d1, d2, d3] }
  | _ => none }
def failureSumsRow : OpenClaim := { program := "ytcaopooflemnlaagreat", sum := "de57b254217317332f4beb2eeb75be860dba69e5e36f9732255ef2a2aeab764f", func := "loftblock/loftblocklaw24.FailureSums", spec := "failureSums", inPlace := ["slices.overlaps[loftblock/api.Frac]", "math/bits.Add64", "math/bits.Sub64"], unfollowed := true, recurses := true, named := ["math/bits.divideError", "math/bits.overflowError"], apart := false }
def FailureSumsSaid : Prop := failureSumsRow.holds Tryz.pinned (OpenSpec.ofChange failureSumsSpec)

/-- ITS FALSE NEIGHBOUR: 'it returns false'. Refute it at one input. -/
def failureSumsWrong : ChangeSpec := { name := "failureSums", fn := fun _ => fun
  | [d1, d2, d3] => { results := [.lit (.bool false)], args := [d1, d2, d3] }
  | _ => none }
def FailureSumsWrongFalsely : Prop := failureSumsRow.holds Tryz.pinned (OpenSpec.ofChange failureSumsWrong)

/- THE SECOND FORM. 'bulk': how many values and letters a reading holds, each counted each time it is reached (what is shared counts as often as it is met; a slice's spare places count too). A statement '..UptoSaid' is the law's where the arguments, and the package variables that the reading takes, are together of bulk at most 1048576: NARROWER than '..Said'. Prove '..Said' where nothing that the law and all that it calls make is longer than what came in: it says more and counts as full. Else prove '..UptoSaid'. A law counts once. -/
mutual
def uptoBulk {H : Type} : DataW H → Nat
  | .lit (.string bytes) => bytes.length + 1
  | .lit _ => 1
  | .nil => 1
  | .ptr d => uptoBulk d + 1
  | .slice elems spare => uptoBulkAll elems + uptoBulkAll spare + 1
  | .agg parts => uptoBulkAll parts + 1
  | .iface _ d => uptoBulk d + 1
  | .map entries => uptoBulkEntries entries + 1
  | .held _ => 1
def uptoBulkAll {H : Type} : List (DataW H) → Nat
  | [] => 0
  | d :: r => uptoBulk d + uptoBulkAll r
def uptoBulkEntries {H : Type} : List (Lit × DataW H) → Nat
  | [] => 0
  | x :: r => uptoBulkEntry x + uptoBulkEntries r
def uptoBulkEntry {H : Type} : Lit × DataW H → Nat
  | (.string bytes, d) => bytes.length + uptoBulk d + 1
  | (_, d) => uptoBulk d + 1
 end
def uptoSmall : (H : Type) → List (DataW H) → Bool := fun _ ds => decide (uptoBulkAll ds ≤ 1048576)
def OpenSpec.upto (s : _root_.Go.ChangeSpec) : _root_.Go.OpenSpec := { _root_.Go.OpenSpec.ofChange s with cond := some uptoSmall }

/-- 'loftblocklaw22.LiftlineTravels', WHERE WHAT IT READS IS OF BULK AT MOST 1048576: true; the input reads as it did. -/
def liftlineTravelsUptoRow : OpenClaim := { program := "ytcaopooflemnlaagreat", sum := "de57b254217317332f4beb2eeb75be860dba69e5e36f9732255ef2a2aeab764f", func := "loftblock/loftblocklaw22.LiftlineTravels", spec := "liftlineTravels", inPlace := ["math/bits.Add64", "math/bits.Sub64"], unfollowed := true, recurses := true, named := ["math/bits.divideError", "math/bits.overflowError"], apart := false, narrowed := true }
def LiftlineTravelsUptoSaid : Prop := liftlineTravelsUptoRow.holds Tryz.pinned (OpenSpec.upto liftlineTravelsSpec)

/-- 'loftblocklaw22.LiftlineTurned', WHERE WHAT IT READS IS OF BULK AT MOST 1048576: true; the input reads as it did. -/
def liftlineTurnedUptoRow : OpenClaim := { program := "ytcaopooflemnlaagreat", sum := "de57b254217317332f4beb2eeb75be860dba69e5e36f9732255ef2a2aeab764f", func := "loftblock/loftblocklaw22.LiftlineTurned", spec := "liftlineTurned", inPlace := ["math/bits.Add64", "math/bits.Sub64"], unfollowed := true, recurses := true, named := ["math/bits.divideError", "math/bits.overflowError"], apart := false, narrowed := true }
def LiftlineTurnedUptoSaid : Prop := liftlineTurnedUptoRow.holds Tryz.pinned (OpenSpec.upto liftlineTurnedSpec)

/-- 'loftblocklaw22.LiftlineWeighs', WHERE WHAT IT READS IS OF BULK AT MOST 1048576: true; the input reads as it did. -/
def liftlineWeighsUptoRow : OpenClaim := { program := "ytcaopooflemnlaagreat", sum := "de57b254217317332f4beb2eeb75be860dba69e5e36f9732255ef2a2aeab764f", func := "loftblock/loftblocklaw22.LiftlineWeighs", spec := "liftlineWeighs", inPlace := ["math/bits.Add64", "math/bits.Sub64"], unfollowed := true, recurses := true, named := ["math/bits.divideError", "math/bits.overflowError"], apart := false, narrowed := true }
def LiftlineWeighsUptoSaid : Prop := liftlineWeighsUptoRow.holds Tryz.pinned (OpenSpec.upto liftlineWeighsSpec)

/-- 'loftblocklaw22.LiftlineHeads', WHERE WHAT IT READS IS OF BULK AT MOST 1048576: true; the input reads as it did. -/
def liftlineHeadsUptoRow : OpenClaim := { program := "ytcaopooflemnlaagreat", sum := "de57b254217317332f4beb2eeb75be860dba69e5e36f9732255ef2a2aeab764f", func := "loftblock/loftblocklaw22.LiftlineHeads", spec := "liftlineHeads", inPlace := ["math/bits.Add64", "math/bits.Sub64"], unfollowed := true, recurses := true, named := ["math/bits.divideError", "math/bits.overflowError"], apart := false, narrowed := true }
def LiftlineHeadsUptoSaid : Prop := liftlineHeadsUptoRow.holds Tryz.pinned (OpenSpec.upto liftlineHeadsSpec)

/-- 'loftblocklaw24.FailureWorst', WHERE WHAT IT READS IS OF BULK AT MOST 1048576: true; the input reads as it did. -/
def failureWorstUptoRow : OpenClaim := { program := "ytcaopooflemnlaagreat", sum := "de57b254217317332f4beb2eeb75be860dba69e5e36f9732255ef2a2aeab764f", func := "loftblock/loftblocklaw24.FailureWorst", spec := "failureWorst", inPlace := ["slices.overlaps[loftblock/api.Frac]"], unfollowed := true, recurses := true, apart := false, narrowed := true }
def FailureWorstUptoSaid : Prop := failureWorstUptoRow.holds Tryz.pinned (OpenSpec.upto failureWorstSpec)

/-- 'loftblocklaw24.FailureCritical', WHERE WHAT IT READS IS OF BULK AT MOST 1048576: true; the input reads as it did. -/
def failureCriticalUptoRow : OpenClaim := { program := "ytcaopooflemnlaagreat", sum := "de57b254217317332f4beb2eeb75be860dba69e5e36f9732255ef2a2aeab764f", func := "loftblock/loftblocklaw24.FailureCritical", spec := "failureCritical", inPlace := ["slices.overlaps[loftblock/api.Frac]"], unfollowed := true, recurses := true, apart := false, narrowed := true }
def FailureCriticalUptoSaid : Prop := failureCriticalUptoRow.holds Tryz.pinned (OpenSpec.upto failureCriticalSpec)

/-- 'loftblocklaw24.FailureSeen', WHERE WHAT IT READS IS OF BULK AT MOST 1048576: true; the input reads as it did. -/
def failureSeenUptoRow : OpenClaim := { program := "ytcaopooflemnlaagreat", sum := "de57b254217317332f4beb2eeb75be860dba69e5e36f9732255ef2a2aeab764f", func := "loftblock/loftblocklaw24.FailureSeen", spec := "failureSeen", inPlace := ["slices.overlaps[loftblock/api.Frac]"], unfollowed := true, recurses := true, apart := false, narrowed := true }
def FailureSeenUptoSaid : Prop := failureSeenUptoRow.holds Tryz.pinned (OpenSpec.upto failureSeenSpec)

/-- 'loftblocklaw22.LiftlineLoads', WHERE WHAT IT READS IS OF BULK AT MOST 1048576: true; the input reads as it did. -/
def liftlineLoadsUptoRow : OpenClaim := { program := "ytcaopooflemnlaagreat", sum := "de57b254217317332f4beb2eeb75be860dba69e5e36f9732255ef2a2aeab764f", func := "loftblock/loftblocklaw22.LiftlineLoads", spec := "liftlineLoads", inPlace := ["math/bits.Add64", "math/bits.Sub64"], unfollowed := true, recurses := true, named := ["math/bits.divideError", "math/bits.overflowError"], apart := false, narrowed := true }
def LiftlineLoadsUptoSaid : Prop := liftlineLoadsUptoRow.holds Tryz.pinned (OpenSpec.upto liftlineLoadsSpec)

/-- 'loftblocklaw24.FailureWithout', WHERE WHAT IT READS IS OF BULK AT MOST 1048576: true; the input reads as it did. -/
def failureWithoutUptoRow : OpenClaim := { program := "ytcaopooflemnlaagreat", sum := "de57b254217317332f4beb2eeb75be860dba69e5e36f9732255ef2a2aeab764f", func := "loftblock/loftblocklaw24.FailureWithout", spec := "failureWithout", inPlace := ["slices.overlaps[loftblock/api.Frac]"], unfollowed := true, recurses := true, apart := false, narrowed := true }
def FailureWithoutUptoSaid : Prop := failureWithoutUptoRow.holds Tryz.pinned (OpenSpec.upto failureWithoutSpec)

/-- 'loftblocklaw24.FailureLeast', WHERE WHAT IT READS IS OF BULK AT MOST 1048576: true; the input reads as it did. -/
def failureLeastUptoRow : OpenClaim := { program := "ytcaopooflemnlaagreat", sum := "de57b254217317332f4beb2eeb75be860dba69e5e36f9732255ef2a2aeab764f", func := "loftblock/loftblocklaw24.FailureLeast", spec := "failureLeast", inPlace := ["slices.overlaps[loftblock/api.Frac]"], unfollowed := true, recurses := true, apart := false, narrowed := true }
def FailureLeastUptoSaid : Prop := failureLeastUptoRow.holds Tryz.pinned (OpenSpec.upto failureLeastSpec)

/-- 'loftblocklaw22.LiftlineHeaviest', WHERE WHAT IT READS IS OF BULK AT MOST 1048576: true; the input reads as it did. -/
def liftlineHeaviestUptoRow : OpenClaim := { program := "ytcaopooflemnlaagreat", sum := "de57b254217317332f4beb2eeb75be860dba69e5e36f9732255ef2a2aeab764f", func := "loftblock/loftblocklaw22.LiftlineHeaviest", spec := "liftlineHeaviest", inPlace := ["math/bits.Add64", "math/bits.Sub64"], unfollowed := true, recurses := true, named := ["math/bits.divideError", "math/bits.overflowError"], apart := false, narrowed := true }
def LiftlineHeaviestUptoSaid : Prop := liftlineHeaviestUptoRow.holds Tryz.pinned (OpenSpec.upto liftlineHeaviestSpec)

/-- 'loftblocklaw24.FailureSums', WHERE WHAT IT READS IS OF BULK AT MOST 1048576: true; the input reads as it did. -/
def failureSumsUptoRow : OpenClaim := { program := "ytcaopooflemnlaagreat", sum := "de57b254217317332f4beb2eeb75be860dba69e5e36f9732255ef2a2aeab764f", func := "loftblock/loftblocklaw24.FailureSums", spec := "failureSums", inPlace := ["slices.overlaps[loftblock/api.Frac]", "math/bits.Add64", "math/bits.Sub64"], unfollowed := true, recurses := true, named := ["math/bits.divideError", "math/bits.overflowError"], apart := false, narrowed := true }
def FailureSumsUptoSaid : Prop := failureSumsUptoRow.holds Tryz.pinned (OpenSpec.upto failureSumsSpec)

end Rows
end Go.Proofs.YtcaopooflemnlaaGreat
