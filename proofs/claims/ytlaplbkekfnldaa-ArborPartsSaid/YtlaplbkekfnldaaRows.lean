/-
  No cell of these rows narrows 'for every input' (looked for: loops, veiled, ifaces, maps, wideKeys, modest, calm, conditions, laid).
  DERIVED. THE GIVEN ROWS OF THIS SEAT. 7 by the template 'for every input the law returns true; each argument reads behind the call as it read before'; 0 by the template 'total and deterministic' (their statements: YtlaplbkekfnldaaTotals.lean).
  GIVEN WITH THE SEED: the statements are not yours to turn. If you find one false, say at which input.
  Laid BY PROGRAM, IN A SANDBOX (cutbox-rows.mjs): the forced cells as the released guide's own fill.sh prints them over the translation 5fd1708cb473e7e6… (all of the seat's roots in one cut). By AI agents, Wed Nov 11 2026. No macro, syntax, notation, axiom, sorry.
-/
import Derived.Test.YtlaplbkekfnldaaChecked
import GoSem.Claim
import GoSem.ClaimJoined
import GoSem.ClaimMapViews
import Derived.JoinedTies
import Derived.KernelRfl
namespace Go.Proofs.Ytlaplbkekfnldaa
/- THE CELL 'sum', in the pinned program and in every row, IS THE sha256 OF THE DUMP (.gsa) THAT YtlaplbkekfnldaaProg.lean LOADS. Nothing in Lean hashes anything: it is a label: what it is worth is what the hold of that sum in a sandbox is worth. -/
noncomputable def Try.pinned : Pinned := { name := "ytlaplbkekfnldaa", sum := "5fd1708cb473e7e61bc93fc486a1d68ca2a5978c3a03717b1177337d3d2a871e", checked := Try.checked }
namespace Rows
def none {H : Type} : Left H := { results := [], args := [] }

/-- 'loftblocklaw25.ArborBrakes': WHATEVER THE INPUT: true; the input reads as it did. -/
def arborBrakesSpec : ChangeSpec := { name := "arborBrakes", fn := fun _ => fun
  | [d1, d2] => { results := [.lit (.bool true)], args := [d1, d2] }
  | _ => none }
def arborBrakesRow : OpenClaim := { program := "ytlaplbkekfnldaa", sum := "5fd1708cb473e7e61bc93fc486a1d68ca2a5978c3a03717b1177337d3d2a871e", func := "loftblock/loftblocklaw25.ArborBrakes", spec := "arborBrakes", unfollowed := true, recurses := true, apart := false }
def ArborBrakesSaid : Prop := arborBrakesRow.holds Try.pinned (OpenSpec.ofChange arborBrakesSpec)

/-- ITS FALSE NEIGHBOUR: 'it returns false'. Refute it at one input. -/
def arborBrakesWrong : ChangeSpec := { name := "arborBrakes", fn := fun _ => fun
  | [d1, d2] => { results := [.lit (.bool false)], args := [d1, d2] }
  | _ => none }
def ArborBrakesWrongFalsely : Prop := arborBrakesRow.holds Try.pinned (OpenSpec.ofChange arborBrakesWrong)

/-- 'loftblocklaw25.ArborBalances': WHATEVER THE INPUT: true; the input reads as it did. -/
def arborBalancesSpec : ChangeSpec := { name := "arborBalances", fn := fun _ => fun
  | [d] => { results := [.lit (.bool true)], args := [d] }
  | _ => none }
def arborBalancesRow : OpenClaim := { program := "ytlaplbkekfnldaa", sum := "5fd1708cb473e7e61bc93fc486a1d68ca2a5978c3a03717b1177337d3d2a871e", func := "loftblock/loftblocklaw25.ArborBalances", spec := "arborBalances", unfollowed := true, recurses := true, apart := false }
def ArborBalancesSaid : Prop := arborBalancesRow.holds Try.pinned (OpenSpec.ofChange arborBalancesSpec)

/-- ITS FALSE NEIGHBOUR: 'it returns false'. Refute it at one input. -/
def arborBalancesWrong : ChangeSpec := { name := "arborBalances", fn := fun _ => fun
  | [d] => { results := [.lit (.bool false)], args := [d] }
  | _ => none }
def ArborBalancesWrongFalsely : Prop := arborBalancesRow.holds Try.pinned (OpenSpec.ofChange arborBalancesWrong)

/-- 'loftblocklaw25.ArborLoads': WHATEVER THE INPUT: true; the input reads as it did. -/
def arborLoadsSpec : ChangeSpec := { name := "arborLoads", fn := fun _ => fun
  | [d1, d2] => { results := [.lit (.bool true)], args := [d1, d2] }
  | _ => none }
def arborLoadsRow : OpenClaim := { program := "ytlaplbkekfnldaa", sum := "5fd1708cb473e7e61bc93fc486a1d68ca2a5978c3a03717b1177337d3d2a871e", func := "loftblock/loftblocklaw25.ArborLoads", spec := "arborLoads", unfollowed := true, recurses := true, apart := false }
def ArborLoadsSaid : Prop := arborLoadsRow.holds Try.pinned (OpenSpec.ofChange arborLoadsSpec)

/-- ITS FALSE NEIGHBOUR: 'it returns false'. Refute it at one input. -/
def arborLoadsWrong : ChangeSpec := { name := "arborLoads", fn := fun _ => fun
  | [d1, d2] => { results := [.lit (.bool false)], args := [d1, d2] }
  | _ => none }
def ArborLoadsWrongFalsely : Prop := arborLoadsRow.holds Try.pinned (OpenSpec.ofChange arborLoadsWrong)

/-- 'loftblocklaw25.ArborBricks': WHATEVER THE INPUT: true; the input reads as it did. -/
def arborBricksSpec : ChangeSpec := { name := "arborBricks", fn := fun _ => fun
  | [d1, d2] => { results := [.lit (.bool true)], args := [d1, d2] }
  | _ => none }
def arborBricksRow : OpenClaim := { program := "ytlaplbkekfnldaa", sum := "5fd1708cb473e7e61bc93fc486a1d68ca2a5978c3a03717b1177337d3d2a871e", func := "loftblock/loftblocklaw25.ArborBricks", spec := "arborBricks", unfollowed := true, recurses := true, apart := false }
def ArborBricksSaid : Prop := arborBricksRow.holds Try.pinned (OpenSpec.ofChange arborBricksSpec)

/-- ITS FALSE NEIGHBOUR: 'it returns false'. Refute it at one input. -/
def arborBricksWrong : ChangeSpec := { name := "arborBricks", fn := fun _ => fun
  | [d1, d2] => { results := [.lit (.bool false)], args := [d1, d2] }
  | _ => none }
def ArborBricksWrongFalsely : Prop := arborBricksRow.holds Try.pinned (OpenSpec.ofChange arborBricksWrong)

/-- 'loftblocklaw25.ArborParts': WHATEVER THE INPUT: true; the input reads as it did. -/
def arborPartsSpec : ChangeSpec := { name := "arborParts", fn := fun _ => fun
  | [d1, d2, d3] => { results := [.lit (.bool true)], args := [d1, d2, d3] }
  | _ => none }
def arborPartsRow : OpenClaim := { program := "ytlaplbkekfnldaa", sum := "5fd1708cb473e7e61bc93fc486a1d68ca2a5978c3a03717b1177337d3d2a871e", func := "loftblock/loftblocklaw25.ArborParts", spec := "arborParts", unfollowed := true, recurses := true, apart := false }
def ArborPartsSaid : Prop := arborPartsRow.holds Try.pinned (OpenSpec.ofChange arborPartsSpec)

/-- ITS FALSE NEIGHBOUR: 'it returns false'. Refute it at one input. -/
def arborPartsWrong : ChangeSpec := { name := "arborParts", fn := fun _ => fun
  | [d1, d2, d3] => { results := [.lit (.bool false)], args := [d1, d2, d3] }
  | _ => none }
def ArborPartsWrongFalsely : Prop := arborPartsRow.holds Try.pinned (OpenSpec.ofChange arborPartsWrong)

/-- 'loftblocklaw25.ArborChanges': WHATEVER THE INPUT: true; the input reads as it did. -/
def arborChangesSpec : ChangeSpec := { name := "arborChanges", fn := fun _ => fun
  | [d1, d2, d3] => { results := [.lit (.bool true)], args := [d1, d2, d3] }
  | _ => none }
def arborChangesRow : OpenClaim := { program := "ytlaplbkekfnldaa", sum := "5fd1708cb473e7e61bc93fc486a1d68ca2a5978c3a03717b1177337d3d2a871e", func := "loftblock/loftblocklaw25.ArborChanges", spec := "arborChanges", unfollowed := true, recurses := true, apart := false }
def ArborChangesSaid : Prop := arborChangesRow.holds Try.pinned (OpenSpec.ofChange arborChangesSpec)

/-- ITS FALSE NEIGHBOUR: 'it returns false'. Refute it at one input. -/
def arborChangesWrong : ChangeSpec := { name := "arborChanges", fn := fun _ => fun
  | [d1, d2, d3] => { results := [.lit (.bool false)], args := [d1, d2, d3] }
  | _ => none }
def ArborChangesWrongFalsely : Prop := arborChangesRow.holds Try.pinned (OpenSpec.ofChange arborChangesWrong)

/-- 'loftblocklaw25.ArborSame': WHATEVER THE INPUT: true; the input reads as it did. -/
def arborSameSpec : ChangeSpec := { name := "arborSame", fn := fun _ => fun
  | [d] => { results := [.lit (.bool true)], args := [d] }
  | _ => none }
def arborSameRow : OpenClaim := { program := "ytlaplbkekfnldaa", sum := "5fd1708cb473e7e61bc93fc486a1d68ca2a5978c3a03717b1177337d3d2a871e", func := "loftblock/loftblocklaw25.ArborSame", spec := "arborSame", unfollowed := true, recurses := true, apart := false }
def ArborSameSaid : Prop := arborSameRow.holds Try.pinned (OpenSpec.ofChange arborSameSpec)

/-- ITS FALSE NEIGHBOUR: 'it returns false'. Refute it at one input. -/
def arborSameWrong : ChangeSpec := { name := "arborSame", fn := fun _ => fun
  | [d] => { results := [.lit (.bool false)], args := [d] }
  | _ => none }
def ArborSameWrongFalsely : Prop := arborSameRow.holds Try.pinned (OpenSpec.ofChange arborSameWrong)

/- THE SECOND FORM. 'bulk': how many values and letters a reading holds, each counted each time it is reached (what is shared counts as often as it is met; a slice's spare places count too). A statement '..UptoSaid' is the law's where the arguments, and the package variables that the reading takes, are together of bulk at most 1048576: NARROWER than '..Said'. Prove '..Said' where nothing that the law and all that it calls make is longer than what came in: it says more and counts as full. Else prove '..UptoSaid'. A law counts once. -/
mutual
def uptoBulk {H : Type} : DataW H → Nat
  | .lit (.string bytes) => bytes.length + 1
  | .lit _ => 1
  | .nil => 1
  | .ptr d => uptoBulk d + 1
  | .slice elems spare => uptoBulkAll elems + uptoBulkAll spare + 1
  | .agg parts => uptoBulkAll parts + 1
  | .iface _ d => uptoBulk d + 1
  | .map entries => uptoBulkEntries entries + 1
  | .held _ => 1
def uptoBulkAll {H : Type} : List (DataW H) → Nat
  | [] => 0
  | d :: r => uptoBulk d + uptoBulkAll r
def uptoBulkEntries {H : Type} : List (Lit × DataW H) → Nat
  | [] => 0
  | x :: r => uptoBulkEntry x + uptoBulkEntries r
def uptoBulkEntry {H : Type} : Lit × DataW H → Nat
  | (.string bytes, d) => bytes.length + uptoBulk d + 1
  | (_, d) => uptoBulk d + 1
 end
def uptoSmall : (H : Type) → List (DataW H) → Bool := fun _ ds => decide (uptoBulkAll ds ≤ 1048576)
def OpenSpec.upto (s : _root_.Go.ChangeSpec) : _root_.Go.OpenSpec := { _root_.Go.OpenSpec.ofChange s with cond := some uptoSmall }

/-- 'loftblocklaw25.ArborBrakes', WHERE WHAT IT READS IS OF BULK AT MOST 1048576: true; the input reads as it did. -/
def arborBrakesUptoRow : OpenClaim := { program := "ytlaplbkekfnldaa", sum := "5fd1708cb473e7e61bc93fc486a1d68ca2a5978c3a03717b1177337d3d2a871e", func := "loftblock/loftblocklaw25.ArborBrakes", spec := "arborBrakes", unfollowed := true, recurses := true, apart := false, narrowed := true }
def ArborBrakesUptoSaid : Prop := arborBrakesUptoRow.holds Try.pinned (OpenSpec.upto arborBrakesSpec)

/-- 'loftblocklaw25.ArborBalances', WHERE WHAT IT READS IS OF BULK AT MOST 1048576: true; the input reads as it did. -/
def arborBalancesUptoRow : OpenClaim := { program := "ytlaplbkekfnldaa", sum := "5fd1708cb473e7e61bc93fc486a1d68ca2a5978c3a03717b1177337d3d2a871e", func := "loftblock/loftblocklaw25.ArborBalances", spec := "arborBalances", unfollowed := true, recurses := true, apart := false, narrowed := true }
def ArborBalancesUptoSaid : Prop := arborBalancesUptoRow.holds Try.pinned (OpenSpec.upto arborBalancesSpec)

/-- 'loftblocklaw25.ArborLoads', WHERE WHAT IT READS IS OF BULK AT MOST 1048576: true; the input reads as it did. -/
def arborLoadsUptoRow : OpenClaim := { program := "ytlaplbkekfnldaa", sum := "5fd1708cb473e7e61bc93fc486a1d68ca2a5978c3a03717b1177337d3d2a871e", func := "loftblock/loftblocklaw25.ArborLoads", spec := "arborLoads", unfollowed := true, recurses := true, apart := false, narrowed := true }
def ArborLoadsUptoSaid : Prop := arborLoadsUptoRow.holds Try.pinned (OpenSpec.upto arborLoadsSpec)

/-- 'loftblocklaw25.ArborBricks', WHERE WHAT IT READS IS OF BULK AT MOST 1048576: true; the input reads as it did. -/
def arborBricksUptoRow : OpenClaim := { program := "ytlaplbkekfnldaa", sum := "5fd1708cb473e7e61bc93fc486a1d68ca2a5978c3a03717b1177337d3d2a871e", func := "loftblock/loftblocklaw25.ArborBricks", spec := "arborBricks", unfollowed := true, recurses := true, apart := false, narrowed := true }
def ArborBricksUptoSaid : Prop := arborBricksUptoRow.holds Try.pinned (OpenSpec.upto arborBricksSpec)

/-- 'loftblocklaw25.ArborParts', WHERE WHAT IT READS IS OF BULK AT MOST 1048576: true; the input reads as it did. -/
def arborPartsUptoRow : OpenClaim := { program := "ytlaplbkekfnldaa", sum := "5fd1708cb473e7e61bc93fc486a1d68ca2a5978c3a03717b1177337d3d2a871e", func := "loftblock/loftblocklaw25.ArborParts", spec := "arborParts", unfollowed := true, recurses := true, apart := false, narrowed := true }
def ArborPartsUptoSaid : Prop := arborPartsUptoRow.holds Try.pinned (OpenSpec.upto arborPartsSpec)

/-- 'loftblocklaw25.ArborChanges', WHERE WHAT IT READS IS OF BULK AT MOST 1048576: true; the input reads as it did. -/
def arborChangesUptoRow : OpenClaim := { program := "ytlaplbkekfnldaa", sum := "5fd1708cb473e7e61bc93fc486a1d68ca2a5978c3a03717b1177337d3d2a871e", func := "loftblock/loftblocklaw25.ArborChanges", spec := "arborChanges", unfollowed := true, recurses := true, apart := false, narrowed := true }
def ArborChangesUptoSaid : Prop := arborChangesUptoRow.holds Try.pinned (OpenSpec.upto arborChangesSpec)

/-- 'loftblocklaw25.ArborSame', WHERE WHAT IT READS IS OF BULK AT MOST 1048576: true; the input reads as it did. -/
def arborSameUptoRow : OpenClaim := { program := "ytlaplbkekfnldaa", sum := "5fd1708cb473e7e61bc93fc486a1d68ca2a5978c3a03717b1177337d3d2a871e", func := "loftblock/loftblocklaw25.ArborSame", spec := "arborSame", unfollowed := true, recurses := true, apart := false, narrowed := true }
def ArborSameUptoSaid : Prop := arborSameUptoRow.holds Try.pinned (OpenSpec.upto arborSameSpec)

end Rows
end Go.Proofs.Ytlaplbkekfnldaa
