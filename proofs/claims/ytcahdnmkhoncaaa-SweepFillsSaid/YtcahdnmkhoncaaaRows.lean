/-
  No cell of these rows narrows 'for every input' (looked for: loops, veiled, ifaces, maps, wideKeys, modest, calm, conditions, laid).
  DERIVED. THE GIVEN ROWS OF THIS SEAT. 6 by the template 'for every input the law returns true; each argument reads behind the call as it read before'; 0 by the template 'total and deterministic' (their statements: YtcahdnmkhoncaaaTotals.lean).
  GIVEN WITH THE SEED: the statements are not yours to turn. If you find one false, say at which input.
  Laid BY PROGRAM, IN A SANDBOX (cutbox-rows.mjs): the forced cells as the released guide's own fill.sh prints them over the translation 8122bd2ff2b05881… (all of the seat's roots in one cut). By AI agents, Wed Nov 11 2026. No macro, syntax, notation, axiom, sorry.
-/
import Derived.Test.YtcahdnmkhoncaaaChecked
import GoSem.Claim
import GoSem.ClaimJoined
import GoSem.ClaimMapViews
import Derived.JoinedTies
import Derived.KernelRfl
namespace Go.Proofs.Ytcahdnmkhoncaaa
/- THE CELL 'sum', in the pinned program and in every row, IS THE sha256 OF THE DUMP (.gsa) THAT YtcahdnmkhoncaaaProg.lean LOADS. Nothing in Lean hashes anything: it is a label: what it is worth is what the hold of that sum in a sandbox is worth. -/
noncomputable def Try.pinned : Pinned := { name := "ytcahdnmkhoncaaa", sum := "8122bd2ff2b05881a8df86afae95b1f26ec8ac01e4604846ec5654c8401968d0", checked := Try.checked }
namespace Rows
def none {H : Type} : Left H := { results := [], args := [] }

/-- 'loftblocklaw39.SweepBoxes': WHATEVER THE INPUT: true; the input reads as it did. -/
def sweepBoxesSpec : ChangeSpec := { name := "sweepBoxes", fn := fun _ => fun
  | [d1, d2, d3] => { results := [.lit (.bool true)], args := [d1, d2, d3] }
  | _ => none }
def sweepBoxesRow : OpenClaim := { program := "ytcahdnmkhoncaaa", sum := "8122bd2ff2b05881a8df86afae95b1f26ec8ac01e4604846ec5654c8401968d0", func := "loftblock/loftblocklaw39.SweepBoxes", spec := "sweepBoxes", unfollowed := true, recurses := true, apart := false }
def SweepBoxesSaid : Prop := sweepBoxesRow.holds Try.pinned (OpenSpec.ofChange sweepBoxesSpec)

/-- ITS FALSE NEIGHBOUR: 'it returns false'. Refute it at one input. -/
def sweepBoxesWrong : ChangeSpec := { name := "sweepBoxes", fn := fun _ => fun
  | [d1, d2, d3] => { results := [.lit (.bool false)], args := [d1, d2, d3] }
  | _ => none }
def SweepBoxesWrongFalsely : Prop := sweepBoxesRow.holds Try.pinned (OpenSpec.ofChange sweepBoxesWrong)

/-- 'loftblocklaw39.SweepCells': WHATEVER THE INPUT: true; the input reads as it did. -/
def sweepCellsSpec : ChangeSpec := { name := "sweepCells", fn := fun _ => fun
  | [d1, d2, d3, d4] => { results := [.lit (.bool true)], args := [d1, d2, d3, d4] }
  | _ => none }
def sweepCellsRow : OpenClaim := { program := "ytcahdnmkhoncaaa", sum := "8122bd2ff2b05881a8df86afae95b1f26ec8ac01e4604846ec5654c8401968d0", func := "loftblock/loftblocklaw39.SweepCells", spec := "sweepCells", unfollowed := true, recurses := true, apart := false }
def SweepCellsSaid : Prop := sweepCellsRow.holds Try.pinned (OpenSpec.ofChange sweepCellsSpec)

/-- ITS FALSE NEIGHBOUR: 'it returns false'. Refute it at one input. -/
def sweepCellsWrong : ChangeSpec := { name := "sweepCells", fn := fun _ => fun
  | [d1, d2, d3, d4] => { results := [.lit (.bool false)], args := [d1, d2, d3, d4] }
  | _ => none }
def SweepCellsWrongFalsely : Prop := sweepCellsRow.holds Try.pinned (OpenSpec.ofChange sweepCellsWrong)

/-- 'loftblocklaw39.SweepMoves': WHATEVER THE INPUT: true; the input reads as it did. -/
def sweepMovesSpec : ChangeSpec := { name := "sweepMoves", fn := fun _ => fun
  | [d1, d2, d3, d4] => { results := [.lit (.bool true)], args := [d1, d2, d3, d4] }
  | _ => none }
def sweepMovesRow : OpenClaim := { program := "ytcahdnmkhoncaaa", sum := "8122bd2ff2b05881a8df86afae95b1f26ec8ac01e4604846ec5654c8401968d0", func := "loftblock/loftblocklaw39.SweepMoves", spec := "sweepMoves", unfollowed := true, recurses := true, apart := false }
def SweepMovesSaid : Prop := sweepMovesRow.holds Try.pinned (OpenSpec.ofChange sweepMovesSpec)

/-- ITS FALSE NEIGHBOUR: 'it returns false'. Refute it at one input. -/
def sweepMovesWrong : ChangeSpec := { name := "sweepMoves", fn := fun _ => fun
  | [d1, d2, d3, d4] => { results := [.lit (.bool false)], args := [d1, d2, d3, d4] }
  | _ => none }
def SweepMovesWrongFalsely : Prop := sweepMovesRow.holds Try.pinned (OpenSpec.ofChange sweepMovesWrong)

/-- 'loftblocklaw39.SweepFills': WHATEVER THE INPUT: true; the input reads as it did. -/
def sweepFillsSpec : ChangeSpec := { name := "sweepFills", fn := fun _ => fun
  | [d1, d2, d3, d4] => { results := [.lit (.bool true)], args := [d1, d2, d3, d4] }
  | _ => none }
def sweepFillsRow : OpenClaim := { program := "ytcahdnmkhoncaaa", sum := "8122bd2ff2b05881a8df86afae95b1f26ec8ac01e4604846ec5654c8401968d0", func := "loftblock/loftblocklaw39.SweepFills", spec := "sweepFills", unfollowed := true, recurses := true, apart := false }
def SweepFillsSaid : Prop := sweepFillsRow.holds Try.pinned (OpenSpec.ofChange sweepFillsSpec)

/-- ITS FALSE NEIGHBOUR: 'it returns false'. Refute it at one input. -/
def sweepFillsWrong : ChangeSpec := { name := "sweepFills", fn := fun _ => fun
  | [d1, d2, d3, d4] => { results := [.lit (.bool false)], args := [d1, d2, d3, d4] }
  | _ => none }
def SweepFillsWrongFalsely : Prop := sweepFillsRow.holds Try.pinned (OpenSpec.ofChange sweepFillsWrong)

/-- 'loftblocklaw39.SweepNears': WHATEVER THE INPUT: true; the input reads as it did. -/
def sweepNearsSpec : ChangeSpec := { name := "sweepNears", fn := fun _ => fun
  | [d1, d2, d3, d4] => { results := [.lit (.bool true)], args := [d1, d2, d3, d4] }
  | _ => none }
def sweepNearsRow : OpenClaim := { program := "ytcahdnmkhoncaaa", sum := "8122bd2ff2b05881a8df86afae95b1f26ec8ac01e4604846ec5654c8401968d0", func := "loftblock/loftblocklaw39.SweepNears", spec := "sweepNears", unfollowed := true, recurses := true, apart := false }
def SweepNearsSaid : Prop := sweepNearsRow.holds Try.pinned (OpenSpec.ofChange sweepNearsSpec)

/-- ITS FALSE NEIGHBOUR: 'it returns false'. Refute it at one input. -/
def sweepNearsWrong : ChangeSpec := { name := "sweepNears", fn := fun _ => fun
  | [d1, d2, d3, d4] => { results := [.lit (.bool false)], args := [d1, d2, d3, d4] }
  | _ => none }
def SweepNearsWrongFalsely : Prop := sweepNearsRow.holds Try.pinned (OpenSpec.ofChange sweepNearsWrong)

/-- 'loftblocklaw39.SweepGaps': WHATEVER THE INPUT: true; the input reads as it did. -/
def sweepGapsSpec : ChangeSpec := { name := "sweepGaps", fn := fun _ => fun
  | [d1, d2, d3, d4] => { results := [.lit (.bool true)], args := [d1, d2, d3, d4] }
  | _ => none }
def sweepGapsRow : OpenClaim := { program := "ytcahdnmkhoncaaa", sum := "8122bd2ff2b05881a8df86afae95b1f26ec8ac01e4604846ec5654c8401968d0", func := "loftblock/loftblocklaw39.SweepGaps", spec := "sweepGaps", unfollowed := true, recurses := true, apart := false }
def SweepGapsSaid : Prop := sweepGapsRow.holds Try.pinned (OpenSpec.ofChange sweepGapsSpec)

/-- ITS FALSE NEIGHBOUR: 'it returns false'. Refute it at one input. -/
def sweepGapsWrong : ChangeSpec := { name := "sweepGaps", fn := fun _ => fun
  | [d1, d2, d3, d4] => { results := [.lit (.bool false)], args := [d1, d2, d3, d4] }
  | _ => none }
def SweepGapsWrongFalsely : Prop := sweepGapsRow.holds Try.pinned (OpenSpec.ofChange sweepGapsWrong)

/- THE SECOND FORM. 'bulk': how many values and letters a reading holds, each counted each time it is reached (what is shared counts as often as it is met; a slice's spare places count too). A statement '..UptoSaid' is the law's where the arguments, and the package variables that the reading takes, are together of bulk at most 1048576: NARROWER than '..Said'. Prove '..Said' where nothing that the law and all that it calls make is longer than what came in: it says more and counts as full. Else prove '..UptoSaid'. A law counts once. -/
mutual
def uptoBulk {H : Type} : DataW H → Nat
  | .lit (.string bytes) => bytes.length + 1
  | .lit _ => 1
  | .nil => 1
  | .ptr d => uptoBulk d + 1
  | .slice elems spare => uptoBulkAll elems + uptoBulkAll spare + 1
  | .agg parts => uptoBulkAll parts + 1
  | .iface _ d => uptoBulk d + 1
  | .map entries => uptoBulkEntries entries + 1
  | .held _ => 1
def uptoBulkAll {H : Type} : List (DataW H) → Nat
  | [] => 0
  | d :: r => uptoBulk d + uptoBulkAll r
def uptoBulkEntries {H : Type} : List (Lit × DataW H) → Nat
  | [] => 0
  | x :: r => uptoBulkEntry x + uptoBulkEntries r
def uptoBulkEntry {H : Type} : Lit × DataW H → Nat
  | (.string bytes, d) => bytes.length + uptoBulk d + 1
  | (_, d) => uptoBulk d + 1
 end
def uptoSmall : (H : Type) → List (DataW H) → Bool := fun _ ds => decide (uptoBulkAll ds ≤ 1048576)
def OpenSpec.upto (s : _root_.Go.ChangeSpec) : _root_.Go.OpenSpec := { _root_.Go.OpenSpec.ofChange s with cond := some uptoSmall }

/-- 'loftblocklaw39.SweepBoxes', WHERE WHAT IT READS IS OF BULK AT MOST 1048576: true; the input reads as it did. -/
def sweepBoxesUptoRow : OpenClaim := { program := "ytcahdnmkhoncaaa", sum := "8122bd2ff2b05881a8df86afae95b1f26ec8ac01e4604846ec5654c8401968d0", func := "loftblock/loftblocklaw39.SweepBoxes", spec := "sweepBoxes", unfollowed := true, recurses := true, apart := false, narrowed := true }
def SweepBoxesUptoSaid : Prop := sweepBoxesUptoRow.holds Try.pinned (OpenSpec.upto sweepBoxesSpec)

/-- 'loftblocklaw39.SweepCells', WHERE WHAT IT READS IS OF BULK AT MOST 1048576: true; the input reads as it did. -/
def sweepCellsUptoRow : OpenClaim := { program := "ytcahdnmkhoncaaa", sum := "8122bd2ff2b05881a8df86afae95b1f26ec8ac01e4604846ec5654c8401968d0", func := "loftblock/loftblocklaw39.SweepCells", spec := "sweepCells", unfollowed := true, recurses := true, apart := false, narrowed := true }
def SweepCellsUptoSaid : Prop := sweepCellsUptoRow.holds Try.pinned (OpenSpec.upto sweepCellsSpec)

/-- 'loftblocklaw39.SweepMoves', WHERE WHAT IT READS IS OF BULK AT MOST 1048576: true; the input reads as it did. -/
def sweepMovesUptoRow : OpenClaim := { program := "ytcahdnmkhoncaaa", sum := "8122bd2ff2b05881a8df86afae95b1f26ec8ac01e4604846ec5654c8401968d0", func := "loftblock/loftblocklaw39.SweepMoves", spec := "sweepMoves", unfollowed := true, recurses := true, apart := false, narrowed := true }
def SweepMovesUptoSaid : Prop := sweepMovesUptoRow.holds Try.pinned (OpenSpec.upto sweepMovesSpec)

/-- 'loftblocklaw39.SweepFills', WHERE WHAT IT READS IS OF BULK AT MOST 1048576: true; the input reads as it did. -/
def sweepFillsUptoRow : OpenClaim := { program := "ytcahdnmkhoncaaa", sum := "8122bd2ff2b05881a8df86afae95b1f26ec8ac01e4604846ec5654c8401968d0", func := "loftblock/loftblocklaw39.SweepFills", spec := "sweepFills", unfollowed := true, recurses := true, apart := false, narrowed := true }
def SweepFillsUptoSaid : Prop := sweepFillsUptoRow.holds Try.pinned (OpenSpec.upto sweepFillsSpec)

/-- 'loftblocklaw39.SweepNears', WHERE WHAT IT READS IS OF BULK AT MOST 1048576: true; the input reads as it did. -/
def sweepNearsUptoRow : OpenClaim := { program := "ytcahdnmkhoncaaa", sum := "8122bd2ff2b05881a8df86afae95b1f26ec8ac01e4604846ec5654c8401968d0", func := "loftblock/loftblocklaw39.SweepNears", spec := "sweepNears", unfollowed := true, recurses := true, apart := false, narrowed := true }
def SweepNearsUptoSaid : Prop := sweepNearsUptoRow.holds Try.pinned (OpenSpec.upto sweepNearsSpec)

/-- 'loftblocklaw39.SweepGaps', WHERE WHAT IT READS IS OF BULK AT MOST 1048576: true; the input reads as it did. -/
def sweepGapsUptoRow : OpenClaim := { program := "ytcahdnmkhoncaaa", sum := "8122bd2ff2b05881a8df86afae95b1f26ec8ac01e4604846ec5654c8401968d0", func := "loftblock/loftblocklaw39.SweepGaps", spec := "sweepGaps", unfollowed := true, recurses := true, apart := false, narrowed := true }
def SweepGapsUptoSaid : Prop := sweepGapsUptoRow.holds Try.pinned (OpenSpec.upto sweepGapsSpec)

end Rows
end Go.Proofs.Ytcahdnmkhoncaaa
