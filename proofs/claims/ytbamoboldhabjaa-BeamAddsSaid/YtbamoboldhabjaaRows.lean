/-
  No cell of these rows narrows 'for every input' (looked for: loops, veiled, ifaces, maps, wideKeys, modest, calm, conditions, laid).
  DERIVED. THE GIVEN ROWS OF THIS SEAT. 7 by the template 'for every input the law returns true; each argument reads behind the call as it read before'; 0 by the template 'total and deterministic' (their statements: YtbamoboldhabjaaTotals.lean).
  GIVEN WITH THE SEED: the statements are not yours to turn. If you find one false, say at which input.
  Laid BY PROGRAM, IN A SANDBOX (cutbox-rows.mjs): the forced cells as the released guide's own fill.sh prints them over the translation 9176099463b437e4… (all of the seat's roots in one cut). By AI agents, Wed Nov 11 2026. No macro, syntax, notation, axiom, sorry.
-/
import Derived.Test.YtbamoboldhabjaaChecked
import GoSem.Claim
import GoSem.ClaimJoined
import GoSem.ClaimMapViews
import Derived.JoinedTies
import Derived.KernelRfl
namespace Go.Proofs.Ytbamoboldhabjaa
/- THE CELL 'sum', in the pinned program and in every row, IS THE sha256 OF THE DUMP (.gsa) THAT YtbamoboldhabjaaProg.lean LOADS. Nothing in Lean hashes anything: it is a label: what it is worth is what the hold of that sum in a sandbox is worth. -/
noncomputable def Try.pinned : Pinned := { name := "ytbamoboldhabjaa", sum := "9176099463b437e4c6aaf59b69cc98b9662223915407af32063a0ef853e2f3bb", checked := Try.checked }
namespace Rows
def none {H : Type} : Left H := { results := [], args := [] }

/-- 'loftblocklaw20.BeamReactions': WHATEVER THE INPUT: true; the input reads as it did. -/
def beamReactionsSpec : ChangeSpec := { name := "beamReactions", fn := fun _ => fun
  | [d] => { results := [.lit (.bool true)], args := [d] }
  | _ => none }
def beamReactionsRow : OpenClaim := { program := "ytbamoboldhabjaa", sum := "9176099463b437e4c6aaf59b69cc98b9662223915407af32063a0ef853e2f3bb", func := "loftblock/loftblocklaw20.BeamReactions", spec := "beamReactions", unfollowed := true, recurses := true, apart := false }
def BeamReactionsSaid : Prop := beamReactionsRow.holds Try.pinned (OpenSpec.ofChange beamReactionsSpec)

/-- ITS FALSE NEIGHBOUR: 'it returns false'. Refute it at one input. -/
def beamReactionsWrong : ChangeSpec := { name := "beamReactions", fn := fun _ => fun
  | [d] => { results := [.lit (.bool false)], args := [d] }
  | _ => none }
def BeamReactionsWrongFalsely : Prop := beamReactionsRow.holds Try.pinned (OpenSpec.ofChange beamReactionsWrong)

/-- 'loftblocklaw20.BeamChecks': WHATEVER THE INPUT: true; the input reads as it did. -/
def beamChecksSpec : ChangeSpec := { name := "beamChecks", fn := fun _ => fun
  | [d1, d2] => { results := [.lit (.bool true)], args := [d1, d2] }
  | _ => none }
def beamChecksRow : OpenClaim := { program := "ytbamoboldhabjaa", sum := "9176099463b437e4c6aaf59b69cc98b9662223915407af32063a0ef853e2f3bb", func := "loftblock/loftblocklaw20.BeamChecks", spec := "beamChecks", unfollowed := true, recurses := true, apart := false }
def BeamChecksSaid : Prop := beamChecksRow.holds Try.pinned (OpenSpec.ofChange beamChecksSpec)

/-- ITS FALSE NEIGHBOUR: 'it returns false'. Refute it at one input. -/
def beamChecksWrong : ChangeSpec := { name := "beamChecks", fn := fun _ => fun
  | [d1, d2] => { results := [.lit (.bool false)], args := [d1, d2] }
  | _ => none }
def BeamChecksWrongFalsely : Prop := beamChecksRow.holds Try.pinned (OpenSpec.ofChange beamChecksWrong)

/-- 'loftblocklaw20.BeamTurns': WHATEVER THE INPUT: true; the input reads as it did. -/
def beamTurnsSpec : ChangeSpec := { name := "beamTurns", fn := fun _ => fun
  | [d1, d2] => { results := [.lit (.bool true)], args := [d1, d2] }
  | _ => none }
def beamTurnsRow : OpenClaim := { program := "ytbamoboldhabjaa", sum := "9176099463b437e4c6aaf59b69cc98b9662223915407af32063a0ef853e2f3bb", func := "loftblock/loftblocklaw20.BeamTurns", spec := "beamTurns", unfollowed := true, recurses := true, apart := false }
def BeamTurnsSaid : Prop := beamTurnsRow.holds Try.pinned (OpenSpec.ofChange beamTurnsSpec)

/-- ITS FALSE NEIGHBOUR: 'it returns false'. Refute it at one input. -/
def beamTurnsWrong : ChangeSpec := { name := "beamTurns", fn := fun _ => fun
  | [d1, d2] => { results := [.lit (.bool false)], args := [d1, d2] }
  | _ => none }
def BeamTurnsWrongFalsely : Prop := beamTurnsRow.holds Try.pinned (OpenSpec.ofChange beamTurnsWrong)

/-- 'loftblocklaw20.BeamSections': WHATEVER THE INPUT: true; the input reads as it did. -/
def beamSectionsSpec : ChangeSpec := { name := "beamSections", fn := fun _ => fun
  | [d1, d2] => { results := [.lit (.bool true)], args := [d1, d2] }
  | _ => none }
def beamSectionsRow : OpenClaim := { program := "ytbamoboldhabjaa", sum := "9176099463b437e4c6aaf59b69cc98b9662223915407af32063a0ef853e2f3bb", func := "loftblock/loftblocklaw20.BeamSections", spec := "beamSections", unfollowed := true, recurses := true, apart := false }
def BeamSectionsSaid : Prop := beamSectionsRow.holds Try.pinned (OpenSpec.ofChange beamSectionsSpec)

/-- ITS FALSE NEIGHBOUR: 'it returns false'. Refute it at one input. -/
def beamSectionsWrong : ChangeSpec := { name := "beamSections", fn := fun _ => fun
  | [d1, d2] => { results := [.lit (.bool false)], args := [d1, d2] }
  | _ => none }
def BeamSectionsWrongFalsely : Prop := beamSectionsRow.holds Try.pinned (OpenSpec.ofChange beamSectionsWrong)

/-- 'loftblocklaw20.BeamAdds': WHATEVER THE INPUT: true; the input reads as it did. -/
def beamAddsSpec : ChangeSpec := { name := "beamAdds", fn := fun _ => fun
  | [d1, d2, d3] => { results := [.lit (.bool true)], args := [d1, d2, d3] }
  | _ => none }
def beamAddsRow : OpenClaim := { program := "ytbamoboldhabjaa", sum := "9176099463b437e4c6aaf59b69cc98b9662223915407af32063a0ef853e2f3bb", func := "loftblock/loftblocklaw20.BeamAdds", spec := "beamAdds", inPlace := ["math/bits.Add64", "math/bits.Sub64"], unfollowed := true, recurses := true, named := ["math/bits.divideError", "math/bits.overflowError"], apart := false }
def BeamAddsSaid : Prop := beamAddsRow.holds Try.pinned (OpenSpec.ofChange beamAddsSpec)

/-- ITS FALSE NEIGHBOUR: 'it returns false'. Refute it at one input. -/
def beamAddsWrong : ChangeSpec := { name := "beamAdds", fn := fun _ => fun
  | [d1, d2, d3] => { results := [.lit (.bool false)], args := [d1, d2, d3] }
  | _ => none }
def BeamAddsWrongFalsely : Prop := beamAddsRow.holds Try.pinned (OpenSpec.ofChange beamAddsWrong)

/-- 'loftblocklaw20.BeamSupported': WHATEVER THE INPUT: true; the input reads as it did. -/
def beamSupportedSpec : ChangeSpec := { name := "beamSupported", fn := fun _ => fun
  | [d1, d2, d3] => { results := [.lit (.bool true)], args := [d1, d2, d3] }
  | _ => none }
def beamSupportedRow : OpenClaim := { program := "ytbamoboldhabjaa", sum := "9176099463b437e4c6aaf59b69cc98b9662223915407af32063a0ef853e2f3bb", func := "loftblock/loftblocklaw20.BeamSupported", spec := "beamSupported", inPlace := ["math/bits.Add64", "math/bits.Sub64"], unfollowed := true, recurses := true, named := ["math/bits.divideError", "math/bits.overflowError"], apart := false }
def BeamSupportedSaid : Prop := beamSupportedRow.holds Try.pinned (OpenSpec.ofChange beamSupportedSpec)

/-- ITS FALSE NEIGHBOUR: 'it returns false'. Refute it at one input. -/
def beamSupportedWrong : ChangeSpec := { name := "beamSupported", fn := fun _ => fun
  | [d1, d2, d3] => { results := [.lit (.bool false)], args := [d1, d2, d3] }
  | _ => none }
def BeamSupportedWrongFalsely : Prop := beamSupportedRow.holds Try.pinned (OpenSpec.ofChange beamSupportedWrong)

/-- 'loftblocklaw20.BeamHolds': WHATEVER THE INPUT: true; the input reads as it did. -/
def beamHoldsSpec : ChangeSpec := { name := "beamHolds", fn := fun _ => fun
  | [d] => { results := [.lit (.bool true)], args := [d] }
  | _ => none }
def beamHoldsRow : OpenClaim := { program := "ytbamoboldhabjaa", sum := "9176099463b437e4c6aaf59b69cc98b9662223915407af32063a0ef853e2f3bb", func := "loftblock/loftblocklaw20.BeamHolds", spec := "beamHolds", inPlace := ["math/bits.Add64", "math/bits.Sub64"], unfollowed := true, recurses := true, named := ["math/bits.divideError", "math/bits.overflowError"], apart := false }
def BeamHoldsSaid : Prop := beamHoldsRow.holds Try.pinned (OpenSpec.ofChange beamHoldsSpec)

/-- ITS FALSE NEIGHBOUR: 'it returns false'. Refute it at one input. -/
def beamHoldsWrong : ChangeSpec := { name := "beamHolds", fn := fun _ => fun
  | [d] => { results := [.lit (.bool false)], args := [d] }
  | _ => none }
def BeamHoldsWrongFalsely : Prop := beamHoldsRow.holds Try.pinned (OpenSpec.ofChange beamHoldsWrong)

/- THE SECOND FORM. 'bulk': how many values and letters a reading holds, each counted each time it is reached (what is shared counts as often as it is met; a slice's spare places count too). A statement '..UptoSaid' is the law's where the arguments, and the package variables that the reading takes, are together of bulk at most 1048576: NARROWER than '..Said'. Prove '..Said' where nothing that the law and all that it calls make is longer than what came in: it says more and counts as full. Else prove '..UptoSaid'. A law counts once. -/
mutual
def uptoBulk {H : Type} : DataW H → Nat
  | .lit (.string bytes) => bytes.length + 1
  | .lit _ => 1
  | .nil => 1
  | .ptr d => uptoBulk d + 1
  | .slice elems spare => uptoBulkAll elems + uptoBulkAll spare + 1
  | .agg parts => uptoBulkAll parts + 1
  | .iface _ d => uptoBulk d + 1
  | .map entries => uptoBulkEntries entries + 1
  | .held _ => 1
def uptoBulkAll {H : Type} : List (DataW H) → Nat
  | [] => 0
  | d :: r => uptoBulk d + uptoBulkAll r
def uptoBulkEntries {H : Type} : List (Lit × DataW H) → Nat
  | [] => 0
  | x :: r => uptoBulkEntry x + uptoBulkEntries r
def uptoBulkEntry {H : Type} : Lit × DataW H → Nat
  | (.string bytes, d) => bytes.length + uptoBulk d + 1
  | (_, d) => uptoBulk d + 1
 end
def uptoSmall : (H : Type) → List (DataW H) → Bool := fun _ ds => decide (uptoBulkAll ds ≤ 1048576)
def OpenSpec.upto (s : _root_.Go.ChangeSpec) : _root_.Go.OpenSpec := { _root_.Go.OpenSpec.ofChange s with cond := some uptoSmall }

/-- 'loftblocklaw20.BeamReactions', WHERE WHAT IT READS IS OF BULK AT MOST 1048576: true; the input reads as it did. -/
def beamReactionsUptoRow : OpenClaim := { program := "ytbamoboldhabjaa", sum := "9176099463b437e4c6aaf59b69cc98b9662223915407af32063a0ef853e2f3bb", func := "loftblock/loftblocklaw20.BeamReactions", spec := "beamReactions", unfollowed := true, recurses := true, apart := false, narrowed := true }
def BeamReactionsUptoSaid : Prop := beamReactionsUptoRow.holds Try.pinned (OpenSpec.upto beamReactionsSpec)

/-- 'loftblocklaw20.BeamChecks', WHERE WHAT IT READS IS OF BULK AT MOST 1048576: true; the input reads as it did. -/
def beamChecksUptoRow : OpenClaim := { program := "ytbamoboldhabjaa", sum := "9176099463b437e4c6aaf59b69cc98b9662223915407af32063a0ef853e2f3bb", func := "loftblock/loftblocklaw20.BeamChecks", spec := "beamChecks", unfollowed := true, recurses := true, apart := false, narrowed := true }
def BeamChecksUptoSaid : Prop := beamChecksUptoRow.holds Try.pinned (OpenSpec.upto beamChecksSpec)

/-- 'loftblocklaw20.BeamTurns', WHERE WHAT IT READS IS OF BULK AT MOST 1048576: true; the input reads as it did. -/
def beamTurnsUptoRow : OpenClaim := { program := "ytbamoboldhabjaa", sum := "9176099463b437e4c6aaf59b69cc98b9662223915407af32063a0ef853e2f3bb", func := "loftblock/loftblocklaw20.BeamTurns", spec := "beamTurns", unfollowed := true, recurses := true, apart := false, narrowed := true }
def BeamTurnsUptoSaid : Prop := beamTurnsUptoRow.holds Try.pinned (OpenSpec.upto beamTurnsSpec)

/-- 'loftblocklaw20.BeamSections', WHERE WHAT IT READS IS OF BULK AT MOST 1048576: true; the input reads as it did. -/
def beamSectionsUptoRow : OpenClaim := { program := "ytbamoboldhabjaa", sum := "9176099463b437e4c6aaf59b69cc98b9662223915407af32063a0ef853e2f3bb", func := "loftblock/loftblocklaw20.BeamSections", spec := "beamSections", unfollowed := true, recurses := true, apart := false, narrowed := true }
def BeamSectionsUptoSaid : Prop := beamSectionsUptoRow.holds Try.pinned (OpenSpec.upto beamSectionsSpec)

/-- 'loftblocklaw20.BeamAdds', WHERE WHAT IT READS IS OF BULK AT MOST 1048576: true; the input reads as it did. -/
def beamAddsUptoRow : OpenClaim := { program := "ytbamoboldhabjaa", sum := "9176099463b437e4c6aaf59b69cc98b9662223915407af32063a0ef853e2f3bb", func := "loftblock/loftblocklaw20.BeamAdds", spec := "beamAdds", inPlace := ["math/bits.Add64", "math/bits.Sub64"], unfollowed := true, recurses := true, named := ["math/bits.divideError", "math/bits.overflowError"], apart := false, narrowed := true }
def BeamAddsUptoSaid : Prop := beamAddsUptoRow.holds Try.pinned (OpenSpec.upto beamAddsSpec)

/-- 'loftblocklaw20.BeamSupported', WHERE WHAT IT READS IS OF BULK AT MOST 1048576: true; the input reads as it did. -/
def beamSupportedUptoRow : OpenClaim := { program := "ytbamoboldhabjaa", sum := "9176099463b437e4c6aaf59b69cc98b9662223915407af32063a0ef853e2f3bb", func := "loftblock/loftblocklaw20.BeamSupported", spec := "beamSupported", inPlace := ["math/bits.Add64", "math/bits.Sub64"], unfollowed := true, recurses := true, named := ["math/bits.divideError", "math/bits.overflowError"], apart := false, narrowed := true }
def BeamSupportedUptoSaid : Prop := beamSupportedUptoRow.holds Try.pinned (OpenSpec.upto beamSupportedSpec)

/-- 'loftblocklaw20.BeamHolds', WHERE WHAT IT READS IS OF BULK AT MOST 1048576: true; the input reads as it did. -/
def beamHoldsUptoRow : OpenClaim := { program := "ytbamoboldhabjaa", sum := "9176099463b437e4c6aaf59b69cc98b9662223915407af32063a0ef853e2f3bb", func := "loftblock/loftblocklaw20.BeamHolds", spec := "beamHolds", inPlace := ["math/bits.Add64", "math/bits.Sub64"], unfollowed := true, recurses := true, named := ["math/bits.divideError", "math/bits.overflowError"], apart := false, narrowed := true }
def BeamHoldsUptoSaid : Prop := beamHoldsUptoRow.holds Try.pinned (OpenSpec.upto beamHoldsSpec)

end Rows
end Go.Proofs.Ytbamoboldhabjaa
