/-
  No cell of these rows narrows 'for every input' (looked for: loops, veiled, ifaces, maps, wideKeys, modest, calm, conditions, laid).
  DERIVED. THE GIVEN ROWS OF THIS SEAT. 7 by the template 'for every input the law returns true; each argument reads behind the call as it read before'; 0 by the template 'total and deterministic' (their statements: YtkphcdficpfcnaaTotals.lean).
  GIVEN WITH THE SEED: the statements are not yours to turn. If you find one false, say at which input.
  Laid BY PROGRAM, IN A SANDBOX (cutbox-rows.mjs): the forced cells as the released guide's own fill.sh prints them over the translation cfa14b8de1d6a92c… (all of the seat's roots in one cut). By AI agents, Wed Nov 11 2026. No macro, syntax, notation, axiom, sorry.
-/
import Derived.Test.YtkphcdficpfcnaaChecked
import GoSem.Claim
import GoSem.ClaimJoined
import GoSem.ClaimMapViews
import Derived.JoinedTies
import Derived.KernelRfl
namespace Go.Proofs.Ytkphcdficpfcnaa
/- THE CELL 'sum', in the pinned program and in every row, IS THE sha256 OF THE DUMP (.gsa) THAT YtkphcdficpfcnaaProg.lean LOADS. Nothing in Lean hashes anything: it is a label: what it is worth is what the hold of that sum in a sandbox is worth. -/
noncomputable def Try.pinned : Pinned := { name := "ytkphcdficpfcnaa", sum := "cfa14b8de1d6a92c1146b94693a49e1bbdbeee0768fb2512b8fdc232c536526a", checked := Try.checked }
namespace Rows
def none {H : Type} : Left H := { results := [], args := [] }

/-- 'loftblocklaw17.ElasticSlack': WHATEVER THE INPUT: true; the input reads as it did. -/
def elasticSlackSpec : ChangeSpec := { name := "elasticSlack", fn := fun _ => fun
  | [d1, d2, d3] => { results := [.lit (.bool true)], args := [d1, d2, d3] }
  | _ => none }
def elasticSlackRow : OpenClaim := { program := "ytkphcdficpfcnaa", sum := "cfa14b8de1d6a92c1146b94693a49e1bbdbeee0768fb2512b8fdc232c536526a", func := "loftblock/loftblocklaw17.ElasticSlack", spec := "elasticSlack", inPlace := ["math/bits.Add64", "math/bits.Sub64"], unfollowed := true, recurses := true, named := ["math/bits.divideError", "math/bits.overflowError"], apart := false }
def ElasticSlackSaid : Prop := elasticSlackRow.holds Try.pinned (OpenSpec.ofChange elasticSlackSpec)

/-- ITS FALSE NEIGHBOUR: 'it returns false'. Refute it at one input. -/
def elasticSlackWrong : ChangeSpec := { name := "elasticSlack", fn := fun _ => fun
  | [d1, d2, d3] => { results := [.lit (.bool false)], args := [d1, d2, d3] }
  | _ => none }
def ElasticSlackWrongFalsely : Prop := elasticSlackRow.holds Try.pinned (OpenSpec.ofChange elasticSlackWrong)

/-- 'loftblocklaw17.ElasticShares': WHATEVER THE INPUT: true; the input reads as it did. -/
def elasticSharesSpec : ChangeSpec := { name := "elasticShares", fn := fun _ => fun
  | [d1, d2] => { results := [.lit (.bool true)], args := [d1, d2] }
  | _ => none }
def elasticSharesRow : OpenClaim := { program := "ytkphcdficpfcnaa", sum := "cfa14b8de1d6a92c1146b94693a49e1bbdbeee0768fb2512b8fdc232c536526a", func := "loftblock/loftblocklaw17.ElasticShares", spec := "elasticShares", inPlace := ["math/bits.Add64", "math/bits.Sub64"], unfollowed := true, recurses := true, named := ["math/bits.divideError", "math/bits.overflowError"], apart := false }
def ElasticSharesSaid : Prop := elasticSharesRow.holds Try.pinned (OpenSpec.ofChange elasticSharesSpec)

/-- ITS FALSE NEIGHBOUR: 'it returns false'. Refute it at one input. -/
def elasticSharesWrong : ChangeSpec := { name := "elasticShares", fn := fun _ => fun
  | [d1, d2] => { results := [.lit (.bool false)], args := [d1, d2] }
  | _ => none }
def ElasticSharesWrongFalsely : Prop := elasticSharesRow.holds Try.pinned (OpenSpec.ofChange elasticSharesWrong)

/-- 'loftblocklaw17.ElasticLeast': WHATEVER THE INPUT: true; the input reads as it did. -/
def elasticLeastSpec : ChangeSpec := { name := "elasticLeast", fn := fun _ => fun
  | [d1, d2, d3, d4, d5] => { results := [.lit (.bool true)], args := [d1, d2, d3, d4, d5] }
  | _ => none }
def elasticLeastRow : OpenClaim := { program := "ytkphcdficpfcnaa", sum := "cfa14b8de1d6a92c1146b94693a49e1bbdbeee0768fb2512b8fdc232c536526a", func := "loftblock/loftblocklaw17.ElasticLeast", spec := "elasticLeast", inPlace := ["math/bits.Add64", "math/bits.Sub64"], unfollowed := true, recurses := true, named := ["math/bits.divideError", "math/bits.overflowError"], apart := false }
def ElasticLeastSaid : Prop := elasticLeastRow.holds Try.pinned (OpenSpec.ofChange elasticLeastSpec)

/-- ITS FALSE NEIGHBOUR: 'it returns false'. Refute it at one input. -/
def elasticLeastWrong : ChangeSpec := { name := "elasticLeast", fn := fun _ => fun
  | [d1, d2, d3, d4, d5] => { results := [.lit (.bool false)], args := [d1, d2, d3, d4, d5] }
  | _ => none }
def ElasticLeastWrongFalsely : Prop := elasticLeastRow.holds Try.pinned (OpenSpec.ofChange elasticLeastWrong)

/-- 'loftblocklaw17.ElasticBears': WHATEVER THE INPUT: true; the input reads as it did. -/
def elasticBearsSpec : ChangeSpec := { name := "elasticBears", fn := fun _ => fun
  | [d1, d2, d3] => { results := [.lit (.bool true)], args := [d1, d2, d3] }
  | _ => none }
def elasticBearsRow : OpenClaim := { program := "ytkphcdficpfcnaa", sum := "cfa14b8de1d6a92c1146b94693a49e1bbdbeee0768fb2512b8fdc232c536526a", func := "loftblock/loftblocklaw17.ElasticBears", spec := "elasticBears", inPlace := ["math/bits.Add64", "math/bits.Sub64"], unfollowed := true, recurses := true, named := ["math/bits.divideError", "math/bits.overflowError"], apart := false }
def ElasticBearsSaid : Prop := elasticBearsRow.holds Try.pinned (OpenSpec.ofChange elasticBearsSpec)

/-- ITS FALSE NEIGHBOUR: 'it returns false'. Refute it at one input. -/
def elasticBearsWrong : ChangeSpec := { name := "elasticBears", fn := fun _ => fun
  | [d1, d2, d3] => { results := [.lit (.bool false)], args := [d1, d2, d3] }
  | _ => none }
def ElasticBearsWrongFalsely : Prop := elasticBearsRow.holds Try.pinned (OpenSpec.ofChange elasticBearsWrong)

/-- 'loftblocklaw17.ElasticStiffer': WHATEVER THE INPUT: true; the input reads as it did. -/
def elasticStifferSpec : ChangeSpec := { name := "elasticStiffer", fn := fun _ => fun
  | [d1, d2, d3, d4, d5] => { results := [.lit (.bool true)], args := [d1, d2, d3, d4, d5] }
  | _ => none }
def elasticStifferRow : OpenClaim := { program := "ytkphcdficpfcnaa", sum := "cfa14b8de1d6a92c1146b94693a49e1bbdbeee0768fb2512b8fdc232c536526a", func := "loftblock/loftblocklaw17.ElasticStiffer", spec := "elasticStiffer", inPlace := ["math/bits.Add64", "math/bits.Sub64"], unfollowed := true, recurses := true, named := ["math/bits.divideError", "math/bits.overflowError"], apart := false }
def ElasticStifferSaid : Prop := elasticStifferRow.holds Try.pinned (OpenSpec.ofChange elasticStifferSpec)

/-- ITS FALSE NEIGHBOUR: 'it returns false'. Refute it at one input. -/
def elasticStifferWrong : ChangeSpec := { name := "elasticStiffer", fn := fun _ => fun
  | [d1, d2, d3, d4, d5] => { results := [.lit (.bool false)], args := [d1, d2, d3, d4, d5] }
  | _ => none }
def ElasticStifferWrongFalsely : Prop := elasticStifferRow.holds Try.pinned (OpenSpec.ofChange elasticStifferWrong)

/-- 'loftblocklaw17.ElasticSeries': WHATEVER THE INPUT: true; the input reads as it did. -/
def elasticSeriesSpec : ChangeSpec := { name := "elasticSeries", fn := fun _ => fun
  | [d1, d2] => { results := [.lit (.bool true)], args := [d1, d2] }
  | _ => none }
def elasticSeriesRow : OpenClaim := { program := "ytkphcdficpfcnaa", sum := "cfa14b8de1d6a92c1146b94693a49e1bbdbeee0768fb2512b8fdc232c536526a", func := "loftblock/loftblocklaw17.ElasticSeries", spec := "elasticSeries", inPlace := ["math/bits.Add64", "math/bits.Sub64"], unfollowed := true, recurses := true, named := ["math/bits.divideError", "math/bits.overflowError"], apart := false }
def ElasticSeriesSaid : Prop := elasticSeriesRow.holds Try.pinned (OpenSpec.ofChange elasticSeriesSpec)

/-- ITS FALSE NEIGHBOUR: 'it returns false'. Refute it at one input. -/
def elasticSeriesWrong : ChangeSpec := { name := "elasticSeries", fn := fun _ => fun
  | [d1, d2] => { results := [.lit (.bool false)], args := [d1, d2] }
  | _ => none }
def ElasticSeriesWrongFalsely : Prop := elasticSeriesRow.holds Try.pinned (OpenSpec.ofChange elasticSeriesWrong)

/-- 'loftblocklaw17.ElasticGaps': WHATEVER THE INPUT: true; the input reads as it did. -/
def elasticGapsSpec : ChangeSpec := { name := "elasticGaps", fn := fun _ => fun
  | [d1, d2, d3, d4] => { results := [.lit (.bool true)], args := [d1, d2, d3, d4] }
  | _ => none }
def elasticGapsRow : OpenClaim := { program := "ytkphcdficpfcnaa", sum := "cfa14b8de1d6a92c1146b94693a49e1bbdbeee0768fb2512b8fdc232c536526a", func := "loftblock/loftblocklaw17.ElasticGaps", spec := "elasticGaps", inPlace := ["math/bits.Add64", "math/bits.Sub64"], unfollowed := true, recurses := true, named := ["math/bits.divideError", "math/bits.overflowError"], apart := false }
def ElasticGapsSaid : Prop := elasticGapsRow.holds Try.pinned (OpenSpec.ofChange elasticGapsSpec)

/-- ITS FALSE NEIGHBOUR: 'it returns false'. Refute it at one input. -/
def elasticGapsWrong : ChangeSpec := { name := "elasticGaps", fn := fun _ => fun
  | [d1, d2, d3, d4] => { results := [.lit (.bool false)], args := [d1, d2, d3, d4] }
  | _ => none }
def ElasticGapsWrongFalsely : Prop := elasticGapsRow.holds Try.pinned (OpenSpec.ofChange elasticGapsWrong)

/- THE SECOND FORM. 'bulk': how many values and letters a reading holds, each counted each time it is reached (what is shared counts as often as it is met; a slice's spare places count too). A statement '..UptoSaid' is the law's where the arguments, and the package variables that the reading takes, are together of bulk at most 1048576: NARROWER than '..Said'. Prove '..Said' where nothing that the law and all that it calls make is longer than what came in: it says more and counts as full. Else prove '..UptoSaid'. A law counts once. -/
mutual
def uptoBulk {H : Type} : DataW H → Nat
  | .lit (.string bytes) => bytes.length + 1
  | .lit _ => 1
  | .nil => 1
  | .ptr d => uptoBulk d + 1
  | .slice elems spare => uptoBulkAll elems + uptoBulkAll spare + 1
  | .agg parts => uptoBulkAll parts + 1
  | .iface _ d => uptoBulk d + 1
  | .map entries => uptoBulkEntries entries + 1
  | .held _ => 1
def uptoBulkAll {H : Type} : List (DataW H) → Nat
  | [] => 0
  | d :: r => uptoBulk d + uptoBulkAll r
def uptoBulkEntries {H : Type} : List (Lit × DataW H) → Nat
  | [] => 0
  | x :: r => uptoBulkEntry x + uptoBulkEntries r
def uptoBulkEntry {H : Type} : Lit × DataW H → Nat
  | (.string bytes, d) => bytes.length + uptoBulk d + 1
  | (_, d) => uptoBulk d + 1
 end
def uptoSmall : (H : Type) → List (DataW H) → Bool := fun _ ds => decide (uptoBulkAll ds ≤ 1048576)
def OpenSpec.upto (s : _root_.Go.ChangeSpec) : _root_.Go.OpenSpec := { _root_.Go.OpenSpec.ofChange s with cond := some uptoSmall }

/-- 'loftblocklaw17.ElasticSlack', WHERE WHAT IT READS IS OF BULK AT MOST 1048576: true; the input reads as it did. -/
def elasticSlackUptoRow : OpenClaim := { program := "ytkphcdficpfcnaa", sum := "cfa14b8de1d6a92c1146b94693a49e1bbdbeee0768fb2512b8fdc232c536526a", func := "loftblock/loftblocklaw17.ElasticSlack", spec := "elasticSlack", inPlace := ["math/bits.Add64", "math/bits.Sub64"], unfollowed := true, recurses := true, named := ["math/bits.divideError", "math/bits.overflowError"], apart := false, narrowed := true }
def ElasticSlackUptoSaid : Prop := elasticSlackUptoRow.holds Try.pinned (OpenSpec.upto elasticSlackSpec)

/-- 'loftblocklaw17.ElasticShares', WHERE WHAT IT READS IS OF BULK AT MOST 1048576: true; the input reads as it did. -/
def elasticSharesUptoRow : OpenClaim := { program := "ytkphcdficpfcnaa", sum := "cfa14b8de1d6a92c1146b94693a49e1bbdbeee0768fb2512b8fdc232c536526a", func := "loftblock/loftblocklaw17.ElasticShares", spec := "elasticShares", inPlace := ["math/bits.Add64", "math/bits.Sub64"], unfollowed := true, recurses := true, named := ["math/bits.divideError", "math/bits.overflowError"], apart := false, narrowed := true }
def ElasticSharesUptoSaid : Prop := elasticSharesUptoRow.holds Try.pinned (OpenSpec.upto elasticSharesSpec)

/-- 'loftblocklaw17.ElasticLeast', WHERE WHAT IT READS IS OF BULK AT MOST 1048576: true; the input reads as it did. -/
def elasticLeastUptoRow : OpenClaim := { program := "ytkphcdficpfcnaa", sum := "cfa14b8de1d6a92c1146b94693a49e1bbdbeee0768fb2512b8fdc232c536526a", func := "loftblock/loftblocklaw17.ElasticLeast", spec := "elasticLeast", inPlace := ["math/bits.Add64", "math/bits.Sub64"], unfollowed := true, recurses := true, named := ["math/bits.divideError", "math/bits.overflowError"], apart := false, narrowed := true }
def ElasticLeastUptoSaid : Prop := elasticLeastUptoRow.holds Try.pinned (OpenSpec.upto elasticLeastSpec)

/-- 'loftblocklaw17.ElasticBears', WHERE WHAT IT READS IS OF BULK AT MOST 1048576: true; the input reads as it did. -/
def elasticBearsUptoRow : OpenClaim := { program := "ytkphcdficpfcnaa", sum := "cfa14b8de1d6a92c1146b94693a49e1bbdbeee0768fb2512b8fdc232c536526a", func := "loftblock/loftblocklaw17.ElasticBears", spec := "elasticBears", inPlace := ["math/bits.Add64", "math/bits.Sub64"], unfollowed := true, recurses := true, named := ["math/bits.divideError", "math/bits.overflowError"], apart := false, narrowed := true }
def ElasticBearsUptoSaid : Prop := elasticBearsUptoRow.holds Try.pinned (OpenSpec.upto elasticBearsSpec)

/-- 'loftblocklaw17.ElasticStiffer', WHERE WHAT IT READS IS OF BULK AT MOST 1048576: true; the input reads as it did. -/
def elasticStifferUptoRow : OpenClaim := { program := "ytkphcdficpfcnaa", sum := "cfa14b8de1d6a92c1146b94693a49e1bbdbeee0768fb2512b8fdc232c536526a", func := "loftblock/loftblocklaw17.ElasticStiffer", spec := "elasticStiffer", inPlace := ["math/bits.Add64", "math/bits.Sub64"], unfollowed := true, recurses := true, named := ["math/bits.divideError", "math/bits.overflowError"], apart := false, narrowed := true }
def ElasticStifferUptoSaid : Prop := elasticStifferUptoRow.holds Try.pinned (OpenSpec.upto elasticStifferSpec)

/-- 'loftblocklaw17.ElasticSeries', WHERE WHAT IT READS IS OF BULK AT MOST 1048576: true; the input reads as it did. -/
def elasticSeriesUptoRow : OpenClaim := { program := "ytkphcdficpfcnaa", sum := "cfa14b8de1d6a92c1146b94693a49e1bbdbeee0768fb2512b8fdc232c536526a", func := "loftblock/loftblocklaw17.ElasticSeries", spec := "elasticSeries", inPlace := ["math/bits.Add64", "math/bits.Sub64"], unfollowed := true, recurses := true, named := ["math/bits.divideError", "math/bits.overflowError"], apart := false, narrowed := true }
def ElasticSeriesUptoSaid : Prop := elasticSeriesUptoRow.holds Try.pinned (OpenSpec.upto elasticSeriesSpec)

/-- 'loftblocklaw17.ElasticGaps', WHERE WHAT IT READS IS OF BULK AT MOST 1048576: true; the input reads as it did. -/
def elasticGapsUptoRow : OpenClaim := { program := "ytkphcdficpfcnaa", sum := "cfa14b8de1d6a92c1146b94693a49e1bbdbeee0768fb2512b8fdc232c536526a", func := "loftblock/loftblocklaw17.ElasticGaps", spec := "elasticGaps", inPlace := ["math/bits.Add64", "math/bits.Sub64"], unfollowed := true, recurses := true, named := ["math/bits.divideError", "math/bits.overflowError"], apart := false, narrowed := true }
def ElasticGapsUptoSaid : Prop := elasticGapsUptoRow.holds Try.pinned (OpenSpec.upto elasticGapsSpec)

end Rows
end Go.Proofs.Ytkphcdficpfcnaa
