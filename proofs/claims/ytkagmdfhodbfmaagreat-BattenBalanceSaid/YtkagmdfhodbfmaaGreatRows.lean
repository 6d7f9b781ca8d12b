/-
  No cell of these rows narrows 'for every input' (looked for: loops, veiled, ifaces, maps, wideKeys, modest, calm, conditions, laid).
  DERIVED. THE GIVEN ROWS OF THIS SEAT. 7 by the template 'for every input the law returns true; each argument reads behind the call as it read before'; 0 by the template 'total and deterministic' (their statements: YtkagmdfhodbfmaaGreatTotals.lean).
  GIVEN WITH THE SEED: the statements are not yours to turn. If you find one false, say at which input.
  Laid BY PROGRAM, IN A SANDBOX (cutbox-rows.mjs): the forced cells as the released guide's own fill.sh prints them over the translation 4e931ec3b8c67c96… (all of the seat's roots in one cut). By AI agents, Wed Nov 11 2026. No macro, syntax, notation, axiom, sorry.
-/
import Derived.Test.YtkagmdfhodbfmaaGreatChecked
import GoSem.Claim
import GoSem.ClaimJoined
import GoSem.ClaimMapViews
import Derived.JoinedTies
import Derived.KernelRfl
namespace Go.Proofs.YtkagmdfhodbfmaaGreat
/- THE CELL 'sum', in the pinned program and in every row, IS THE sha256 OF THE DUMP (.gsa) THAT YtkagmdfhodbfmaaGreatProg.lean LOADS. Nothing in Lean hashes anything: it is a label: what it is worth is what the hold of that sum in a sandbox is worth. -/
noncomputable def Tryz.pinned : Pinned := { name := "ytkagmdfhodbfmaagreat", sum := "4e931ec3b8c67c96a552d4a9e985f59ee3c8acbab48219a6070b6cb86b46246e", checked := Tryz.checked }
namespace Rows
def none {H : Type} : Left H := { results := [], args := [] }

/-- 'loftblocklaw21.BattenLines': WHATEVER THE INPUT: true; the input reads as it did. -/
def battenLinesSpec : ChangeSpec := { name := "battenLines", fn := fun _ => fun
  | [d] => { results := [.lit (.bool true)], args := [d] }
  | _ => none }
def battenLinesRow : OpenClaim := { program := "ytkagmdfhodbfmaagreat", sum := "4e931ec3b8c67c96a552d4a9e985f59ee3c8acbab48219a6070b6cb86b46246e", func := "loftblock/loftblocklaw21.BattenLines", spec := "battenLines", unfollowed := true, recurses := true, apart := false }
def BattenLinesSaid : Prop := battenLinesRow.holds Tryz.pinned (OpenSpec.ofChange battenLinesSpec)

/-- ITS FALSE NEIGHBOUR: 'it returns false'. Refute it at one input. -/
def battenLinesWrong : ChangeSpec := { name := "battenLines", fn := fun _ => fun
  | [d] => { results := [.lit (.bool false)], args := [d] }
  | _ => none }
def BattenLinesWrongFalsely : Prop := battenLinesRow.holds Tryz.pinned (OpenSpec.ofChange battenLinesWrong)

/-- 'loftblocklaw21.BattenFills': WHATEVER THE INPUT: true; the input reads as it did. -/
def battenFillsSpec : ChangeSpec := { name := "battenFills", fn := fun _ => fun
  | [d] => { results := [.lit (.bool true)], args := [d] }
  | _ => none }
def battenFillsRow : OpenClaim := { program := "ytkagmdfhodbfmaagreat", sum := "4e931ec3b8c67c96a552d4a9e985f59ee3c8acbab48219a6070b6cb86b46246e", func := "loftblock/loftblocklaw21.BattenFills", spec := "battenFills", unfollowed := true, recurses := true, apart := false }
def BattenFillsSaid : Prop := battenFillsRow.holds Tryz.pinned (OpenSpec.ofChange battenFillsSpec)

/-- ITS FALSE NEIGHBOUR: 'it returns false'. Refute it at one input. -/
def battenFillsWrong : ChangeSpec := { name := "battenFills", fn := fun _ => fun
  | [d] => { results := [.lit (.bool false)], args := [d] }
  | _ => none }
def BattenFillsWrongFalsely : Prop := battenFillsRow.holds Tryz.pinned (OpenSpec.ofChange battenFillsWrong)

/-- 'loftblocklaw21.BattenOrder': WHATEVER THE INPUT: true; the input reads as it did. -/
def battenOrderSpec : ChangeSpec := { name := "battenOrder", fn := fun _ => fun
  | [d1, d2] => { results := [.lit (.bool true)], args := [d1, d2] }
  | _ => none }
def battenOrderRow : OpenClaim := { program := "ytkagmdfhodbfmaagreat", sum := "4e931ec3b8c67c96a552d4a9e985f59ee3c8acbab48219a6070b6cb86b46246e", func := "loftblock/loftblocklaw21.BattenOrder", spec := "battenOrder", unfollowed := true, recurses := true, apart := false }
def BattenOrderSaid : Prop := battenOrderRow.holds Tryz.pinned (OpenSpec.ofChange battenOrderSpec)

/-- ITS FALSE NEIGHBOUR: 'it returns false'. Refute it at one input. -/
def battenOrderWrong : ChangeSpec := { name := "battenOrder", fn := fun _ => fun
  | [d1, d2] => { results := [.lit (.bool false)], args := [d1, d2] }
  | _ => none }
def BattenOrderWrongFalsely : Prop := battenOrderRow.holds Tryz.pinned (OpenSpec.ofChange battenOrderWrong)

/-- 'loftblocklaw21.BattenSets': WHATEVER THE INPUT: true; the input reads as it did. -/
def battenSetsSpec : ChangeSpec := { name := "battenSets", fn := fun _ => fun
  | [d] => { results := [.lit (.bool true)], args := [d] }
  | _ => none }
def battenSetsRow : OpenClaim := { program := "ytkagmdfhodbfmaagreat", sum := "4e931ec3b8c67c96a552d4a9e985f59ee3c8acbab48219a6070b6cb86b46246e", func := "loftblock/loftblocklaw21.BattenSets", spec := "battenSets", unfollowed := true, recurses := true, apart := false }
def BattenSetsSaid : Prop := battenSetsRow.holds Tryz.pinned (OpenSpec.ofChange battenSetsSpec)

/-- ITS FALSE NEIGHBOUR: 'it returns false'. Refute it at one input. -/
def battenSetsWrong : ChangeSpec := { name := "battenSets", fn := fun _ => fun
  | [d] => { results := [.lit (.bool false)], args := [d] }
  | _ => none }
def BattenSetsWrongFalsely : Prop := battenSetsRow.holds Tryz.pinned (OpenSpec.ofChange battenSetsWrong)

/-- 'loftblocklaw21.BattenRoom': WHATEVER THE INPUT: true; the input reads as it did. -/
def battenRoomSpec : ChangeSpec := { name := "battenRoom", fn := fun _ => fun
  | [d1, d2] => { results := [.lit (.bool true)], args := [d1, d2] }
  | _ => none }
def battenRoomRow : OpenClaim := { program := "ytkagmdfhodbfmaagreat", sum := "4e931ec3b8c67c96a552d4a9e985f59ee3c8acbab48219a6070b6cb86b46246e", func := "loftblock/loftblocklaw21.BattenRoom", spec := "battenRoom", unfollowed := true, recurses := true, apart := false }
def BattenRoomSaid : Prop := battenRoomRow.holds Tryz.pinned (OpenSpec.ofChange battenRoomSpec)

/-- ITS FALSE NEIGHBOUR: 'it returns false'. Refute it at one input. -/
def battenRoomWrong : ChangeSpec := { name := "battenRoom", fn := fun _ => fun
  | [d1, d2] => { results := [.lit (.bool false)], args := [d1, d2] }
  | _ => none }
def BattenRoomWrongFalsely : Prop := battenRoomRow.holds Tryz.pinned (OpenSpec.ofChange battenRoomWrong)

/-- 'loftblocklaw21.BattenPuts': WHATEVER THE INPUT: true; the input reads as it did. -/
def battenPutsSpec : ChangeSpec := { name := "battenPuts", fn := fun _ => fun
  | [d1, d2] => { results := [.lit (.bool true)], args := [d1, d2] }
  | _ => none }
def battenPutsRow : OpenClaim := { program := "ytkagmdfhodbfmaagreat", sum := "4e931ec3b8c67c96a552d4a9e985f59ee3c8acbab48219a6070b6cb86b46246e", func := "loftblock/loftblocklaw21.BattenPuts", spec := "battenPuts", unfollowed := true, recurses := true, apart := false }
def BattenPutsSaid : Prop := battenPutsRow.holds Tryz.pinned (OpenSpec.ofChange battenPutsSpec)

/-- ITS FALSE NEIGHBOUR: 'it returns false'. Refute it at one input. -/
def battenPutsWrong : ChangeSpec := { name := "battenPuts", fn := fun _ => fun
  | [d1, d2] => { results := [.lit (.bool false)], args := [d1, d2] }
  | _ => none }
def BattenPutsWrongFalsely : Prop := battenPutsRow.holds Tryz.pinned (OpenSpec.ofChange battenPutsWrong)

/-- 'loftblocklaw21.BattenBalance': WHATEVER THE INPUT: true; the input reads as it did. -/
def battenBalanceSpec : ChangeSpec := { name := "battenBalance", fn := fun _ => fun
  | [d] => { results := [.lit (.bool true)], args := [d] }
  | _ => none }
def battenBalanceRow : OpenClaim := { program := "ytkagmdfhodbfmaagreat", sum := "4e931ec3b8c67c96a552d4a9e985f59ee3c8acbab48219a6070b6cb86b46246e", func := "loftblock/loftblocklaw21.BattenBalance", spec := "battenBalance", unfollowed := true, recurses := true, apart := false }
def BattenBalanceSaid : Prop := battenBalanceRow.holds Tryz.pinned (OpenSpec.ofChange battenBalanceSpec)

/-- ITS FALSE NEIGHBOUR: 'it returns false'. Refute it at one input. -/
def battenBalanceWrong : ChangeSpec := { name := "battenBalance", fn := fun _ => fun
  | [d] => { results := [.lit (.bool false)], args := [d] }
  | _ => none }
def BattenBalanceWrongFalsely : Prop := battenBalanceRow.holds Tryz.pinned (OpenSpec.ofChange battenBalanceWrong)

/- THE SECOND FORM. 'bulk': how many values and letters a reading holds, each counted each time it is reached (what is shared counts as often as it is met; a slice's spare places count too). A statement '..UptoSaid' is the law's where the arguments, and the package variables that the reading takes, are together of bulk at most 1048576: NARROWER than '..Said'. Prove '..Said' where nothing that the law and all that it calls make is longer than what came in: it says more and counts as full. Else prove '..UptoSaid'. A law counts once. -/
mutual
def uptoBulk {H : Type} : DataW H → Nat
  | .lit (.string bytes) => bytes.length + 1
  | .lit _ => 1
  | .nil => 1
  | .ptr d => uptoBulk d + 1
  | .slice elems spare => uptoBulkAll elems + uptoBulkAll spare + 1
  | .agg parts => uptoBulkAll parts + 1
  | .iface _ d => uptoBulk d + 1
  | .map entries => uptoBulkEntries entries + 1
  | .held _ => 1
def uptoBulkAll {H : Type} : List (DataW H) → Nat
  | [] => 0
  | d :: r => uptoBulk d + uptoBulkAll r
def uptoBulkEntries {H : Type} : List (Lit × DataW H) → Nat
  | [] => 0
  | x :: r => uptoBulkEntry x + uptoBulkEntries r
def uptoBulkEntry {H : Type} : Lit × DataW H → Nat
  | (.string bytes, d) => bytes.length + uptoBulk d + 1
  | (_, d) => uptoBulk d + 1
 end
def uptoSmall : (H : Type) → List (DataW H) → Bool := fun _ ds => decide (uptoBulkAll ds ≤ 1048576)
def OpenSpec.upto (s : _root_.Go.ChangeSpec) : _root_.Go.OpenSpec := { _root_.Go.OpenSpec.ofChange s with cond := some uptoSmall }

/-- 'loftblocklaw21.BattenLines', WHERE WHAT IT READS IS OF BULK AT MOST 1048576: true; the input reads as it did. -/
def battenLinesUptoRow : OpenClaim := { program := "ytkagmdfhodbfmaagreat", sum := "4e931ec3b8c67c96a552d4a9e985f59ee3c8acbab48219a6070b6cb86b46246e", func := "loftblock/loftblocklaw21.BattenLines", spec := "battenLines", unfollowed := true, recurses := true, apart := false, narrowed := true }
def BattenLinesUptoSaid : Prop := battenLinesUptoRow.holds Tryz.pinned (OpenSpec.upto battenLinesSpec)

/-- 'loftblocklaw21.BattenFills', WHERE WHAT IT READS IS OF BULK AT MOST 1048576: true; the input reads as it did. -/
def battenFillsUptoRow : OpenClaim := { program := "ytkagmdfhodbfmaagreat", sum := "4e931ec3b8c67c96a552d4a9e985f59ee3c8acbab48219a6070b6cb86b46246e", func := "loftblock/loftblocklaw21.BattenFills", spec := "battenFills", unfollowed := true, recurses := true, apart := false, narrowed := true }
def BattenFillsUptoSaid : Prop := battenFillsUptoRow.holds Tryz.pinned (OpenSpec.upto battenFillsSpec)

/-- 'loftblocklaw21.BattenOrder', WHERE WHAT IT READS IS OF BULK AT MOST 1048576: true; the input reads as it did. -/
def battenOrderUptoRow : OpenClaim := { program := "ytkagmdfhodbfmaagreat", sum := "4e931ec3b8c67c96a552d4a9e985f59ee3c8acbab48219a6070b6cb86b46246e", func := "loftblock/loftblocklaw21.BattenOrder", spec := "battenOrder", unfollowed := true, recurses := true, apart := false, narrowed := true }
def BattenOrderUptoSaid : Prop := battenOrderUptoRow.holds Tryz.pinned (OpenSpec.upto battenOrderSpec)

/-- 'loftblocklaw21.BattenSets', WHERE WHAT IT READS IS OF BULK AT MOST 1048576: true; the input reads as it did. -/
def battenSetsUptoRow : OpenClaim := { program := "ytkagmdfhodbfmaagreat", sum := "4e931ec3b8c67c96a552d4a9e985f59ee3c8acbab48219a6070b6cb86b46246e", func := "loftblock/loftblocklaw21.BattenSets", spec := "battenSets", unfollowed := true, recurses := true, apart := false, narrowed := true }
def BattenSetsUptoSaid : Prop := battenSetsUptoRow.holds Tryz.pinned (OpenSpec.upto battenSetsSpec)

/-- 'loftblocklaw21.BattenRoom', WHERE WHAT IT READS IS OF BULK AT MOST 1048576: true; the input reads as it did. -/
def battenRoomUptoRow : OpenClaim := { program := "ytkagmdfhodbfmaagreat", sum := "4e931ec3b8c67c96a552d4a9e985f59ee3c8acbab48219a6070b6cb86b46246e", func := "loftblock/loftblocklaw21.BattenRoom", spec := "battenRoom", unfollowed := true, recurses := true, apart := false, narrowed := true }
def BattenRoomUptoSaid : Prop := battenRoomUptoRow.holds Tryz.pinned (OpenSpec.upto battenRoomSpec)

/-- 'loftblocklaw21.BattenPuts', WHERE WHAT IT READS IS OF BULK AT MOST 1048576: true; the input reads as it did. -/
def battenPutsUptoRow : OpenClaim := { program := "ytkagmdfhodbfmaagreat", sum := "4e931ec3b8c67c96a552d4a9e985f59ee3c8acbab48219a6070b6cb86b46246e", func := "loftblock/loftblocklaw21.BattenPuts", spec := "battenPuts", unfollowed := true, recurses := true, apart := false, narrowed := true }
def BattenPutsUptoSaid : Prop := battenPutsUptoRow.holds Tryz.pinned (OpenSpec.upto battenPutsSpec)

/-- 'loftblocklaw21.BattenBalance', WHERE WHAT IT READS IS OF BULK AT MOST 1048576: true; the input reads as it did. -/
def battenBalanceUptoRow : OpenClaim := { program := "ytkagmdfhodbfmaagreat", sum := "4e931ec3b8c67c96a552d4a9e985f59ee3c8acbab48219a6070b6cb86b46246e", func := "loftblock/loftblocklaw21.BattenBalance", spec := "battenBalance", unfollowed := true, recurses := true, apart := false, narrowed := true }
def BattenBalanceUptoSaid : Prop := battenBalanceUptoRow.holds Tryz.pinned (OpenSpec.upto battenBalanceSpec)

end Rows
end Go.Proofs.YtkagmdfhodbfmaaGreat
