/-
  No cell of these rows narrows 'for every input' (looked for: loops, veiled, ifaces, maps, wideKeys, modest, calm, conditions, laid).
  DERIVED. THE GIVEN ROWS OF THIS SEAT. 13 by the template 'for every input the law returns true; each argument reads behind the call as it read before'; 0 by the template 'total and deterministic' (their statements: YtmdghocpelkcoaaTotals.lean).
  GIVEN WITH THE SEED: the statements are not yours to turn. If you find one false, say at which input.
  Laid BY PROGRAM, IN A SANDBOX (cutbox-rows.mjs): the forced cells as the released guide's own fill.sh prints them over the translation 47f2552c6679cc9f… (all of the seat's roots in one cut). By AI agents, Wed Nov 11 2026. No macro, syntax, notation, axiom, sorry.
-/
import Derived.Test.YtmdghocpelkcoaaChecked
import GoSem.Claim
import GoSem.ClaimJoined
import GoSem.ClaimMapViews
import Derived.JoinedTies
import Derived.KernelRfl
namespace Go.Proofs.Ytmdghocpelkcoaa
/- THE CELL 'sum', in the pinned program and in every row, IS THE sha256 OF THE DUMP (.gsa) THAT YtmdghocpelkcoaaProg.lean LOADS. Nothing in Lean hashes anything: it is a label: what it is worth is what the hold of that sum in a sandbox is worth. -/
noncomputable def Try.pinned : Pinned := { name := "ytmdghocpelkcoaa", sum := "47f2552c6679cc9f133a68f67ff3244c48b322d9fe35028d1918ff1f500d5964", checked := Try.checked }
namespace Rows
def none {H : Type} : Left H := { results := [], args := [] }

/-- 'loftblocklaw27.BrakePaths': WHATEVER THE INPUT: true; the input reads as it did. -/
def brakePathsSpec : ChangeSpec := { name := "brakePaths", fn := fun _ => fun
  | [d1, d2] => { results := [.lit (.bool true)], args := [d1, d2] }
  | _ => none }
def brakePathsRow : OpenClaim := { program := "ytmdghocpelkcoaa", sum := "47f2552c6679cc9f133a68f67ff3244c48b322d9fe35028d1918ff1f500d5964", func := "loftblock/loftblocklaw27.BrakePaths", spec := "brakePaths", unfollowed := true, recurses := true, apart := false }
def BrakePathsSaid : Prop := brakePathsRow.holds Try.pinned (OpenSpec.ofChange brakePathsSpec)

/-- ITS FALSE NEIGHBOUR: 'it returns false'. Refute it at one input. -/
def brakePathsWrong : ChangeSpec := { name := "brakePaths", fn := fun _ => fun
  | [d1, d2] => { results := [.lit (.bool false)], args := [d1, d2] }
  | _ => none }
def BrakePathsWrongFalsely : Prop := brakePathsRow.holds Try.pinned (OpenSpec.ofChange brakePathsWrong)

/-- 'loftblocklaw27.BrakeChanges': WHATEVER THE INPUT: true; the input reads as it did. -/
def brakeChangesSpec : ChangeSpec := { name := "brakeChanges", fn := fun _ => fun
  | [d1, d2] => { results := [.lit (.bool true)], args := [d1, d2] }
  | _ => none }
def brakeChangesRow : OpenClaim := { program := "ytmdghocpelkcoaa", sum := "47f2552c6679cc9f133a68f67ff3244c48b322d9fe35028d1918ff1f500d5964", func := "loftblock/loftblocklaw27.BrakeChanges", spec := "brakeChanges", unfollowed := true, recurses := true, apart := false }
def BrakeChangesSaid : Prop := brakeChangesRow.holds Try.pinned (OpenSpec.ofChange brakeChangesSpec)

/-- ITS FALSE NEIGHBOUR: 'it returns false'. Refute it at one input. -/
def brakeChangesWrong : ChangeSpec := { name := "brakeChanges", fn := fun _ => fun
  | [d1, d2] => { results := [.lit (.bool false)], args := [d1, d2] }
  | _ => none }
def BrakeChangesWrongFalsely : Prop := brakeChangesRow.holds Try.pinned (OpenSpec.ofChange brakeChangesWrong)

/-- 'loftblocklaw27.BrakeFirst': WHATEVER THE INPUT: true; the input reads as it did. -/
def brakeFirstSpec : ChangeSpec := { name := "brakeFirst", fn := fun _ => fun
  | [d1, d2, d3] => { results := [.lit (.bool true)], args := [d1, d2, d3] }
  | _ => none }
def brakeFirstRow : OpenClaim := { program := "ytmdghocpelkcoaa", sum := "47f2552c6679cc9f133a68f67ff3244c48b322d9fe35028d1918ff1f500d5964", func := "loftblock/loftblocklaw27.BrakeFirst", spec := "brakeFirst", unfollowed := true, recurses := true, apart := false }
def BrakeFirstSaid : Prop := brakeFirstRow.holds Try.pinned (OpenSpec.ofChange brakeFirstSpec)

/-- ITS FALSE NEIGHBOUR: 'it returns false'. Refute it at one input. -/
def brakeFirstWrong : ChangeSpec := { name := "brakeFirst", fn := fun _ => fun
  | [d1, d2, d3] => { results := [.lit (.bool false)], args := [d1, d2, d3] }
  | _ => none }
def BrakeFirstWrongFalsely : Prop := brakeFirstRow.holds Try.pinned (OpenSpec.ofChange brakeFirstWrong)

/-- 'loftblocklaw27.BrakeBack': WHATEVER THE INPUT: true; the input reads as it did. -/
def brakeBackSpec : ChangeSpec := { name := "brakeBack", fn := fun _ => fun
  | [d1, d2] => { results := [.lit (.bool true)], args := [d1, d2] }
  | _ => none }
def brakeBackRow : OpenClaim := { program := "ytmdghocpelkcoaa", sum := "47f2552c6679cc9f133a68f67ff3244c48b322d9fe35028d1918ff1f500d5964", func := "loftblock/loftblocklaw27.BrakeBack", spec := "brakeBack", unfollowed := true, recurses := true, apart := false }
def BrakeBackSaid : Prop := brakeBackRow.holds Try.pinned (OpenSpec.ofChange brakeBackSpec)

/-- ITS FALSE NEIGHBOUR: 'it returns false'. Refute it at one input. -/
def brakeBackWrong : ChangeSpec := { name := "brakeBack", fn := fun _ => fun
  | [d1, d2] => { results := [.lit (.bool false)], args := [d1, d2] }
  | _ => none }
def BrakeBackWrongFalsely : Prop := brakeBackRow.holds Try.pinned (OpenSpec.ofChange brakeBackWrong)

/-- 'loftblocklaw27.BrakeStates': WHATEVER THE INPUT: true; the input reads as it did. -/
def brakeStatesSpec : ChangeSpec := { name := "brakeStates", fn := fun _ => fun
  | [d1, d2, d3, d4] => { results := [.lit (.bool true)], args := [d1, d2, d3, d4] }
  | _ => none }
def brakeStatesRow : OpenClaim := { program := "ytmdghocpelkcoaa", sum := "47f2552c6679cc9f133a68f67ff3244c48b322d9fe35028d1918ff1f500d5964", func := "loftblock/loftblocklaw27.BrakeStates", spec := "brakeStates", unfollowed := true, recurses := true, apart := false }
def BrakeStatesSaid : Prop := brakeStatesRow.holds Try.pinned (OpenSpec.ofChange brakeStatesSpec)

/-- ITS FALSE NEIGHBOUR: 'it returns false'. Refute it at one input. -/
def brakeStatesWrong : ChangeSpec := { name := "brakeStates", fn := fun _ => fun
  | [d1, d2, d3, d4] => { results := [.lit (.bool false)], args := [d1, d2, d3, d4] }
  | _ => none }
def BrakeStatesWrongFalsely : Prop := brakeStatesRow.holds Try.pinned (OpenSpec.ofChange brakeStatesWrong)

/-- 'loftblocklaw27.BrakeOrder': WHATEVER THE INPUT: true; the input reads as it did. -/
def brakeOrderSpec : ChangeSpec := { name := "brakeOrder", fn := fun _ => fun
  | [d1, d2] => { results := [.lit (.bool true)], args := [d1, d2] }
  | _ => none }
def brakeOrderRow : OpenClaim := { program := "ytmdghocpelkcoaa", sum := "47f2552c6679cc9f133a68f67ff3244c48b322d9fe35028d1918ff1f500d5964", func := "loftblock/loftblocklaw27.BrakeOrder", spec := "brakeOrder", unfollowed := true, recurses := true, apart := false }
def BrakeOrderSaid : Prop := brakeOrderRow.holds Try.pinned (OpenSpec.ofChange brakeOrderSpec)

/-- ITS FALSE NEIGHBOUR: 'it returns false'. Refute it at one input. -/
def brakeOrderWrong : ChangeSpec := { name := "brakeOrder", fn := fun _ => fun
  | [d1, d2] => { results := [.lit (.bool false)], args := [d1, d2] }
  | _ => none }
def BrakeOrderWrongFalsely : Prop := brakeOrderRow.holds Try.pinned (OpenSpec.ofChange brakeOrderWrong)

/-- 'loftblocklaw28.LoadinMore': WHATEVER THE INPUT: true; the input reads as it did. -/
def loadinMoreSpec : ChangeSpec := { name := "loadinMore", fn := fun _ => fun
  | [d1, d2, d3] => { results := [.lit (.bool true)], args := [d1, d2, d3] }
  | _ => none }
def loadinMoreRow : OpenClaim := { program := "ytmdghocpelkcoaa", sum := "47f2552c6679cc9f133a68f67ff3244c48b322d9fe35028d1918ff1f500d5964", func := "loftblock/loftblocklaw28.LoadinMore", spec := "loadinMore", unfollowed := true, recurses := true, apart := false }
def LoadinMoreSaid : Prop := loadinMoreRow.holds Try.pinned (OpenSpec.ofChange loadinMoreSpec)

/-- ITS FALSE NEIGHBOUR: 'it returns false'. Refute it at one input. -/
def loadinMoreWrong : ChangeSpec := { name := "loadinMore", fn := fun _ => fun
  | [d1, d2, d3] => { results := [.lit (.bool false)], args := [d1, d2, d3] }
  | _ => none }
def LoadinMoreWrongFalsely : Prop := loadinMoreRow.holds Try.pinned (OpenSpec.ofChange loadinMoreWrong)

/-- 'loftblocklaw28.LoadinChecks': WHATEVER THE INPUT: true; the input reads as it did. -/
def loadinChecksSpec : ChangeSpec := { name := "loadinChecks", fn := fun _ => fun
  | [d1, d2, d3] => { results := [.lit (.bool true)], args := [d1, d2, d3] }
  | _ => none }
def loadinChecksRow : OpenClaim := { program := "ytmdghocpelkcoaa", sum := "47f2552c6679cc9f133a68f67ff3244c48b322d9fe35028d1918ff1f500d5964", func := "loftblock/loftblocklaw28.LoadinChecks", spec := "loadinChecks", unfollowed := true, recurses := true, apart := false }
def LoadinChecksSaid : Prop := loadinChecksRow.holds Try.pinned (OpenSpec.ofChange loadinChecksSpec)

/-- ITS FALSE NEIGHBOUR: 'it returns false'. Refute it at one input. -/
def loadinChecksWrong : ChangeSpec := { name := "loadinChecks", fn := fun _ => fun
  | [d1, d2, d3] => { results := [.lit (.bool false)], args := [d1, d2, d3] }
  | _ => none }
def LoadinChecksWrongFalsely : Prop := loadinChecksRow.holds Try.pinned (OpenSpec.ofChange loadinChecksWrong)

/-- 'loftblocklaw28.LoadinOrders': WHATEVER THE INPUT: true; the input reads as it did. -/
def loadinOrdersSpec : ChangeSpec := { name := "loadinOrders", fn := fun _ => fun
  | [d1, d2] => { results := [.lit (.bool true)], args := [d1, d2] }
  | _ => none }
def loadinOrdersRow : OpenClaim := { program := "ytmdghocpelkcoaa", sum := "47f2552c6679cc9f133a68f67ff3244c48b322d9fe35028d1918ff1f500d5964", func := "loftblock/loftblocklaw28.LoadinOrders", spec := "loadinOrders", unfollowed := true, recurses := true, apart := false }
def LoadinOrdersSaid : Prop := loadinOrdersRow.holds Try.pinned (OpenSpec.ofChange loadinOrdersSpec)

/-- ITS FALSE NEIGHBOUR: 'it returns false'. Refute it at one input. -/
def loadinOrdersWrong : ChangeSpec := { name := "loadinOrders", fn := fun _ => fun
  | [d1, d2] => { results := [.lit (.bool false)], args := [d1, d2] }
  | _ => none }
def LoadinOrdersWrongFalsely : Prop := loadinOrdersRow.holds Try.pinned (OpenSpec.ofChange loadinOrdersWrong)

/-- 'loftblocklaw28.LoadinCloses': WHATEVER THE INPUT: true; the input reads as it did. -/
def loadinClosesSpec : ChangeSpec := { name := "loadinCloses", fn := fun _ => fun
  | [d1, d2, d3] => { results := [.lit (.bool true)], args := [d1, d2, d3] }
  | _ => none }
def loadinClosesRow : OpenClaim := { program := "ytmdghocpelkcoaa", sum := "47f2552c6679cc9f133a68f67ff3244c48b322d9fe35028d1918ff1f500d5964", func := "loftblock/loftblocklaw28.LoadinCloses", spec := "loadinCloses", unfollowed := true, recurses := true, apart := false }
def LoadinClosesSaid : Prop := loadinClosesRow.holds Try.pinned (OpenSpec.ofChange loadinClosesSpec)

/-- ITS FALSE NEIGHBOUR: 'it returns false'. Refute it at one input. -/
def loadinClosesWrong : ChangeSpec := { name := "loadinCloses", fn := fun _ => fun
  | [d1, d2, d3] => { results := [.lit (.bool false)], args := [d1, d2, d3] }
  | _ => none }
def LoadinClosesWrongFalsely : Prop := loadinClosesRow.holds Try.pinned (OpenSpec.ofChange loadinClosesWrong)

/-- 'loftblocklaw28.LoadinBack': WHATEVER THE INPUT: true; the input reads as it did. -/
def loadinBackSpec : ChangeSpec := { name := "loadinBack", fn := fun _ => fun
  | [d1, d2] => { results := [.lit (.bool true)], args := [d1, d2] }
  | _ => none }
def loadinBackRow : OpenClaim := { program := "ytmdghocpelkcoaa", sum := "47f2552c6679cc9f133a68f67ff3244c48b322d9fe35028d1918ff1f500d5964", func := "loftblock/loftblocklaw28.LoadinBack", spec := "loadinBack", unfollowed := true, recurses := true, apart := false }
def LoadinBackSaid : Prop := loadinBackRow.holds Try.pinned (OpenSpec.ofChange loadinBackSpec)

/-- ITS FALSE NEIGHBOUR: 'it returns false'. Refute it at one input. -/
def loadinBackWrong : ChangeSpec := { name := "loadinBack", fn := fun _ => fun
  | [d1, d2] => { results := [.lit (.bool false)], args := [d1, d2] }
  | _ => none }
def LoadinBackWrongFalsely : Prop := loadinBackRow.holds Try.pinned (OpenSpec.ofChange loadinBackWrong)

/-- 'loftblocklaw28.LoadinFirst': WHATEVER THE INPUT: true; the input reads as it did. -/
def loadinFirstSpec : ChangeSpec := { name := "loadinFirst", fn := fun _ => fun
  | [d1, d2, d3] => { results := [.lit (.bool true)], args := [d1, d2, d3] }
  | _ => none }
def loadinFirstRow : OpenClaim := { program := "ytmdghocpelkcoaa", sum := "47f2552c6679cc9f133a68f67ff3244c48b322d9fe35028d1918ff1f500d5964", func := "loftblock/loftblocklaw28.LoadinFirst", spec := "loadinFirst", unfollowed := true, recurses := true, apart := false }
def LoadinFirstSaid : Prop := loadinFirstRow.holds Try.pinned (OpenSpec.ofChange loadinFirstSpec)

/-- ITS FALSE NEIGHBOUR: 'it returns false'. Refute it at one input. -/
def loadinFirstWrong : ChangeSpec := { name := "loadinFirst", fn := fun _ => fun
  | [d1, d2, d3] => { results := [.lit (.bool false)], args := [d1, d2, d3] }
  | _ => none }
def LoadinFirstWrongFalsely : Prop := loadinFirstRow.holds Try.pinned (OpenSpec.ofChange loadinFirstWrong)

/-- 'loftblocklaw28.LoadinEither': WHATEVER THE INPUT: true; the input reads as it did. -/
def loadinEitherSpec : ChangeSpec := { name := "loadinEither", fn := fun _ => fun
  | [d1, d2, d3] => { results := [.lit (.bool true)], args := [d1, d2, d3] }
  | _ => none }
def loadinEitherRow : OpenClaim := { program := "ytmdghocpelkcoaa", sum := "47f2552c6679cc9f133a68f67ff3244c48b322d9fe35028d1918ff1f500d5964", func := "loftblock/loftblocklaw28.LoadinEither", spec := "loadinEither", unfollowed := true, recurses := true, apart := false }
def LoadinEitherSaid : Prop := loadinEitherRow.holds Try.pinned (OpenSpec.ofChange loadinEitherSpec)

/-- ITS FALSE NEIGHBOUR: 'it returns false'. Refute it at one input. -/
def loadinEitherWrong : ChangeSpec := { name := "loadinEither", fn := fun _ => fun
  | [d1, d2, d3] => { results := [.lit (.bool false)], args := [d1, d2, d3] }
  | _ => none }
def LoadinEitherWrongFalsely : Prop := loadinEitherRow.holds Try.pinned (OpenSpec.ofChange loadinEitherWrong)

/- THE SECOND FORM. 'bulk': how many values and letters a reading holds, each counted each time it is reached (what is shared counts as often as it is met; a slice's spare places count too). A statement '..UptoSaid' is the law's where the arguments, and the package variables that the reading takes, are together of bulk at most 1048576: NARROWER than '..Said'. Prove '..Said' where nothing that the law and all that it calls make is longer than what came in: it says more and counts as full. Else prove '..UptoSaid'. A law counts once. -/
mutual
def uptoBulk {H : Type} : DataW H → Nat
  | .lit (.string bytes) => bytes.length + 1
  | .lit _ => 1
  | .nil => 1
  | .ptr d => uptoBulk d + 1
  | .slice elems spare => uptoBulkAll elems + uptoBulkAll spare + 1
  | .agg parts => uptoBulkAll parts + 1
  | .iface _ d => uptoBulk d + 1
  | .map entries => uptoBulkEntries entries + 1
  | .held _ => 1
def uptoBulkAll {H : Type} : List (DataW H) → Nat
  | [] => 0
  | d :: r => uptoBulk d + uptoBulkAll r
def uptoBulkEntries {H : Type} : List (Lit × DataW H) → Nat
  | [] => 0
  | x :: r => uptoBulkEntry x + uptoBulkEntries r
def uptoBulkEntry {H : Type} : Lit × DataW H → Nat
  | (.string bytes, d) => bytes.length + uptoBulk d + 1
  | (_, d) => uptoBulk d + 1
 end
def uptoSmall : (H : Type) → List (DataW H) → Bool := fun _ ds => decide (uptoBulkAll ds ≤ 1048576)
def OpenSpec.upto (s : _root_.Go.ChangeSpec) : _root_.Go.OpenSpec := { _root_.Go.OpenSpec.ofChange s with cond := some uptoSmall }

/-- 'loftblocklaw27.BrakePaths', WHERE WHAT IT READS IS OF BULK AT MOST 1048576: true; the input reads as it did. -/
def brakePathsUptoRow : OpenClaim := { program := "ytmdghocpelkcoaa", sum := "47f2552c6679cc9f133a68f67ff3244c48b322d9fe35028d1918ff1f500d5964", func := "loftblock/loftblocklaw27.BrakePaths", spec := "brakePaths", unfollowed := true, recurses := true, apart := false, narrowed := true }
def BrakePathsUptoSaid : Prop := brakePathsUptoRow.holds Try.pinned (OpenSpec.upto brakePathsSpec)

/-- 'loftblocklaw27.BrakeChanges', WHERE WHAT IT READS IS OF BULK AT MOST 1048576: true; the input reads as it did. -/
def brakeChangesUptoRow : OpenClaim := { program := "ytmdghocpelkcoaa", sum := "47f2552c6679cc9f133a68f67ff3244c48b322d9fe35028d1918ff1f500d5964", func := "loftblock/loftblocklaw27.BrakeChanges", spec := "brakeChanges", unfollowed := true, recurses := true, apart := false, narrowed := true }
def BrakeChangesUptoSaid : Prop := brakeChangesUptoRow.holds Try.pinned (OpenSpec.upto brakeChangesSpec)

/-- 'loftblocklaw27.BrakeFirst', WHERE WHAT IT READS IS OF BULK AT MOST 1048576: true; the input reads as it did. -/
def brakeFirstUptoRow : OpenClaim := { program := "ytmdghocpelkcoaa", sum := "47f2552c6679cc9f133a68f67ff3244c48b322d9fe35028d1918ff1f500d5964", func := "loftblock/loftblocklaw27.BrakeFirst", spec := "brakeFirst", unfollowed := true, recurses := true, apart := false, narrowed := true }
def BrakeFirstUptoSaid : Prop := brakeFirstUptoRow.holds Try.pinned (OpenSpec.upto brakeFirstSpec)

/-- 'loftblocklaw27.BrakeBack', WHERE WHAT IT READS IS OF BULK AT MOST 1048576: true; the input reads as it did. -/
def brakeBackUptoRow : OpenClaim := { program := "ytmdghocpelkcoaa", sum := "47f2552c6679cc9f133a68f67ff3244c48b322d9fe35028d1918ff1f500d5964", func := "loftblock/loftblocklaw27.BrakeBack", spec := "brakeBack", unfollowed := true, recurses := true, apart := false, narrowed := true }
def BrakeBackUptoSaid : Prop := brakeBackUptoRow.holds Try.pinned (OpenSpec.upto brakeBackSpec)

/-- 'loftblocklaw27.BrakeStates', WHERE WHAT IT READS IS OF BULK AT MOST 1048576: true; the input reads as it did. -/
def brakeStatesUptoRow : OpenClaim := { program := "ytmdghocpelkcoaa", sum := "47f2552c6679cc9f133a68f67ff3244c48b322d9fe35028d1918ff1f500d5964", func := "loftblock/loftblocklaw27.BrakeStates", spec := "brakeStates", unfollowed := true, recurses := true, apart := false, narrowed := true }
def BrakeStatesUptoSaid : Prop := brakeStatesUptoRow.holds Try.pinned (OpenSpec.upto brakeStatesSpec)

/-- 'loftblocklaw27.BrakeOrder', WHERE WHAT IT READS IS OF BULK AT MOST 1048576: true; the input reads as it did. -/
def brakeOrderUptoRow : OpenClaim := { program := "ytmdghocpelkcoaa", sum := "47f2552c6679cc9f133a68f67ff3244c48b322d9fe35028d1918ff1f500d5964", func := "loftblock/loftblocklaw27.BrakeOrder", spec := "brakeOrder", unfollowed := true, recurses := true, apart := false, narrowed := true }
def BrakeOrderUptoSaid : Prop := brakeOrderUptoRow.holds Try.pinned (OpenSpec.upto brakeOrderSpec)

/-- 'loftblocklaw28.LoadinMore', WHERE WHAT IT READS IS OF BULK AT MOST 1048576: true; the input reads as it did. -/
def loadinMoreUptoRow : OpenClaim := { program := "ytmdghocpelkcoaa", sum := "47f2552c6679cc9f133a68f67ff3244c48b322d9fe35028d1918ff1f500d5964", func := "loftblock/loftblocklaw28.LoadinMore", spec := "loadinMore", unfollowed := true, recurses := true, apart := false, narrowed := true }
def LoadinMoreUptoSaid : Prop := loadinMoreUptoRow.holds Try.pinned (OpenSpec.upto loadinMoreSpec)

/-- 'loftblocklaw28.LoadinChecks', WHERE WHAT IT READS IS OF BULK AT MOST 1048576: true; the input reads as it did. -/
def loadinChecksUptoRow : OpenClaim := { program := "ytmdghocpelkcoaa", sum := "47f2552c6679cc9f133a68f67ff3244c48b322d9fe35028d1918ff1f500d5964", func := "loftblock/loftblocklaw28.LoadinChecks", spec := "loadinChecks", unfollowed := true, recurses := true, apart := false, narrowed := true }
def LoadinChecksUptoSaid : Prop := loadinChecksUptoRow.holds Try.pinned (OpenSpec.upto loadinChecksSpec)

/-- 'loftblocklaw28.LoadinOrders', WHERE WHAT IT READS IS OF BULK AT MOST 1048576: true; the input reads as it did. -/
def loadinOrdersUptoRow : OpenClaim := { program := "ytmdghocpelkcoaa", sum := "47f2552c6679cc9f133a68f67ff3244c48b322d9fe35028d1918ff1f500d5964", func := "loftblock/loftblocklaw28.LoadinOrders", spec := "loadinOrders", unfollowed := true, recurses := true, apart := false, narrowed := true }
def LoadinOrdersUptoSaid : Prop := loadinOrdersUptoRow.holds Try.pinned (OpenSpec.upto loadinOrdersSpec)

/-- 'loftblocklaw28.LoadinCloses', WHERE WHAT IT READS IS OF BULK AT MOST 1048576: true; the input reads as it did. -/
def loadinClosesUptoRow : OpenClaim := { program := "ytmdghocpelkcoaa", sum := "47f2552c6679cc9f133a68f67ff3244c48b322d9fe35028d1918ff1f500d5964", func := "loftblock/loftblocklaw28.LoadinCloses", spec := "loadinCloses", unfollowed := true, recurses := true, apart := false, narrowed := true }
def LoadinClosesUptoSaid : Prop := loadinClosesUptoRow.holds Try.pinned (OpenSpec.upto loadinClosesSpec)

/-- 'loftblocklaw28.LoadinBack', WHERE WHAT IT READS IS OF BULK AT MOST 1048576: true; the input reads as it did. -/
def loadinBackUptoRow : OpenClaim := { program := "ytmdghocpelkcoaa", sum := "47f2552c6679cc9f133a68f67ff3244c48b322d9fe35028d1918ff1f500d5964", func := "loftblock/loftblocklaw28.LoadinBack", spec := "loadinBack", unfollowed := true, recurses := true, apart := false, narrowed := true }
def LoadinBackUptoSaid : Prop := loadinBackUptoRow.holds Try.pinned (OpenSpec.upto loadinBackSpec)

/-- 'loftblocklaw28.LoadinFirst', WHERE WHAT IT READS IS OF BULK AT MOST 1048576: true; the input reads as it did. -/
def loadinFirstUptoRow : OpenClaim := { program := "ytmdghocpelkcoaa", sum := "47f2552c6679cc9f133a68f67ff3244c48b322d9fe35028d1918ff1f500d5964", func := "loftblock/loftblocklaw28.LoadinFirst", spec := "loadinFirst", unfollowed := true, recurses := true, apart := false, narrowed := true }
def LoadinFirstUptoSaid : Prop := loadinFirstUptoRow.holds Try.pinned (OpenSpec.upto loadinFirstSpec)

/-- 'loftblocklaw28.LoadinEither', WHERE WHAT IT READS IS OF BULK AT MOST 1048576: true; the input reads as it did. -/
def loadinEitherUptoRow : OpenClaim := { program := "ytmdghocpelkcoaa", sum := "47f2552c6679cc9f133a68f67ff3244c48b322d9fe35028d1918ff1f500d5964", func := "loftblock/loftblocklaw28.LoadinEither", spec := "loadinEither", unfollowed := true, recurses := true, apart := false, narrowed := true }
def LoadinEitherUptoSaid : Prop := loadinEitherUptoRow.holds Try.pinned (OpenSpec.upto loadinEitherSpec)

end Rows
end Go.Proofs.Ytmdghocpelkcoaa
