/- The typed reading, operation by operation: those that only compute. -/
import Derived.Test.YtmdghocpelkcoaaEv1
namespace Go.Proofs.Ytmdghocpelkcoaa
open Go.RowKit

variable {P : Program} (G : Sg P) {β : Type}
abbrev Sg.Env := List (Option (DV G.U G.El))
abbrev Sg.Fr := List (DV G.U G.El)
def getS (env : G.Env) (fr : G.Fr) (t : Nat) : G.D := match env[t]? with
  | some (some d) => d
  | _ => (fr[t]?).getD (.t (.c .junk))
def pval (v : Value) : G.T := .c (.pv (.val v))
def opT (env : G.Env) (fr : G.Fr) : Operand → Option G.T
  | .tmp t => match getS G env fr t with
    | .t x => some x
    | .tup _ => some (.c .junk)
  | .const v => if v.oneCell' then some (pval G v) else none
  | .func f => some (.c (.clo f []))
  | .global _ => none
def valOf : G.T → Option Value
  | .c (.pv (.val v)) => some v
  | _ => none

def bitsOf (op : BinOp) (k : IntKind) (x y : Int) : Int := k.wrap (match op with
  | .and => (BitVec.ofInt k.bits x &&& BitVec.ofInt k.bits y).toNat
  | .or => (BitVec.ofInt k.bits x ||| BitVec.ofInt k.bits y).toNat
  | .xor => (BitVec.ofInt k.bits x ^^^ BitVec.ofInt k.bits y).toNat
  | _ => (BitVec.ofInt k.bits x &&& ~~~BitVec.ofInt k.bits y).toNat)
def intK (op : BinOp) (k : IntKind) (x y : Int) (K : Value → Option β) : Option β :=
  match op with
  | .add => K (.int k (k.wrap (x + y)))
  | .sub => K (.int k (k.wrap (x - y)))
  | .mul => K (.int k (k.wrap (x * y)))
  | .quo => if y = 0 then none else K (.int k (k.wrap (x.tdiv y)))
  | .rem => if y = 0 then none else K (.int k (x.tmod y))
  | .and => K (.int k (bitsOf .and k x y))
  | .or => K (.int k (bitsOf .or k x y))
  | .xor => K (.int k (bitsOf .xor k x y))
  | .andNot => K (.int k (bitsOf .andNot k x y))
  | .eql => K (.bool (x == y))
  | .neq => K (.bool (x != y))
  | .lss => K (.bool (decide (x < y)))
  | .leq => K (.bool (decide (x ≤ y)))
  | .gtr => K (.bool (decide (x > y)))
  | .geq => K (.bool (decide (x ≥ y)))
  | _ => none
def strK (op : BinOp) (x y : ByteArray) (K : Value → Option β) : Option β :=
  match op with
  | .eql => K (.bool (x.toList == y.toList))
  | .neq => K (.bool (!(x.toList == y.toList)))
  | .lss => K (.bool (Op.bytesLess x.toList y.toList))
  | .leq => K (.bool (Op.bytesLess x.toList y.toList || x.toList == y.toList))
  | .gtr => K (.bool (!(Op.bytesLess x.toList y.toList || x.toList == y.toList)))
  | .geq => K (.bool (!(Op.bytesLess x.toList y.toList)))
  | .add => if x.size + y.size ≤ 2147483648 then K (.string (x ++ y)) else none
  | _ => none
def binK (P : Program) (op : BinOp) (ty : TypeId) (a b : Value) (K : Value → Option β) : Option β :=
  match a, b with
  | .int k x, .int k' y =>
    match op with
    | .shl => if y < 0 then none else K (.int k (k.wrap (x * 2 ^ min y.toNat k.bits)))
    | .shr => if y < 0 then none else K (.int k (x.fdiv (2 ^ min y.toNat k.bits)))
    | op => if k = k' then intK op k x y K else none
  | .string x, .string y => strK op x y K
  | .bool x, .bool y => match op, P.underlying ty with
    | .eql, some .bool => K (.bool (x == y))
    | .neq, some .bool => K (.bool (!(x == y)))
    | _, _ => none
  | _, _ => none
def unK (op : UnOp) (a : Value) (K : Value → Option β) : Option β :=
  match op, a with
  | .not, .bool b => K (.bool (!b))
  | .neg, .int k n => K (.int k (k.wrap (0 - n)))
  | _, _ => none
def pickK (c : Bool) (a b : G.T) (K : G.T → Option β) : Option β :=
  match a, b with
  | .c (.pv (.val (.bool x))), .c (.pv (.val (.bool y))) => K (pval G (.bool (cond c x y)))
  | .c (.pv (.val (.int k x))), .c (.pv (.val (.int k' y))) => if k = k' then K (pval G (.int k (cond c x y))) else none
  | a, b => cond c (K a) (K b)

section
variable {w : World} {r : β} {K : Value → Option β}
theorem intK_ok {op : BinOp} {k : IntKind} {x y : Int} (ty : TypeId) (h : intK op k x y K = some r) : ∃ v, (∀ w, (binOp op ty (.int k x) (.int k y)).run P w = .ok v w) ∧ K v = some r ∧ v.oneCell' = true := by
  cases op <;> simp only [intK] at h
  case shl => cases h
  case shr => cases h
  case quo =>
    split at h
    · cases h
    · rename_i hy; exact ⟨_, fun w => by simp [binOp, Op.intDiv, hy], h, rfl⟩
  case rem =>
    split at h
    · cases h
    · rename_i hy; exact ⟨_, fun w => by simp [binOp, Op.intDiv, hy], h, rfl⟩
  all_goals exact ⟨_, fun w => by simp [binOp, Op.intArith, Op.intBits, Op.intCmp, bitsOf]; try rfl, h, rfl⟩
theorem strK_ok {op : BinOp} {x y : ByteArray} (ty : TypeId) (h : strK op x y K = some r) : ∃ v, (∀ w, (binOp op ty (.string x) (.string y)).run P w = .ok v w) ∧ K v = some r ∧ v.oneCell' = true := by
  cases op <;> simp only [strK] at h
  case add =>
    split at h
    · rename_i hs
      refine ⟨_, ?_, h, rfl⟩
      have : ¬ (((x.size + y.size : Nat) : Int) > IntKind.i64.max) := by
        have e : IntKind.i64.max = 9223372036854775807 := by decide
        rw [e]; omega
      intro w
      simp only [binOp, Op.stringOp, this, if_false]
      rfl
    · cases h
  all_goals first
    | cases h; done
    | exact ⟨_, fun w => by simp [binOp, Op.stringOp]; try rfl, h, rfl⟩
theorem equal_bool {ty : TypeId} {a b : Bool} (hu : P.underlying ty = some .bool) : (Op.equal ty (.bool a) (.bool b)).run P w = .ok (a == b) w := by
  show (Op.equalIn (9999 + 1) ty (.bool a) (.bool b)).run P w = _
  generalize 9999 = n
  unfold Op.equalIn
  simp only [Sem.run_bind, run_underlying hu, Result.andThen_ok]
  rfl
theorem binK_ok {op : BinOp} {ty : TypeId} {a b : Value} (x y : Operand) (h : binK P op ty a b K = some r) :
    ∃ v, (∀ w, (do eqGuard op ty x y a b; binOp op ty a b : Sem Value).run P w = .ok v w) ∧ K v = some r ∧ v.oneCell' = true := by
  unfold binK at h
  split at h
  · rename_i k1 n1 k2 n2
    have hg : ∀ (op : BinOp) w, (eqGuard op ty x y (.int k1 n1) (.int k2 n2)).run P w = .ok () w := by
      intro op w; unfold eqGuard; cases op <;> simp
    split at h
    · split at h
      · cases h
      · rename_i hy; exact ⟨_, fun w => by simp [hg, binOp, Op.shift, hy], h, rfl⟩
    · split at h
      · cases h
      · rename_i hy; exact ⟨_, fun w => by simp [hg, binOp, Op.shift, hy], h, rfl⟩
    · split at h
      · rename_i hk; subst hk
        obtain ⟨v, h1, h2, h3⟩ := intK_ok (P := P) ty h
        exact ⟨v, fun w => by simp [hg, h1], h2, h3⟩
      · cases h
  · obtain ⟨v, h1, h2, h3⟩ := strK_ok (P := P) ty h
    rename_i s1 s2
    have hg : ∀ w, (eqGuard op ty x y (.string s1) (.string s2)).run P w = .ok () w := by
      intro w; unfold eqGuard; cases op <;> simp
    exact ⟨v, fun w => by simp [hg, h1], h2, h3⟩
  · rename_i s1 s2
    have hg : ∀ (op : BinOp) w, (eqGuard op ty x y (.bool s1) (.bool s2)).run P w = .ok () w := by
      intro op w; unfold eqGuard; cases op <;> simp
    split at h
    · rename_i hu; exact ⟨_, fun w => by simp only [Sem.run_bind, hg, Result.andThen_ok, binOp, equal_bool hu, Sem.run_pure], h, rfl⟩
    · rename_i hu; exact ⟨_, fun w => by simp only [Sem.run_bind, hg, Result.andThen_ok, binOp, equal_bool hu, Sem.run_pure], h, rfl⟩
    · cases h
  · cases h
theorem unK_ok {op : UnOp} {a : Value} (h : unK op a K = some r) : ∃ v, (∀ w, (Op.unary op a).run P w = .ok v w) ∧ K v = some r ∧ v.oneCell' = true := by
  unfold unK at h
  split at h
  · exact ⟨_, fun _ => rfl, h, rfl⟩
  · exact ⟨_, fun w => by simp [Op.unary, Op.intArith], h, rfl⟩
  · cases h
end
end Go.Proofs.Ytmdghocpelkcoaa
