/- The last step of a law's proof, over the typed reading: it returned true, and nothing that was there has turned. -/
import Derived.Test.YtmdghocpelkcoaaEv21
import Derived.OpenShut
import Derived.KernelRfl
import Derived.Test.YtmdghocpelkcoaaChecked
import Derived.Test.YtmdghocpelkcoaaRows
namespace Go.Proofs.Ytmdghocpelkcoaa
open Go.RowKit Go.ChangeShapes Go.WideShapes Go.Deep

theorem Try.own : ownKnob Try.prog.godebug = none := by kernel_rfl
theorem Try.laidOut : laidOutB Try.prog = true := by kernel_rfl

section
variable {H : Type} {enc : TypeId × Value → H}
theorem trodAll_stays {W W' : World} {sp' : Nat → Bool} : ∀ {ts : List TypeId} {vs : List Value} {ds : List (DataW H)} {ps : List MemPlace}, (∀ t, t ∈ ts → Try.prog.readableRec t = true ∧ t < Try.prog.types.size) →
    DataW.TrodAll enc Try.prog W 0 (fun _ => true) true ts vs ds ps → (∀ p ∈ ps, W.sameAt W' p) → (∀ p ∈ ps, sp' p.block = true) → DataW.TrodAll enc Try.prog W' 0 sp' true ts vs ds ps
  | [], _, _, _, _, h, _, _ => by
    obtain ⟨rfl, rfl, rfl⟩ := trodAll_nil h
    exact trodAll_mk0
  | t :: ts, _, _, _, ht, h, h1, h2 => by
    obtain ⟨v, vs, d, ds, p, q, rfl, rfl, rfl, a, b⟩ := trodAll_cons h
    have g := ht t (by simp)
    exact ⟨p, q, (WideElems.Trod_stays Try.laidOut g.1 g.2 a (fun x hx => h1 x (by simp [hx])) (fun x hx => h2 x (by simp [hx]))),
      (trodAll_stays (fun t' ht' => ht t' (by simp [ht'])) b (fun x hx => h1 x (by simp [hx])) (fun x hx => h2 x (by simp [hx]))), rfl⟩

theorem law_post {f : Func} {s : ChangeSpec} {W W' : World} {args : Array Value} {ds : List (DataW H)} {before : List MemPlace} {tb : TypeId} (hW : DataW.Whole enc Try.prog f.params.toList s.vars false W args.toList ds [] before)
    (hall : ∀ t, t ∈ f.params.toList → Try.prog.readableRec t = true ∧ t < Try.prog.types.size) (hvars : s.vars = []) (hres : (s.fn H ds).results = [.lit (.bool true)]) (hargs : (s.fn H ds).args = ds) (hv : (s.fn H ds).vars = [])
    (hr : f.resultTypes = #[tb]) (htb : Try.prog.underlying tb = some .bool) (hb : Below W.heap.size W W') : s.post enc Try.prog f false true false false W args (.bool true) W' := by
  have hlt : ∀ p ∈ before, p.block < W.heap.size := fun p hp => hW.lt p hp
  have hW' := hW
  obtain ⟨p, q, hA, hV, rfl, _, _⟩ := hW'
  rw [hvars] at hV
  obtain ⟨_, rfl⟩ := trodVars_none hV
  rw [List.append_nil] at hlt hW
  refine ⟨ds, [], _, [], p, [], hW, ?_, ?_, ?_, hb.frame _, fun h => by cases h⟩
  · rw [List.append_nil, hres, hr]
    exact trodAll_mk1 (shut_bool htb true)
  · rw [List.append_nil, hargs]
    exact trodAll_stays hall hA (fun x hx => hb.same (hlt x hx)) (fun x hx => by simpa using hlt x hx)
  · rw [List.append_nil, hv, hvars]
    exact (rfl : ([] : List MemPlace) = [])
end
theorem ret_true {P : Program} {G : Sg P} {u : G.U} {x : G.El u} {w w' : World} {e : Ending} (h : Ret G [u] x w e w') (hr : G.row u x = [.val (.bool true)]) (hag : G.ag u = false) : e = .returned (.bool true) ∧ Below w.heap.size w w' := by
  obtain ⟨v, rfl, hb, hret⟩ := h
  obtain ⟨m', _, _, h3⟩ := hret w.heap.size [] (fun _ => undef) ⟨fun o ob ho => by simp at ho, fun o o' ob ob' b ho => by simp at ho, Nat.le_refl _⟩
  have e1 : resT G 0 u x = .c (.pv (.val (.bool true))) := by unfold resT; rw [hr, hag]; rfl
  have h5 : RepT G w' (Rof G (newO G [u] x) m' w') (newO G [u] x).length m' (resT G 0 u x) v := h3
  rw [e1] at h5
  have h4 : RepP G w' _ (.val (.bool true)) v := h5
  cases h4 with
  | val _ _ => exact ⟨rfl, hb⟩
theorem agg_arg {P : Program} {G : Sg P} (hok : G.Ok) {u : G.U} {W : G.El u → Prop} (he : Opens G u W) {H : Type} {enc : TypeId × Value → H} {w : World} {base : Nat} {spare : Nat → Bool} {held : Bool} {r : Reach} {b0 : Nat} {v : Value} {d : DataW H} {p : List MemPlace} {fs : Array Field}
    (hu : P.underlying (G.ty u) = some (.struct fs)) (hag : G.ag u = true) (hv : Value.okWide P w r b0 (G.ty u) v) (h : DataW.Trod enc P w base spare held (G.ty u) v d p) : ∃ x : G.El u, RepU G w (AllRo w) u x v ∧ W x :=
  open_arg hok he (fun _ => by obtain ⟨⟨cs⟩, h, _⟩ := okWide_struct hu hv; exact ⟨cs, h⟩) (fun h => by rw [hag] at h; cases h) h
theorem cell_arg {P : Program} {G : Sg P} (hok : G.Ok) {u : G.U} {W : G.El u → Prop} (he : Opens G u W) {H : Type} {enc : TypeId × Value → H} {w : World} {base : Nat} {spare : Nat → Bool} {held : Bool} {r : Reach} {b0 : Nat} {v : Value} {d : DataW H} {p : List MemPlace}
    (hu : (∃ k, P.underlying (G.ty u) = some (.int k)) ∨ P.underlying (G.ty u) = some .bool ∨ P.underlying (G.ty u) = some .string ∨ ∃ e, P.underlying (G.ty u) = some (.slice e)) (hag : G.ag u = false) (hv : Value.okWide P w r b0 (G.ty u) v) (h : DataW.Trod enc P w base spare held (G.ty u) v d p) : ∃ x : G.El u, RepU G w (AllRo w) u x v ∧ W x :=
  open_arg hok he (fun h => by rw [hag] at h; cases h) (fun _ => by
    rcases hu with ⟨k, hu⟩ | hu | hu | ⟨e, hu⟩
    · obtain ⟨n, rfl⟩ := okWide_int hu hv; rfl
    · obtain ⟨n, rfl⟩ := okWide_bool hu hv; rfl
    · obtain ⟨n, rfl⟩ := okWide_string hu hv; rfl
    · obtain ⟨a, l, c, rfl⟩ := okWide_slice hu hv; rfl) h
end Go.Proofs.Ytmdghocpelkcoaa
