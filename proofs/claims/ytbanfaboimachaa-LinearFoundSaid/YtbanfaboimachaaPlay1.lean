
/-
  An object and the reference's, in one state: what both answer, and what stays.
-/
import Derived.Test.YtbanfaboimachaaRef9
import Derived.Test.YtbanfaboimachaaRef10
import Derived.Test.YtbanfaboimachaaRef6
import Derived.Test.YtbanfaboimachaaOwns
namespace Go.Proofs.Ytbanfaboimachaa
open Go.RowKit
set_option linter.unusedSimpArgs false
set_option linter.unusedVariables false

inductive St where
  | nil
  | mu (o : Int)
  | se (n : Int)
  | qu (size : Int) (l : List Int)
  | ba (s : Int × Int × Int)
def stDo (c who v : Int) : St → (Int × Bool × Int) × St
  | .nil => (aErr 1, .nil)
  | .mu o => ((muDo c who v o).1, .mu (muDo c who v o).2)
  | .se n => ((seDo c who v n).1, .se (seDo c who v n).2)
  | .qu size l => ((quDo c who v (size, l)).1, .qu size (quDo c who v (size, l)).2.2)
  | .ba s => ((baDo c who v s).1, .ba (baDo c who v s).2)
abbrev okAll : Nat → Prop := fun _ => True
def OAt (B : Nat) (w : World) (x : Value) : St → Prop
  | .nil => x = .pointer none
  | .mu o => ∃ p a, x = .pointer (some ⟨p, 0, none⟩) ∧ muAt w p a o ∧ B ≤ a
  | .se n => ∃ p a, x = .pointer (some ⟨p, 0, none⟩) ∧ seAt w p a n ∧ B ≤ a
  | .qu size l => ∃ p a, x = .pointer (some ⟨p, 0, none⟩) ∧ quAt okAll w p a (size, l) ∧ B ≤ a
  | .ba s => ∃ p a, x = .pointer (some ⟨p, 0, none⟩) ∧ baAt w p a s ∧ B ≤ a
def RAt (B : Nat) (w : World) (x : Value) : St → Prop
  | .nil => x = .pointer none
  | .mu o => ∃ r, x = .pointer (some ⟨r, 0, none⟩) ∧ RIn okAll w r 1 0 o 0 0 [] ∧ B ≤ r
  | .se n => ∃ r size, x = .pointer (some ⟨r, 0, none⟩) ∧ RIn okAll w r 2 size (-1) n 0 [] ∧ B ≤ r ∧ (0 ≤ n ∧ n ≤ 99)
  | .qu size l => ∃ r, x = .pointer (some ⟨r, 0, none⟩) ∧ RIn okAll w r 3 size (-1) 0 0 l ∧ B ≤ r
  | .ba s => ∃ r, x = .pointer (some ⟨r, 0, none⟩) ∧ RIn okAll w r 4 s.1 (-1) s.2.1 s.2.2 [] ∧ B ≤ r
/-- At most one block that was there has been written, of such a type, from B on. -/
def Touch (t : TypeId → Prop) (B : Nat) (w w' : World) : Prop := Below w.heap.size w w' ∨ ∃ g cs ty, w.grownBy w' (some g) ∧ B ≤ g ∧ w.heap[g]? = some (.cells cs ty (0, 0)) ∧ t ty
def tO (ty : TypeId) : Prop := ty = 63 ∨ ty = 70 ∨ ty = 74 ∨ ty = 77
def tR (ty : TypeId) : Prop := ty = 86
variable {B : Nat} {w w1 : World} {x : Value} {st : St}
theorem quDo_size (c who v size : Int) (l : List Int) : (size, (quDo c who v (size, l)).2.2) = (quDo c who v (size, l)).2 := by
  unfold quDo quStep
  cases badB (quTk c) c who v <;> cases (c == 6 && decide (0 < l.length)) <;> cases (c == 5 && decide ((l.length : Int) < size)) <;> rfl
theorem baDo_size (c who v : Int) (s : Int × Int × Int) : (baDo c who v s).2.1 = s.1 := by
  unfold baDo baStep
  cases badB (baTk c) c who v <;> cases (c == 8) <;> cases (lessB v (intV s.2.2)) <;> cases (wrap64 (s.2.1 + 1) == s.1) <;> rfl
theorem seDo_range (c who v n : Int) (hn : 0 ≤ n ∧ n ≤ 99) : 0 ≤ (seDo c who v n).2 ∧ (seDo c who v n).2 ≤ 99 := by
  obtain ⟨⟨⟨av, ab, ae⟩, s'⟩, hr⟩ : ∃ r, seDo c who v n = r := ⟨_, rfl⟩
  rw [hr]
  have := seDo_ways c who v n av ab ae s' hn.1 hn.2 hr
  dsimp only
  omega
theorem oDo_any (c who v : Int) (hv : W64 v) (w : World) (H : OAt B w x st) : Calls Try.prog 34 #[x, callV c who v] w fun e w' => e = .returned (ansV (stDo c who v st).1) ∧ OAt B w' x (stDo c who v st).2 ∧ Touch tO B w w' := by
  cases st with
  | nil =>
    obtain rfl : x = .pointer none := H
    exact (oNilDo c who v w).mono fun e w' ⟨h1, h2⟩ => ⟨h1, rfl, .inl h2⟩
  | mu o =>
    obtain ⟨p, a, rfl, h, hB⟩ := H
    exact (muDo_any p a o c who v hv w h).mono fun e w' ⟨h1, h2, h3⟩ => ⟨h1, ⟨p, a, rfl, h2, hB⟩, .inr ⟨a, _, _, h3, hB, h.2, .inl rfl⟩⟩
  | se n =>
    obtain ⟨p, a, rfl, h, hB⟩ := H
    exact (seDo_any p a n c who v hv w h).mono fun e w' ⟨h1, h2, h3⟩ => ⟨h1, ⟨p, a, rfl, h2, hB⟩, .inr ⟨a, _, _, h3, hB, h.2.1, .inr (.inl rfl)⟩⟩
  | qu size l =>
    obtain ⟨p, a, rfl, h, hB⟩ := H
    obtain ⟨_, _, A, cc, hh, _⟩ := h.2
    exact (quDo_any p a (size, l) c who v hv w h).mono fun e w' ⟨h1, h2, h3⟩ => ⟨h1, ⟨p, a, rfl, by rw [show (size, (quDo c who v (size, l)).2.2) = (quDo c who v (size, l)).2 from quDo_size c who v size l]; exact h2, hB⟩, .inr ⟨a, _, _, h3, hB, hh, .inr (.inr (.inl rfl))⟩⟩
  | ba s =>
    obtain ⟨p, a, rfl, h, hB⟩ := H
    exact (baDo_any p a s c who v hv w h).mono fun e w' ⟨h1, h2, h3⟩ => ⟨h1, ⟨p, a, rfl, h2, hB⟩, .inr ⟨a, _, _, h3, hB, h.2, .inr (.inr (.inr rfl))⟩⟩
theorem rDo_any (c who v : Int) (hv : W64 v) (w : World) (H : RAt B w x st) : Calls Try.prog 37 #[x, callV c who v] w fun e w' => e = .returned (ansV (stDo c who v st).1) ∧ RAt B w' x (stDo c who v st).2 ∧ Touch tR B w w' := by
  cases st with
  | nil =>
    obtain rfl : x = .pointer none := H
    exact (rNilDo c who v w).mono fun e w' ⟨h1, h2⟩ => ⟨h1, rfl, .inl h2⟩
  | mu o =>
    obtain ⟨r, rfl, h, hB⟩ := H
    obtain ⟨_, _, A, cc, hh, _⟩ := id h
    exact (rDo1_any o c who v hv w h).mono fun e w' ⟨h1, h2, h3⟩ => ⟨h1, ⟨r, rfl, h2, hB⟩, .inr ⟨r, _, _, h3, hB, hh, rfl⟩⟩
  | se n =>
    obtain ⟨r, size, rfl, h, hB, hn⟩ := H
    obtain ⟨_, _, A, cc, hh, _⟩ := id h
    exact (rDo2_any n c who v hv w h hn).mono fun e w' ⟨h1, h2, h3⟩ => ⟨h1, ⟨r, size, rfl, h2, hB, seDo_range c who v n hn⟩, .inr ⟨r, _, _, h3, hB, hh, rfl⟩⟩
  | qu size l =>
    obtain ⟨r, rfl, h, hB⟩ := H
    obtain ⟨_, _, A, cc, hh, _⟩ := id h
    exact (rDo3_any l c who v hv w h).mono fun e w' ⟨h1, h2, h3⟩ => ⟨h1, ⟨r, rfl, h2, hB⟩, .inr ⟨r, _, _, h3, hB, hh, rfl⟩⟩
  | ba s =>
    obtain ⟨size, n, gen⟩ := s
    obtain ⟨r, rfl, h, hB⟩ := H
    obtain ⟨_, _, A, cc, hh, _⟩ := id h
    exact (rDo4_any n gen c who v hv w h).mono fun e w' ⟨h1, h2, h3⟩ => ⟨h1, ⟨r, rfl, by rw [baDo_size]; exact h2, hB⟩, .inr ⟨r, _, _, h3, hB, hh, rfl⟩⟩
theorem Touch.below {t : TypeId → Prop} {W : World} (h : Touch t W.heap.size w w1) (hb : Below W.heap.size W w) : Below W.heap.size W w1 := by
  rcases h with h | ⟨g, cs, ty, hg, hB, _⟩
  · exact hb.trans (h.mono hb.size)
  · exact gb_to_below hb hb.size hg hB
theorem Touch.cells {t : TypeId → Prop} {g : Nat} {cs : Array Value} {ty : TypeId} (h : Touch t B w w1) (hh : w.heap[g]? = some (.cells cs ty (0, 0))) (ht : ¬ t ty) : w1.heap[g]? = some (.cells cs ty (0, 0)) := by
  rcases h with h | ⟨g', cs', ty', hg, hB, hh', ht'⟩
  · exact hp_below hh h
  · refine hp_grown hh hg ?_
    intro e
    simp only [Option.some.injEq] at e
    subst e
    rw [hh] at hh'
    simp only [Option.some.injEq, Obj.cells.injEq] at hh'
    exact ht (hh'.2.1 ▸ ht')
theorem OAt_below (h : OAt B w x st) (hb : Below w.heap.size w w1) : OAt B w1 x st := by
  cases st with
  | nil => exact h
  | mu o => obtain ⟨p, a, e, h, hB⟩ := h; exact ⟨p, a, e, muAt_below h hb, hB⟩
  | se n => obtain ⟨p, a, e, h, hB⟩ := h; exact ⟨p, a, e, seAt_below h hb, hB⟩
  | qu size l => obtain ⟨p, a, e, h, hB⟩ := h; exact ⟨p, a, e, quAt_below h hb, hB⟩
  | ba s => obtain ⟨p, a, e, h, hB⟩ := h; exact ⟨p, a, e, baAt_below h hb, hB⟩
theorem RAt_below (h : RAt B w x st) (hb : Below w.heap.size w w1) : RAt B w1 x st := by
  cases st with
  | nil => exact h
  | mu o => obtain ⟨r, e, h, hB⟩ := h; exact ⟨r, e, RIn_below h hb, hB⟩
  | se n => obtain ⟨r, size, e, h, hB⟩ := h; exact ⟨r, size, e, RIn_below h hb, hB⟩
  | qu size l => obtain ⟨r, e, h, hB⟩ := h; exact ⟨r, e, RIn_below h hb, hB⟩
  | ba s => obtain ⟨r, e, h, hB⟩ := h; exact ⟨r, e, RIn_below h hb, hB⟩
theorem OAt_touch (h : OAt B w x st) (ht : Touch tR B w w1) : OAt B w1 x st := by
  rcases ht with hb | ⟨g, cs, ty, hg, hB', hh, rfl⟩
  · exact OAt_below h hb
  cases st with
  | nil => exact h
  | mu o => obtain ⟨p, a, e, h, hB⟩ := h; exact ⟨p, a, e, muAt_other h hh hg (by decide) (hp_ne hh h.2 (by decide)) (by decide), hB⟩
  | se n => obtain ⟨p, a, e, h, hB⟩ := h; exact ⟨p, a, e, seAt_other h hh hg (by decide) (hp_ne hh h.2.1 (by decide)) (by decide), hB⟩
  | qu size l =>
    obtain ⟨p, a, e, h, hB⟩ := h
    obtain ⟨_, _, A, cc, hq, _⟩ := h.2
    exact ⟨p, a, e, quAt_other h hh hg (by decide) (hp_ne hh hq (by decide)) (by decide), hB⟩
  | ba s => obtain ⟨p, a, e, h, hB⟩ := h; exact ⟨p, a, e, baAt_other h hh hg (by decide) (hp_ne hh h.2 (by decide)) (by decide), hB⟩
theorem RAt_touch (h : RAt B w x st) (ht : Touch tO B w w1) : RAt B w1 x st := by
  rcases ht with hb | ⟨g, cs, ty, hg, hB', hh, ht⟩
  · exact RAt_below h hb
  have h85 : ty ≠ 86 := by rcases ht with rfl | rfl | rfl | rfl <;> decide
  have h29 : ty ≠ 37 := by rcases ht with rfl | rfl | rfl | rfl <;> decide
  cases st with
  | nil => exact h
  | mu o =>
    obtain ⟨r, e, h, hB⟩ := h
    obtain ⟨_, _, A, cc, hq, _⟩ := id h
    exact ⟨r, e, RIn_other h hh hg (hp_ne hh hq h85) h29, hB⟩
  | se n =>
    obtain ⟨r, size, e, h, hB⟩ := h
    obtain ⟨_, _, A, cc, hq, _⟩ := id h
    exact ⟨r, size, e, RIn_other h hh hg (hp_ne hh hq h85) h29, hB⟩
  | qu size l =>
    obtain ⟨r, e, h, hB⟩ := h
    obtain ⟨_, _, A, cc, hq, _⟩ := id h
    exact ⟨r, e, RIn_other h hh hg (hp_ne hh hq h85) h29, hB⟩
  | ba s =>
    obtain ⟨r, e, h, hB⟩ := h
    obtain ⟨_, _, A, cc, hq, _⟩ := id h
    exact ⟨r, e, RIn_other h hh hg (hp_ne hh hq h85) h29, hB⟩
end Go.Proofs.Ytbanfaboimachaa
