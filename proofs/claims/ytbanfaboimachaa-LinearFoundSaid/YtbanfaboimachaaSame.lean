
/-
  rowlockref01.SameVals: are two slices of values the same?
-/
import Derived.Test.YtbanfaboimachaaVals
import Derived.LoopTactic
namespace Go.Proofs.Ytbanfaboimachaa
open Go.RowKit
set_option linter.unusedSimpArgs false
set_option linter.unusedVariables false
variable {ok ok' : Nat → Prop}

def DrewTo (w w' : World) : Prop := ∃ n, w' = w.drewN n
theorem DrewTo.below {w w' : World} (h : DrewTo w w') : Below w.heap.size w w' := by
  obtain ⟨n, rfl⟩ := h
  exact ⟨rfl, rfl, rfl, Nat.le_refl _, fun _ _ => rfl⟩
theorem DrewTo.step {w w' : World} (h : DrewTo w w') (n : Nat) : DrewTo w (w'.drewN n) := by
  obtain ⟨m, rfl⟩ := h
  exact ⟨m + n, by simp [World.drewN, Nat.add_assoc]⟩
theorem vals_at {w : World} {A : Option Addr} {l : List Int} (h : ValsAt ok w A l) (j : Nat) (hj : j < l.length) : ∃ b, A = some b ∧ w.cell? (b.add j) = some (.int .u64 (l.getD j 0)) := by
  obtain ⟨h0, h | ⟨g, o, cells, hA, hgc, hc, _⟩⟩ := h
  · rw [h.2] at hj; exact absurd hj (Nat.not_lt_zero _)
  · refine ⟨_, hA, ?_⟩
    rw [add_at, hp_cell hgc]
    exact hc j _ (by simp [List.getD, List.getElem?_eq_getElem hj])

theorem take_more (j : Nat) (l1 l2 : List Int) (h1 : j < l1.length) (h2 : j < l2.length) (h : l1.take j = l2.take j) (hx : l1.getD j 0 = l2.getD j 0) : l1.take (j + 1) = l2.take (j + 1) := by
  rw [List.take_succ_eq_append_getElem h1, List.take_succ_eq_append_getElem h2, h]
  simp [List.getD, List.getElem?_eq_getElem h1, List.getElem?_eq_getElem h2] at hx
  rw [hx]
end Go.Proofs.Ytbanfaboimachaa
