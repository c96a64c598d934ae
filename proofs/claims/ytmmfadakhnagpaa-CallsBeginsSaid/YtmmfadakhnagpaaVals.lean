
/-
  Slices of values: what stands in them; slices.Clip, slices.Clone.
-/
import Derived.Test.YtmmfadakhnagpaaObj1
import Derived.WalkSpells
import Derived.Laws.OwnMore
import Derived.OwnWalk
import Derived.ArgAppend
import Derived.Outline
namespace Go.Proofs.Ytmmfadakhnagpaa
open Go.RowKit
set_option linter.unusedSimpArgs false
set_option linter.unusedVariables false
variable {ok : Nat → Prop}

def valsC (l : List Int) : List Value := l.map (Value.int .u64)
theorem valsC_len (l : List Int) : (valsC l).length = l.length := by simp [valsC]
theorem valsC_append (l m : List Int) : valsC (l ++ m) = valsC l ++ valsC m := by simp [valsC]
theorem valsC_one (l : List Int) : ∀ u ∈ valsC l, u.oneCell' = true := by
  intro u h
  simp only [valsC, List.mem_map] at h
  obtain ⟨x, _, rfl⟩ := h
  rfl
theorem valsC_get (l : List Int) (j : Nat) : (valsC l)[j]? = (l[j]?).map (Value.int .u64) := by simp [valsC]
theorem add_at (g o j : Nat) : (⟨g, o, none⟩ : Addr).add j = ⟨g, o + j, none⟩ := by
  unfold Addr.add
  split <;> simp_all

/-- A slice's values: it is nil and there are none, or they stand in a row of values. -/
def ValsAt (ok : Nat → Prop) (w : World) (A : Option Addr) (l : List Int) : Prop :=
  (∀ v ∈ l, W64 v) ∧ ((A = none ∧ l = []) ∨ ∃ g o cells, A = some ⟨g, o, none⟩ ∧ w.heap[g]? = some (.cells cells 53 (0, 0)) ∧ (∀ j v, l[j]? = some v → cells[o + j]? = some (.int .u64 v)) ∧ ok g)
theorem vals_below {w w1 : World} {A : Option Addr} {l : List Int} (h : ValsAt ok w A l) (hb : Below w.heap.size w w1) : ValsAt ok w1 A l := by
  obtain ⟨h0, h | ⟨g, o, cells, hA, hg, hc, hk⟩⟩ := h
  · exact ⟨h0, .inl h⟩
  · exact ⟨h0, .inr ⟨g, o, cells, hA, hp_below hg hb, hc, hk⟩⟩
theorem vals_other {w w1 : World} {A : Option Addr} {l : List Int} {r : Nat} {cs : Array Value} {t : TypeId} (h : ValsAt ok w A l) (hr : w.heap[r]? = some (.cells cs t (0, 0))) (ht : t ≠ 53) (hg : w.grownBy w1 (some r)) : ValsAt ok w1 A l := by
  obtain ⟨h0, h | ⟨g, o, cells, hA, hgc, hc, hk⟩⟩ := h
  · exact ⟨h0, .inl h⟩
  · exact ⟨h0, .inr ⟨g, o, cells, hA, hp_grown hgc hg (by simpa using hp_ne hgc hr ht.symm), hc, hk⟩⟩
theorem vals_far {w : World} {A : Option Addr} {l : List Int} {r : Nat} {cs : Array Value} {t : TypeId} (h : ValsAt ok w A l) (hr : w.heap[r]? = some (.cells cs t (0, 0))) (ht : t ≠ 53) (j : Nat) (u : Value) : ValsAt ok (w.setCell ⟨r, j, none⟩ u) A l := by
  obtain ⟨h0, h | ⟨g, o, cells, hA, hgc, hc, hk⟩⟩ := h
  · exact ⟨h0, .inl h⟩
  · exact ⟨h0, .inr ⟨g, o, cells, hA, hp_far hgc (hp_ne hgc hr ht.symm) u, hc, hk⟩⟩
theorem vals_cell {w : World} {b : Addr} {l : List Int} (h : ValsAt ok w (some b) l) : ∀ j u, (valsC l)[j]? = some u → w.cell? (b.add j) = some u := by
  intro j u hu
  rw [valsC_get] at hu
  obtain ⟨v, hv, rfl⟩ := Option.map_eq_some_iff.mp hu
  obtain ⟨h0, h | ⟨g, o, cells, hA, hgc, hc, hk⟩⟩ := h
  · cases h.1
  · obtain rfl := Option.some.inj hA
    rw [add_at, hp_cell hgc]
    exact hc j v hv
theorem vals_none {w : World} {l : List Int} (h : ValsAt ok w none l) : l = [] := by
  obtain ⟨_, h | ⟨g, o, cells, hA, _⟩⟩ := h
  · exact h.2
  · cases hA
theorem vals_own {w : World} {base n : Nat} {v : Value} {l : List Int} (h : w.ownsRow base 53 1 v n (valsC l)) (h0 : ∀ v ∈ l, W64 v) (hok : ∀ k, base ≤ k → ok k) : ∃ A c, v = .slice A l.length c ∧ l.length ≤ c ∧ c ≤ maxLen ∧ ValsAt ok w A l ∧ (A = none → c = 0) ∧ (∀ b, A = some b → base ≤ b.block) := by
  obtain ⟨hl, h⟩ := h
  rw [valsC_len, Nat.mul_one] at hl
  rcases h with ⟨rfl, hn⟩ | ⟨g, cap, cur, rfl, hb, hg, hcap, hm, hs, ht⟩
  · have : l = [] := List.eq_nil_of_length_eq_zero (by omega)
    subst this
    exact ⟨none, 0, rfl, Nat.le_refl _, Nat.zero_le _, ⟨h0, .inl ⟨rfl, rfl⟩⟩, fun _ => rfl, fun b hb => by cases hb⟩
  · refine ⟨some ⟨g, 0, none⟩, cap, by rw [hl], by omega, hm, ⟨h0, .inr ⟨g, 0, cur, rfl, hg, fun j v hv => ?_, hok g hb⟩⟩, (fun h => by cases h), fun b hb' => by cases hb'; exact hb⟩
    have hj : (valsC l)[j]? = some (.int .u64 v) := by rw [valsC_get, hv]; rfl
    rw [← ht, List.getElem?_take] at hj
    split at hj
    · rw [Nat.zero_add]; simpa using hj
    · cases hj

theorem vals_mono {ok ok' : Nat → Prop} {w : World} {A : Option Addr} {l : List Int} (h : ValsAt ok w A l) (hk : ∀ k, k < w.heap.size → ok k → ok' k) : ValsAt ok' w A l := by
  obtain ⟨h0, h | ⟨g, o, cells, hA, hg, hc, hk'⟩⟩ := h
  · exact ⟨h0, .inl h⟩
  · exact ⟨h0, .inr ⟨g, o, cells, hA, hg, hc, hk g (hp_lt hg) hk'⟩⟩
/-- Blocks that are not among those may have been written. -/
theorem vals_row {w w1 : World} {A : Option Addr} {l : List Int} {r : Option Nat} (h : ValsAt ok w A l) (hg : w.grownBy w1 r) (hr : ∀ k, ok k → some k ≠ r) : ValsAt ok w1 A l := by
  obtain ⟨h0, h | ⟨g, o, cells, hA, hgc, hc, hk⟩⟩ := h
  · exact ⟨h0, .inl h⟩
  · exact ⟨h0, .inr ⟨g, o, cells, hA, hp_grown hgc hg (hr g hk), hc, hk⟩⟩

theorem Val_info : (Try.prog.info? 53).map (fun i => (i.zero, i.size, i.bytes)) = some (some (.int .u64 0), 1, 8) := by kernel_rfl
def ClonePost (l : List Int) (w : World) (e : Ending) (w' : World) : Prop := ∃ A' c', e = .returned (.slice A' l.length c') ∧ l.length ≤ c' ∧ c' ≤ maxLen ∧ ValsAt (fun k => w.heap.size ≤ k) w' A' l ∧ (A' = none → c' = 0) ∧ Below w.heap.size w w'
end Go.Proofs.Ytmmfadakhnagpaa
