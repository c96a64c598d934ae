
/-
  Rows of whole numbers and of bools: a cell, a store, the last one away.
-/
import Derived.Test.YtcjkpeojjonpiaaBools
namespace Go.Proofs.Ytcjkpeojjonpiaa
open Go.RowKit
set_option linter.unusedSimpArgs false
set_option linter.unusedVariables false

def ivAt (hp : List Int) (i : Nat) : Int := (hp[i]?).getD 0
theorem iv_get {hp : List Int} {i : Nat} (h : i < hp.length) : hp[i]? = some (ivAt hp i) := by unfold ivAt; rw [List.getElem?_eq_getElem h]; rfl
theorem irow_cp {w : World} {base c : Nat} {A : Option Addr} {l : List Int} (h : IRowAt w base A c l) : l.length ≤ c ∧ (A = none → c = 0) := by
  obtain ⟨A', c', hv, h2, _, h3, h4, _⟩ := ints_own (ok := fun _ => True) h.1 h.2 (fun _ _ => trivial)
  simp only [Value.slice.injEq, true_and] at hv
  obtain ⟨rfl, rfl⟩ := hv
  exact ⟨h2, h4⟩
theorem irow_set {w : World} {base c g i : Nat} {l : List Int} {v : Int} (h : IRowAt w base (some ⟨g, 0, none⟩) c l) (hi : i < l.length) (hv : I64 v) : IRowAt (w.setCell ⟨g, i, none⟩ (.int .i64 v)) base (some ⟨g, 0, none⟩) c (l.set i v) := by
  refine ⟨?_, fun x hx => ?_⟩
  · obtain ⟨h1, h2⟩ := h.1
    refine ⟨by rw [intsC_len, List.length_set]; simp, ?_⟩
    rcases h2 with ⟨hv', h0⟩ | ⟨g', cap, cur, hv', hb, hg, hcap, hm, hs, ht⟩
    · omega
    · simp only [Value.slice.injEq, Option.some.injEq, Addr.mk.injEq] at hv'
      obtain ⟨⟨rfl, _⟩, _, rfl⟩ := hv'
      refine .inr ⟨g, c, cur.setIfInBounds i (.int .i64 v), by rw [List.length_set], hb, hp_put hg i _ rfl, by rw [List.length_set]; exact hcap, hm, by rw [Array.size_setIfInBounds]; exact hs, ?_⟩
      rw [Array.toList_setIfInBounds, List.length_set]
      have e : intsC (l.set i v) = (intsC l).set i (.int .i64 v) := by unfold intsC; rw [List.map_set]
      rw [e, ← ht, List.take_set]
  · rcases List.mem_or_eq_of_mem_set hx with hx | hx
    · exact h.2 x hx
    · rw [hx]; exact hv
theorem irow_head {w : World} {base c : Nat} {A : Option Addr} {l : List Int} (h : IRowAt w base A c l) {i : Nat} (hi : i < l.length) : ∃ g, A = some ⟨g, 0, none⟩ ∧ w.cell? ⟨g, i, none⟩ = some (.int .i64 (ivAt l i)) ∧ w.frozen? ⟨g, i, none⟩ = false ∧ g < w.heap.size := by
  have hv := (irow_vals h).1
  rcases h.1.2 with ⟨hn, h0⟩ | ⟨g, cap, cur, hn, hb, hg, hcap, hm, hs, ht⟩
  · omega
  · simp only [Value.slice.injEq] at hn
    obtain ⟨rfl, _⟩ := hn
    have := ints_cell hv i _ (by rw [intsC_get, iv_get hi]; rfl)
    rw [add_at, Nat.zero_add] at this
    exact ⟨g, rfl, this, hp_frozen hg i, hp_lt hg⟩
theorem irow_pp {w : World} {base c n : Nat} {A : Option Addr} {l : List Int} (h : IRowAt w base A c l) (hn : l.length = n + 1) : IRowAt w base A c l.dropLast := by
  refine ⟨?_, fun x hx => h.2 x (List.dropLast_subset l hx)⟩
  have hl : l.dropLast.length = n := by rw [List.length_dropLast]; omega
  obtain ⟨h1, h2⟩ := h.1
  refine ⟨by rw [intsC_len]; omega, ?_⟩
  rcases h2 with ⟨hv, h0⟩ | ⟨g, cap, cur, hv, hb, hg, hcap, hm, hs, ht⟩
  · omega
  · simp only [Value.slice.injEq] at hv
    obtain ⟨e1, _, e3⟩ := hv
    refine .inr ⟨g, cap, cur, by rw [e1, ← e3], hb, hg, by omega, hm, hs, ?_⟩
    have e : intsC l.dropLast = (intsC l).take n := by
      unfold intsC
      rw [List.dropLast_eq_take, ← List.map_take, hn]
      rfl
    rw [e, ← ht, List.take_take]
    congr 1
    simp
    omega
def lvAt (hp : List Bool) (i : Nat) : Bool := (hp[i]?).getD false
theorem lv_get {hp : List Bool} {i : Nat} (h : i < hp.length) : hp[i]? = some (lvAt hp i) := by unfold lvAt; rw [List.getElem?_eq_getElem h]; rfl
theorem lrow_cap {w : World} {base c : Nat} {A : Option Addr} {l : List Bool} (h : LRowAt w base A c l) : l.length ≤ c ∧ (A = none → c = 0) := by
  obtain ⟨A', c', hv, h2, _, h3, h4, _⟩ := bools_own (ok := fun _ => True) h.1 h.2 (fun _ _ => trivial)
  simp only [Value.slice.injEq, true_and] at hv
  obtain ⟨rfl, rfl⟩ := hv
  exact ⟨h2, h4⟩
theorem lrow_set {w : World} {base c g i : Nat} {l : List Bool} {v : Bool} (h : LRowAt w base (some ⟨g, 0, none⟩) c l) (hi : i < l.length) (hv : TB v) : LRowAt (w.setCell ⟨g, i, none⟩ (.bool v)) base (some ⟨g, 0, none⟩) c (l.set i v) := by
  refine ⟨?_, fun x hx => ?_⟩
  · obtain ⟨h1, h2⟩ := h.1
    refine ⟨by rw [boolsC_len, List.length_set]; simp, ?_⟩
    rcases h2 with ⟨hv', h0⟩ | ⟨g', cap, cur, hv', hb, hg, hcap, hm, hs, ht⟩
    · omega
    · simp only [Value.slice.injEq, Option.some.injEq, Addr.mk.injEq] at hv'
      obtain ⟨⟨rfl, _⟩, _, rfl⟩ := hv'
      refine .inr ⟨g, c, cur.setIfInBounds i (.bool v), by rw [List.length_set], hb, hp_put hg i _ rfl, by rw [List.length_set]; exact hcap, hm, by rw [Array.size_setIfInBounds]; exact hs, ?_⟩
      rw [Array.toList_setIfInBounds, List.length_set]
      have e : boolsC (l.set i v) = (boolsC l).set i (.bool v) := by unfold boolsC; rw [List.map_set]
      rw [e, ← ht, List.take_set]
  · rcases List.mem_or_eq_of_mem_set hx with hx | hx
    · exact h.2 x hx
    · rw [hx]; exact hv
theorem lrow_head {w : World} {base c : Nat} {A : Option Addr} {l : List Bool} (h : LRowAt w base A c l) {i : Nat} (hi : i < l.length) : ∃ g, A = some ⟨g, 0, none⟩ ∧ w.cell? ⟨g, i, none⟩ = some (.bool (lvAt l i)) ∧ w.frozen? ⟨g, i, none⟩ = false ∧ g < w.heap.size := by
  have hv := (lrow_vals h).1
  rcases h.1.2 with ⟨hn, h0⟩ | ⟨g, cap, cur, hn, hb, hg, hcap, hm, hs, ht⟩
  · omega
  · simp only [Value.slice.injEq] at hn
    obtain ⟨rfl, _⟩ := hn
    have := bools_cell hv i _ (by rw [boolsC_get, lv_get hi]; rfl)
    rw [add_at, Nat.zero_add] at this
    exact ⟨g, rfl, this, hp_frozen hg i, hp_lt hg⟩
end Go.Proofs.Ytcjkpeojjonpiaa
