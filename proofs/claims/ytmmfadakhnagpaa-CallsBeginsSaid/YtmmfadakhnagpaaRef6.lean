
/-
  The reference's New.
-/
import Derived.Test.YtmmfadakhnagpaaRef1
namespace Go.Proofs.Ytmmfadakhnagpaa
open Go.RowKit
set_option linter.unusedSimpArgs false
set_option linter.unusedVariables false
variable {ok : Nat → Prop}

def RNew (ok : Nat → Prop) (k size owner n gen : Int) (w : World) (e : Ending) (w' : World) : Prop := ∃ r, e = .returned (.pointer (some ⟨r, 0, none⟩)) ∧ RIn ok w' r k size owner n gen [] ∧ Below w.heap.size w w' ∧ w.heap.size ≤ r
theorem rin_new {W : World} {k size owner n gen : Int} {r : Nat} (hok : ∀ k, ok k) (hk : k = 3 → size ≤ 4) (h : W.heap[r]? = some (.cells #[.int .u8 k, .int .i64 size, .int .i64 owner, .int .i64 n, .int .i64 gen, .slice none 0 0] 77 (0, 0))) : RIn ok W r k size owner n gen [] :=
  ⟨fun k _ => hok k, ⟨by simp, hk⟩, none, 0, h, Nat.le_refl _, fun _ => rfl, fun v hv => (List.not_mem_nil hv).elim, .inl ⟨rfl, rfl⟩⟩
theorem rNew1 (hok : ∀ k, ok k) (w : World) : Calls Try.prog 14 #[.int .u8 1, .int .i64 0] w (RNew ok 1 0 (-1) 0 0 w) := by
  go_enter Try.func14, Try.ntmps14
  go_wp2
  go_ret
  exact ⟨w.heap.size, rfl, rin_new hok (by omega) (heap_alloc_new w _), (Below.refl _ _).alloc (Nat.le_refl _) _, Nat.le_refl _⟩
theorem rNew2 (hok : ∀ k, ok k) (n : Int) (h0 : 0 ≤ n) (h1 : n ≤ 9) (w : World) : Calls Try.prog 14 #[.int .u8 2, .int .i64 n] w (RNew ok 2 n (-1) n 0 w) := by
  go_enter Try.func14, Try.ntmps14
  go_wp2
  go_ret
  exact ⟨w.heap.size, rfl, rin_new hok (by omega) (heap_alloc_new w _), (Below.refl _ _).alloc (Nat.le_refl _) _, Nat.le_refl _⟩
theorem rNew3 (hok : ∀ k, ok k) (n : Int) (h0 : 1 ≤ n) (h1 : n ≤ 4) (w : World) : Calls Try.prog 14 #[.int .u8 3, .int .i64 n] w (RNew ok 3 n (-1) 0 0 w) := by
  go_enter Try.func14, Try.ntmps14
  go_wp2
  go_ret
  exact ⟨w.heap.size, rfl, rin_new hok (fun _ => h1) (heap_alloc_new w _), (Below.refl _ _).alloc (Nat.le_refl _) _, Nat.le_refl _⟩
theorem rNew4 (hok : ∀ k, ok k) (n : Int) (h0 : 1 ≤ n) (h1 : n ≤ 4) (w : World) : Calls Try.prog 14 #[.int .u8 4, .int .i64 n] w (RNew ok 4 n (-1) 0 0 w) := by
  go_enter Try.func14, Try.ntmps14
  go_wp2
  go_ret
  exact ⟨w.heap.size, rfl, rin_new hok (by omega) (heap_alloc_new w _), (Below.refl _ _).alloc (Nat.le_refl _) _, Nat.le_refl _⟩
/-- No such object: both say nil. -/
def goodB (k size : Int) : Bool := bif k == 1 then size == 0 else bif k == 2 then decide (0 ≤ size) && decide (size ≤ 9) else bif k == 3 then decide (1 ≤ size) && decide (size ≤ 4) else bif k == 4 then decide (1 ≤ size) && decide (size ≤ 4) else false
theorem rNew0 (k size : Int) (h : goodB k size = false) (w : World) : Calls Try.prog 14 #[.int .u8 k, .int .i64 size] w fun e w' => e = .returned (.pointer none) ∧ Below w.heap.size w w' := by
  unfold goodB at h
  cases h1 : (k == 1)
  · cases h2 : (k == 2)
    · cases h3 : (k == 3)
      · cases h4 : (k == 4)
        · clear h
          go_enter Try.func14, Try.ntmps14
          go_wp2
          go_ret
          exact ⟨rfl, (Below.refl _ _).alloc (Nat.le_refl _) _⟩
        · rw [h1, h2, h3, h4] at h
          simp only [cond_false, cond_true] at h
          cases h5 : decide (1 ≤ size)
          · clear h
            go_enter Try.func14, Try.ntmps14
            go_wp2
            go_ret
            exact ⟨rfl, (Below.refl _ _).alloc (Nat.le_refl _) _⟩
          · rw [h5, Bool.true_and] at h
            go_enter Try.func14, Try.ntmps14
            go_wp2
            go_ret
            exact ⟨rfl, (Below.refl _ _).alloc (Nat.le_refl _) _⟩
      · rw [h1, h2, h3] at h
        simp only [cond_false, cond_true] at h
        cases h5 : decide (1 ≤ size)
        · clear h
          go_enter Try.func14, Try.ntmps14
          go_wp2
          go_ret
          exact ⟨rfl, (Below.refl _ _).alloc (Nat.le_refl _) _⟩
        · rw [h5, Bool.true_and] at h
          go_enter Try.func14, Try.ntmps14
          go_wp2
          go_ret
          exact ⟨rfl, (Below.refl _ _).alloc (Nat.le_refl _) _⟩
    · rw [h1, h2] at h
      simp only [cond_false, cond_true] at h
      cases h5 : decide (0 ≤ size)
      · clear h
        go_enter Try.func14, Try.ntmps14
        go_wp2
        go_ret
        exact ⟨rfl, by (repeat (with_reducible first | (refine bl_alloc ?_ (by first | exact Nat.le_refl _ | (simp; done)) _) | (refine bl_new ?_ (by simp) _))); exact Below.refl _ _⟩
      · rw [h5, Bool.true_and] at h
        go_enter Try.func14, Try.ntmps14
        go_wp2
        go_ret
        exact ⟨rfl, by (repeat (with_reducible first | (refine bl_alloc ?_ (by first | exact Nat.le_refl _ | (simp; done)) _) | (refine bl_new ?_ (by simp) _))); exact Below.refl _ _⟩
  · rw [h1] at h
    simp only [cond_true] at h
    go_enter Try.func14, Try.ntmps14
    go_wp2
    go_ret
    exact ⟨rfl, (Below.refl _ _).alloc (Nat.le_refl _) _⟩
set_option maxHeartbeats 1600000 in
theorem oNew0 (k size : Int) (h : goodB k size = false) (w : World) : Calls Try.prog 18 #[.int .u8 k, .int .i64 size] w fun e w' => e = .returned (.pointer none) ∧ Below w.heap.size w w' := by
  unfold goodB at h
  cases h1 : (k == 1)
  · cases h2 : (k == 2)
    · cases h3 : (k == 3)
      · cases h4 : (k == 4)
        · clear h
          go_enter Try.func18, Try.ntmps18
          go_wp2
          go_ret
          exact ⟨rfl, by (repeat (with_reducible first | (refine bl_alloc ?_ (by first | exact Nat.le_refl _ | (simp; done)) _) | (refine bl_new ?_ (by simp) _))); exact Below.refl _ _⟩
        · rw [h1, h2, h3, h4] at h
          simp only [cond_false, cond_true] at h
          obtain rfl : k = 4 := eq_of_beq h4
          clear h1 h2 h3 h4
          cases h5 : decide (1 ≤ size)
          · clear h
            go_enter Try.func18, Try.ntmps18
            go_wp2
            go_ret
            exact ⟨rfl, by (repeat (with_reducible first | (refine bl_alloc ?_ (by first | exact Nat.le_refl _ | (simp; done)) _) | (refine bl_new ?_ (by simp) _))); exact Below.refl _ _⟩
          · rw [h5, Bool.true_and] at h
            go_enter Try.func18, Try.ntmps18
            go_wp2
            go_ret
            exact ⟨rfl, by (repeat (with_reducible first | (refine bl_alloc ?_ (by first | exact Nat.le_refl _ | (simp; done)) _) | (refine bl_new ?_ (by simp) _))); exact Below.refl _ _⟩
      · rw [h1, h2, h3] at h
        simp only [cond_false, cond_true] at h
        obtain rfl : k = 3 := eq_of_beq h3
        clear h1 h2 h3
        cases h5 : decide (1 ≤ size)
        · clear h
          go_enter Try.func18, Try.ntmps18
          go_wp2
          go_ret
          exact ⟨rfl, by (repeat (with_reducible first | (refine bl_alloc ?_ (by first | exact Nat.le_refl _ | (simp; done)) _) | (refine bl_new ?_ (by simp) _))); exact Below.refl _ _⟩
        · rw [h5, Bool.true_and] at h
          go_enter Try.func18, Try.ntmps18
          go_wp2
          go_ret
          exact ⟨rfl, by (repeat (with_reducible first | (refine bl_alloc ?_ (by first | exact Nat.le_refl _ | (simp; done)) _) | (refine bl_new ?_ (by simp) _))); exact Below.refl _ _⟩
    · rw [h1, h2] at h
      simp only [cond_false, cond_true] at h
      obtain rfl : k = 2 := eq_of_beq h2
      clear h1 h2
      cases h5 : decide (0 ≤ size)
      · clear h
        go_enter Try.func18, Try.ntmps18
        go_wp2
        go_ret
        exact ⟨rfl, by (repeat (with_reducible first | (refine bl_alloc ?_ (by first | exact Nat.le_refl _ | (simp; done)) _) | (refine bl_new ?_ (by simp) _))); exact Below.refl _ _⟩
      · rw [h5, Bool.true_and] at h
        go_enter Try.func18, Try.ntmps18
        go_wp2
        go_ret
        exact ⟨rfl, by (repeat (with_reducible first | (refine bl_alloc ?_ (by first | exact Nat.le_refl _ | (simp; done)) _) | (refine bl_new ?_ (by simp) _))); exact Below.refl _ _⟩
  · rw [h1] at h
    simp only [cond_true] at h
    obtain rfl : k = 1 := eq_of_beq h1
    have hz : size ≠ 0 := by simpa using h
    clear h1 h
    by_cases hs : 0 ≤ size
    · have e1 : decide (0 ≤ size) = true := decide_eq_true hs
      have e2 : decide (size ≤ 0) = false := decide_eq_false (by omega)
      clear hs hz
      go_enter Try.func18, Try.ntmps18
      go_wp2
      go_ret
      exact ⟨rfl, by (repeat (with_reducible first | (refine bl_alloc ?_ (by first | exact Nat.le_refl _ | (simp; done)) _) | (refine bl_new ?_ (by simp) _))); exact Below.refl _ _⟩
    · have e1 : decide (0 ≤ size) = false := decide_eq_false hs
      clear hs hz
      go_enter Try.func18, Try.ntmps18
      go_wp2
      go_ret
      exact ⟨rfl, by (repeat (with_reducible first | (refine bl_alloc ?_ (by first | exact Nat.le_refl _ | (simp; done)) _) | (refine bl_new ?_ (by simp) _))); exact Below.refl _ _⟩
end Go.Proofs.Ytmmfadakhnagpaa
