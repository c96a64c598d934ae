
/-
  The contracts of package value and of its reference, layer 1, but for those that need memory: each returns what the plain functions on words say.
-/
import Derived.Test.YtbfjnanakmiaaaaProg
import Derived.Test.YtbfjnanakmiaaaaWord
import Derived.WalkKit
import Derived.WalkSpells
import Derived.WalkLawsBesides
import Derived.Below
import Derived.Deep.Draws
import Derived.Deep.QuietTactic
import Derived.BigQuiet
import Derived.Outline
import Derived.Lib.Hide
import Derived.Laws.Externs
import Derived.Laws.FloatArith
namespace Go.Proofs.Ytbfjnanakmiaaaa
open Go.RowKit

/-! ### The two entries between words and floats -/
/-! ### Right, Canon -/
theorem right_w (v : Int) (w : World) : Calls Try.prog 23 #[.int .u64 v] w fun e w' => e = .returned (.bool (decide (bits .andNot .u64 v 9223372036854775808 ≤ 9218868437227405312) || (v == 9221120237041090560))) ∧ w = w' := by
  by_cases h : bits .andNot .u64 v 9223372036854775808 ≤ 9218868437227405312
  · have E := Lib.hid (show (decide (bits .andNot .u64 v 9223372036854775808 ≤ 9218868437227405312) || (v == 9221120237041090560)) = true by simp [h])
    go_enter Try.func23, Try.ntmps23
    go_wp2
    go_ret
    exact ⟨by rw [E.out]; rfl, rfl⟩
  · have E := Lib.hid (show (decide (bits .andNot .u64 v 9223372036854775808 ≤ 9218868437227405312) || (v == 9221120237041090560)) = (v == 9221120237041090560) by simp [h])
    go_enter Try.func23, Try.ntmps23
    go_wp2
    go_ret
    exact ⟨by rw [E.out]; rfl, rfl⟩
theorem right_any (v : Int) (h : W64 v) (w : World) : Calls Try.prog 23 #[.int .u64 v] w fun e w' => e = .returned (.bool (rightB v)) ∧ w = w' := by
  refine (right_w v w).mono ?_
  rintro e w' ⟨rfl, rfl⟩
  exact ⟨by rw [andNot_top h]; rfl, rfl⟩
/-! ### Of, Float -/
def W64n (b : Nat) : Prop := b < 18446744073709551616
theorem W64n.w {b : Nat} (h : W64n b) : W64 (b : Int) := by unfold W64n at h; exact ⟨by omega, by omega⟩
theorem canon_of_num {v : Int} (h : isNum v) : canon v = v := canon_of_right (by unfold rightB; unfold isNum at h; simp [h])
theorem canon_of_not {v : Int} (h : ¬ isNum v) : canon v = 9221120237041090560 := by
  unfold canon rightB; unfold isNum at h
  by_cases e : v = 9221120237041090560
  · simp [e]
  · simp [h, e]
/-! ### ClassOf, Negative -/
theorem low_w64 {v : Int} (h : W64 v) : W64 (low v) := by obtain ⟨a, b⟩ := h; unfold low; exact ⟨by omega, by omega⟩
end Go.Proofs.Ytbfjnanakmiaaaa
