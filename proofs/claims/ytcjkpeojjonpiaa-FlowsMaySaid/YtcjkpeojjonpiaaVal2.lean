
/-
  The contracts of package value and of its reference, layer 1, the second part: signs, the order, what is asked. (Written by a program of this session's.)
-/
import Derived.Test.YtcjkpeojjonpiaaVal
namespace Go.Proofs.Ytcjkpeojjonpiaa
open Go.RowKit
set_option linter.unusedSimpArgs false

theorem minV_b (a b : Int) : minV a b = bif lessB b a then canon b else canon a := by unfold minV; cases lessB b a <;> rfl
theorem maxV_b (a b : Int) : maxV a b = bif lessB a b then canon b else canon a := by unfold maxV; cases lessB a b <;> rfl

theorem refNegative_any (v : Int) (hv : W64 v) (w : World) : Calls Try.prog 99 #[.int .u64 v] w fun e w' => e = .returned (.bool (negB v)) ∧ w = w' := by
  have E := (negB_f hv).symm
  cases h0 : (classOf v != 3) <;> cases h1 : (decide (9223372036854775808 ≤ v))
  all_goals
    rw [h0, h1] at E
    try simp only [cond_true, cond_false, Bool.not_true, Bool.not_false, Bool.or_true, Bool.or_false, Bool.true_or, Bool.false_or, Bool.and_true, Bool.and_false, Bool.true_and, Bool.false_and] at E
    have F := Lib.hid E
    clear E
    go_enter Try.func99, Try.ntmps99
    go_wp2_with (first | (go_at_call 86; refine (refClass_any _ hv _).mono ?_; rintro e w' ⟨rfl, rfl⟩))
    go_ret
    exact ⟨by rw [F.out]; rfl, rfl⟩

theorem refNeg_any (v : Int) (hv : W64 v) (w : World) : Calls Try.prog 91 #[.int .u64 v] w fun e w' => e = .returned (.int .u64 (negV v)) ∧ w = w' := by
  have E := negV_f hv
  have hk := class_nan hv
  cases h0 : (canon v == 9221120237041090560) <;> cases h1 : (negB v)
  all_goals
    rw [h0, h1] at E
    try simp only [cond_true, cond_false, Bool.not_true, Bool.not_false, Bool.or_true, Bool.or_false, Bool.true_or, Bool.false_or, Bool.and_true, Bool.and_false, Bool.true_and, Bool.false_and] at E
    have F := Lib.hid E
    clear E
    go_enter Try.func91, Try.ntmps91
    go_wp2_with (first | (go_at_call 86; refine (refClass_any _ hv _).mono ?_; rintro e w' ⟨rfl, rfl⟩) | (go_at_call 99; refine (refNegative_any _ hv _).mono ?_; rintro e w' ⟨rfl, rfl⟩))
    go_ret
    exact ⟨by rw [F.out]; rfl, rfl⟩

theorem refLess_any (a : Int) (b : Int) (ha : W64 a) (hb : W64 b) (w : World) : Calls Try.prog 40 #[.int .u64 a, .int .u64 b] w fun e w' => e = .returned (.bool (lessB a b)) ∧ w = w' := by
  have E := lessB_f ha hb
  cases h0 : (canon a == 9221120237041090560) <;> cases h1 : (canon b == 9221120237041090560) <;> cases h2 : (canon a == 9223372036854775808) <;> cases h3 : (canon b == 0)
  all_goals
    rw [h0, h1, h2, h3] at E
    try simp only [cond_true, cond_false, Bool.not_true, Bool.not_false, Bool.or_true, Bool.or_false, Bool.true_or, Bool.false_or, Bool.and_true, Bool.and_false, Bool.true_and, Bool.false_and] at E
    have F := Lib.hid E
    clear E
    go_enter Try.func40, Try.ntmps40
    go_wp2_with (first | (go_at_call 28; refine (refCanon_any _ (by assumption) _).mono ?_; rintro e w' ⟨rfl, rfl⟩) | (go_at_call 68; refine (refFloat_any _ (canon_w64 (by assumption)) _).mono ?_; rintro e w' ⟨rfl, rfl⟩; rw [canon_canon]))
    go_ret
    exact ⟨by rw [F.out]; rfl, rfl⟩

theorem refSame_any (a : Int) (b : Int) (ha : W64 a) (hb : W64 b) (w : World) : Calls Try.prog 93 #[.int .u64 a, .int .u64 b] w fun e w' => e = .returned (.bool (sameB a b)) ∧ w = w' := by
  go_enter Try.func93, Try.ntmps93
  go_wp2_with (first | (go_at_call 28; refine (refCanon_any _ (by assumption) _).mono ?_; rintro e w' ⟨rfl, rfl⟩))
  go_ret
  exact ⟨rfl, rfl⟩

theorem refTruth_any (v : Int) (hv : W64 v) (w : World) : Calls Try.prog 74 #[.int .u64 v] w fun e w' => e = .returned (.bool (truthB v)) ∧ w = w' := by
  have E := (show truthB v = (classOf v == 1 || classOf v == 2) from rfl)
  cases h0 : (classOf v == 1) <;> cases h1 : (classOf v == 2)
  all_goals
    rw [h0, h1] at E
    try simp only [cond_true, cond_false, Bool.not_true, Bool.not_false, Bool.or_true, Bool.or_false, Bool.true_or, Bool.false_or, Bool.and_true, Bool.and_false, Bool.true_and, Bool.false_and] at E
    have F := Lib.hid E
    clear E
    go_enter Try.func74, Try.ntmps74
    go_wp2_with (first | (go_at_call 86; refine (refClass_any _ hv _).mono ?_; rintro e w' ⟨rfl, rfl⟩))
    go_ret
    exact ⟨by rw [F.out]; rfl, rfl⟩

end Go.Proofs.Ytcjkpeojjonpiaa
