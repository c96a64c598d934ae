
/-
  The contracts of package value and of its reference, layer 1, the second part: signs, the order, what is asked. (Written by a program of this session's.)
-/
import Derived.Test.YtmfcfihpmollfaaVal
namespace Go.Proofs.Ytmfcfihpmollfaa
open Go.RowKit
set_option linter.unusedSimpArgs false

theorem minV_b (a b : Int) : minV a b = bif lessB b a then canon b else canon a := by unfold minV; cases lessB b a <;> rfl
theorem maxV_b (a b : Int) : maxV a b = bif lessB a b then canon b else canon a := by unfold maxV; cases lessB a b <;> rfl

theorem refNegative_any (v : Int) (hv : W64 v) (w : World) : Calls Try.prog 151 #[.int .u64 v] w fun e w' => e = .returned (.bool (negB v)) ∧ w = w' := by
  have E := (negB_f hv).symm
  cases h0 : (classOf v != 3) <;> cases h1 : (decide (9223372036854775808 ≤ v))
  all_goals
    rw [h0, h1] at E
    try simp only [cond_true, cond_false, Bool.not_true, Bool.not_false, Bool.or_true, Bool.or_false, Bool.true_or, Bool.false_or, Bool.and_true, Bool.and_false, Bool.true_and, Bool.false_and] at E
    have F := Lib.hid E
    clear E
    go_enter Try.func151, Try.ntmps151
    go_wp2_with (first | (go_at_call 134; refine (refClass_any _ hv _).mono ?_; rintro e w' ⟨rfl, rfl⟩))
    go_ret
    exact ⟨by rw [F.out]; rfl, rfl⟩

theorem refNeg_any (v : Int) (hv : W64 v) (w : World) : Calls Try.prog 139 #[.int .u64 v] w fun e w' => e = .returned (.int .u64 (negV v)) ∧ w = w' := by
  have E := negV_f hv
  have hk := class_nan hv
  cases h0 : (canon v == 9221120237041090560) <;> cases h1 : (negB v)
  all_goals
    rw [h0, h1] at E
    try simp only [cond_true, cond_false, Bool.not_true, Bool.not_false, Bool.or_true, Bool.or_false, Bool.true_or, Bool.false_or, Bool.and_true, Bool.and_false, Bool.true_and, Bool.false_and] at E
    have F := Lib.hid E
    clear E
    go_enter Try.func139, Try.ntmps139
    go_wp2_with (first | (go_at_call 134; refine (refClass_any _ hv _).mono ?_; rintro e w' ⟨rfl, rfl⟩) | (go_at_call 151; refine (refNegative_any _ hv _).mono ?_; rintro e w' ⟨rfl, rfl⟩))
    go_ret
    exact ⟨by rw [F.out]; rfl, rfl⟩

theorem refLess_any (a : Int) (b : Int) (ha : W64 a) (hb : W64 b) (w : World) : Calls Try.prog 66 #[.int .u64 a, .int .u64 b] w fun e w' => e = .returned (.bool (lessB a b)) ∧ w = w' := by
  have E := lessB_f ha hb
  cases h0 : (canon a == 9221120237041090560) <;> cases h1 : (canon b == 9221120237041090560) <;> cases h2 : (canon a == 9223372036854775808) <;> cases h3 : (canon b == 0)
  all_goals
    rw [h0, h1, h2, h3] at E
    try simp only [cond_true, cond_false, Bool.not_true, Bool.not_false, Bool.or_true, Bool.or_false, Bool.true_or, Bool.false_or, Bool.and_true, Bool.and_false, Bool.true_and, Bool.false_and] at E
    have F := Lib.hid E
    clear E
    go_enter Try.func66, Try.ntmps66
    go_wp2_with (first | (go_at_call 41; refine (refCanon_any _ (by assumption) _).mono ?_; rintro e w' ⟨rfl, rfl⟩) | (go_at_call 102; refine (refFloat_any _ (canon_w64 (by assumption)) _).mono ?_; rintro e w' ⟨rfl, rfl⟩; rw [canon_canon]))
    go_ret
    exact ⟨by rw [F.out]; rfl, rfl⟩

theorem refSame_any (a : Int) (b : Int) (ha : W64 a) (hb : W64 b) (w : World) : Calls Try.prog 141 #[.int .u64 a, .int .u64 b] w fun e w' => e = .returned (.bool (sameB a b)) ∧ w = w' := by
  go_enter Try.func141, Try.ntmps141
  go_wp2_with (first | (go_at_call 41; refine (refCanon_any _ (by assumption) _).mono ?_; rintro e w' ⟨rfl, rfl⟩))
  go_ret
  exact ⟨rfl, rfl⟩

theorem refTruth_any (v : Int) (hv : W64 v) (w : World) : Calls Try.prog 108 #[.int .u64 v] w fun e w' => e = .returned (.bool (truthB v)) ∧ w = w' := by
  have E := (show truthB v = (classOf v == 1 || classOf v == 2) from rfl)
  cases h0 : (classOf v == 1) <;> cases h1 : (classOf v == 2)
  all_goals
    rw [h0, h1] at E
    try simp only [cond_true, cond_false, Bool.not_true, Bool.not_false, Bool.or_true, Bool.or_false, Bool.true_or, Bool.false_or, Bool.and_true, Bool.and_false, Bool.true_and, Bool.false_and] at E
    have F := Lib.hid E
    clear E
    go_enter Try.func108, Try.ntmps108
    go_wp2_with (first | (go_at_call 134; refine (refClass_any _ hv _).mono ?_; rintro e w' ⟨rfl, rfl⟩))
    go_ret
    exact ⟨by rw [F.out]; rfl, rfl⟩

end Go.Proofs.Ytmfcfihpmollfaa
