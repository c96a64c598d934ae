/-
  The contracts of package value and of its reference, layer 1, the second part: signs, the order, what is asked. (Written by a program of this session's.)
-/
import Derived.Test.YtfnjldofbdkjgaaVal
namespace Go.Proofs.Ytfnjldofbdkjgaa
open Go.RowKit
set_option linter.unusedSimpArgs false

theorem minV_b (a b : Int) : minV a b = bif lessB b a then canon b else canon a := by unfold minV; cases lessB b a <;> rfl
theorem maxV_b (a b : Int) : maxV a b = bif lessB a b then canon b else canon a := by unfold maxV; cases lessB a b <;> rfl

theorem negative_any (v : Int) (hv : W64 v) (w : World) : Calls Try.prog 23 #[.int .u64 v] w fun e w' => e = .returned (.bool (negB v)) ∧ w = w' := by
  have E := (negB_w hv).symm
  cases h0 : (bits .and .u64 (canon v) 9223372036854775808 != 0)
  all_goals
    rw [h0] at E
    try simp only [cond_true, cond_false, Bool.not_true, Bool.not_false, Bool.or_true, Bool.or_false, Bool.true_or, Bool.false_or, Bool.and_true, Bool.and_false, Bool.true_and, Bool.false_and] at E
    have F := Lib.hid E
    clear E
    go_enter Try.func23, Try.ntmps23
    go_wp2_with (first | (go_at_call 19; refine (canon_any _ (by assumption) _).mono ?_; rintro e w' ⟨rfl, rfl⟩))
    go_ret
    exact ⟨by rw [F.out]; rfl, rfl⟩

theorem refNegative_any (v : Int) (hv : W64 v) (w : World) : Calls Try.prog 24 #[.int .u64 v] w fun e w' => e = .returned (.bool (negB v)) ∧ w = w' := by
  have E := (negB_f hv).symm
  cases h0 : (classOf v != 3) <;> cases h1 : (decide (9223372036854775808 ≤ v))
  all_goals
    rw [h0, h1] at E
    try simp only [cond_true, cond_false, Bool.not_true, Bool.not_false, Bool.or_true, Bool.or_false, Bool.true_or, Bool.false_or, Bool.and_true, Bool.and_false, Bool.true_and, Bool.false_and] at E
    have F := Lib.hid E
    clear E
    go_enter Try.func24, Try.ntmps24
    go_wp2_with (first | (go_at_call 22; refine (refClass_any _ hv _).mono ?_; rintro e w' ⟨rfl, rfl⟩))
    go_ret
    exact ⟨by rw [F.out]; rfl, rfl⟩

theorem neg_any (v : Int) (hv : W64 v) (w : World) : Calls Try.prog 29 #[.int .u64 v] w fun e w' => e = .returned (.int .u64 (negV v)) ∧ w = w' := by
  have E := negV_w v hv
  cases h0 : (canon v == 9221120237041090560)
  all_goals
    rw [h0] at E
    try simp only [cond_true, cond_false, Bool.not_true, Bool.not_false, Bool.or_true, Bool.or_false, Bool.true_or, Bool.false_or, Bool.and_true, Bool.and_false, Bool.true_and, Bool.false_and] at E
    have F := Lib.hid E
    clear E
    go_enter Try.func29, Try.ntmps29
    go_wp2_with (first | (go_at_call 19; refine (canon_any _ (by assumption) _).mono ?_; rintro e w' ⟨rfl, rfl⟩))
    go_ret
    exact ⟨by rw [F.out]; rfl, rfl⟩

theorem refNeg_any (v : Int) (hv : W64 v) (w : World) : Calls Try.prog 50 #[.int .u64 v] w fun e w' => e = .returned (.int .u64 (negV v)) ∧ w = w' := by
  have E := negV_f hv
  have hk := class_nan hv
  cases h0 : (canon v == 9221120237041090560) <;> cases h1 : (negB v)
  all_goals
    rw [h0, h1] at E
    try simp only [cond_true, cond_false, Bool.not_true, Bool.not_false, Bool.or_true, Bool.or_false, Bool.true_or, Bool.false_or, Bool.and_true, Bool.and_false, Bool.true_and, Bool.false_and] at E
    have F := Lib.hid E
    clear E
    go_enter Try.func50, Try.ntmps50
    go_wp2_with (first | (go_at_call 22; refine (refClass_any _ hv _).mono ?_; rintro e w' ⟨rfl, rfl⟩) | (go_at_call 24; refine (refNegative_any _ hv _).mono ?_; rintro e w' ⟨rfl, rfl⟩))
    go_ret
    exact ⟨by rw [F.out]; rfl, rfl⟩

theorem abs_any (v : Int) (hv : W64 v) (w : World) : Calls Try.prog 51 #[.int .u64 v] w fun e w' => e = .returned (.int .u64 (absV v)) ∧ w = w' := by
  have E := Lib.hid (andNot_top (canon_w64 hv))
  go_enter Try.func51, Try.ntmps51
  go_wp2_with (first | (go_at_call 19; refine (canon_any _ (by assumption) _).mono ?_; rintro e w' ⟨rfl, rfl⟩))
  go_ret
  exact ⟨by unfold absV; rw [← E.out]; rfl, rfl⟩

theorem refAbs_any (v : Int) (hv : W64 v) (w : World) : Calls Try.prog 52 #[.int .u64 v] w fun e w' => e = .returned (.int .u64 (absV v)) ∧ w = w' := by
  have E := absV_f hv
  cases h0 : (negB v)
  all_goals
    rw [h0] at E
    try simp only [cond_true, cond_false, Bool.not_true, Bool.not_false, Bool.or_true, Bool.or_false, Bool.true_or, Bool.false_or, Bool.and_true, Bool.and_false, Bool.true_and, Bool.false_and] at E
    have F := Lib.hid E
    clear E
    go_enter Try.func52, Try.ntmps52
    go_wp2_with (first | (go_at_call 24; refine (refNegative_any _ hv _).mono ?_; rintro e w' ⟨rfl, rfl⟩) | (go_at_call 50; refine (refNeg_any _ hv _).mono ?_; rintro e w' ⟨rfl, rfl⟩) | (go_at_call 20; refine (refCanon_any _ (by assumption) _).mono ?_; rintro e w' ⟨rfl, rfl⟩))
    go_ret
    exact ⟨by rw [F.out]; rfl, rfl⟩

theorem rank_any (v : Int) (hv : W64 v) (w : World) : Calls Try.prog 59 #[.int .u64 v] w fun e w' => e = .returned (.int .u64 (rankV v)) ∧ w = w' := by
  have E := rankV_w hv
  have hn := negB_w hv
  cases h0 : (negB v)
  all_goals
    rw [h0] at E
    try simp only [cond_true, cond_false, Bool.not_true, Bool.not_false, Bool.or_true, Bool.or_false, Bool.true_or, Bool.false_or, Bool.and_true, Bool.and_false, Bool.true_and, Bool.false_and] at E
    have F := Lib.hid E
    clear E
    go_enter Try.func59, Try.ntmps59
    go_wp2_with (first | (go_at_call 19; refine (canon_any _ (by assumption) _).mono ?_; rintro e w' ⟨rfl, rfl⟩))
    go_ret
    exact ⟨by rw [F.out]; rfl, rfl⟩

theorem less_any (a b : Int) (ha : W64 a) (hb : W64 b) (w : World) : Calls Try.prog 25 #[.int .u64 a, .int .u64 b] w fun e w' => e = .returned (.bool (lessB a b)) ∧ w = w' := by
  go_enter Try.func25, Try.ntmps25
  go_wp2_with (go_at_call 59; refine (rank_any _ (by assumption) _).mono ?_; rintro e w' ⟨rfl, rfl⟩)
  go_ret
  exact ⟨rfl, rfl⟩

theorem refLess_any (a : Int) (b : Int) (ha : W64 a) (hb : W64 b) (w : World) : Calls Try.prog 44 #[.int .u64 a, .int .u64 b] w fun e w' => e = .returned (.bool (lessB a b)) ∧ w = w' := by
  have E := lessB_f ha hb
  cases h0 : (canon a == 9221120237041090560) <;> cases h1 : (canon b == 9221120237041090560) <;> cases h2 : (canon a == 9223372036854775808) <;> cases h3 : (canon b == 0)
  all_goals
    rw [h0, h1, h2, h3] at E
    try simp only [cond_true, cond_false, Bool.not_true, Bool.not_false, Bool.or_true, Bool.or_false, Bool.true_or, Bool.false_or, Bool.and_true, Bool.and_false, Bool.true_and, Bool.false_and] at E
    have F := Lib.hid E
    clear E
    go_enter Try.func44, Try.ntmps44
    go_wp2_with (first | (go_at_call 20; refine (refCanon_any _ (by assumption) _).mono ?_; rintro e w' ⟨rfl, rfl⟩) | (go_at_call 17; refine (refFloat_any _ (canon_w64 (by assumption)) _).mono ?_; rintro e w' ⟨rfl, rfl⟩; rw [canon_canon]))
    go_ret
    exact ⟨by rw [F.out]; rfl, rfl⟩

theorem min_any (a : Int) (b : Int) (ha : W64 a) (hb : W64 b) (w : World) : Calls Try.prog 53 #[.int .u64 a, .int .u64 b] w fun e w' => e = .returned (.int .u64 (minV a b)) ∧ w = w' := by
  have E := minV_b a b
  cases h0 : (lessB b a)
  all_goals
    rw [h0] at E
    try simp only [cond_true, cond_false, Bool.not_true, Bool.not_false, Bool.or_true, Bool.or_false, Bool.true_or, Bool.false_or, Bool.and_true, Bool.and_false, Bool.true_and, Bool.false_and] at E
    have F := Lib.hid E
    clear E
    go_enter Try.func53, Try.ntmps53
    go_wp2_with (first | (go_at_call 25; refine (less_any _ _ (by assumption) (by assumption) _).mono ?_; rintro e w' ⟨rfl, rfl⟩) | (go_at_call 19; refine (canon_any _ (by assumption) _).mono ?_; rintro e w' ⟨rfl, rfl⟩))
    go_ret
    exact ⟨by rw [F.out]; rfl, rfl⟩

theorem refMin_any (a : Int) (b : Int) (ha : W64 a) (hb : W64 b) (w : World) : Calls Try.prog 54 #[.int .u64 a, .int .u64 b] w fun e w' => e = .returned (.int .u64 (minV a b)) ∧ w = w' := by
  have E := minV_b a b
  cases h0 : (lessB b a)
  all_goals
    rw [h0] at E
    try simp only [cond_true, cond_false, Bool.not_true, Bool.not_false, Bool.or_true, Bool.or_false, Bool.true_or, Bool.false_or, Bool.and_true, Bool.and_false, Bool.true_and, Bool.false_and] at E
    have F := Lib.hid E
    clear E
    go_enter Try.func54, Try.ntmps54
    go_wp2_with (first | (go_at_call 44; refine (refLess_any _ _ (by assumption) (by assumption) _).mono ?_; rintro e w' ⟨rfl, rfl⟩) | (go_at_call 20; refine (refCanon_any _ (by assumption) _).mono ?_; rintro e w' ⟨rfl, rfl⟩))
    go_ret
    exact ⟨by rw [F.out]; rfl, rfl⟩

theorem max_any (a : Int) (b : Int) (ha : W64 a) (hb : W64 b) (w : World) : Calls Try.prog 55 #[.int .u64 a, .int .u64 b] w fun e w' => e = .returned (.int .u64 (maxV a b)) ∧ w = w' := by
  have E := maxV_b a b
  cases h0 : (lessB a b)
  all_goals
    rw [h0] at E
    try simp only [cond_true, cond_false, Bool.not_true, Bool.not_false, Bool.or_true, Bool.or_false, Bool.true_or, Bool.false_or, Bool.and_true, Bool.and_false, Bool.true_and, Bool.false_and] at E
    have F := Lib.hid E
    clear E
    go_enter Try.func55, Try.ntmps55
    go_wp2_with (first | (go_at_call 25; refine (less_any _ _ (by assumption) (by assumption) _).mono ?_; rintro e w' ⟨rfl, rfl⟩) | (go_at_call 19; refine (canon_any _ (by assumption) _).mono ?_; rintro e w' ⟨rfl, rfl⟩))
    go_ret
    exact ⟨by rw [F.out]; rfl, rfl⟩

theorem refMax_any (a : Int) (b : Int) (ha : W64 a) (hb : W64 b) (w : World) : Calls Try.prog 56 #[.int .u64 a, .int .u64 b] w fun e w' => e = .returned (.int .u64 (maxV a b)) ∧ w = w' := by
  have E := maxV_b a b
  cases h0 : (lessB a b)
  all_goals
    rw [h0] at E
    try simp only [cond_true, cond_false, Bool.not_true, Bool.not_false, Bool.or_true, Bool.or_false, Bool.true_or, Bool.false_or, Bool.and_true, Bool.and_false, Bool.true_and, Bool.false_and] at E
    have F := Lib.hid E
    clear E
    go_enter Try.func56, Try.ntmps56
    go_wp2_with (first | (go_at_call 44; refine (refLess_any _ _ (by assumption) (by assumption) _).mono ?_; rintro e w' ⟨rfl, rfl⟩) | (go_at_call 20; refine (refCanon_any _ (by assumption) _).mono ?_; rintro e w' ⟨rfl, rfl⟩))
    go_ret
    exact ⟨by rw [F.out]; rfl, rfl⟩

theorem equal_any (a : Int) (b : Int) (ha : W64 a) (hb : W64 b) (w : World) : Calls Try.prog 45 #[.int .u64 a, .int .u64 b] w fun e w' => e = .returned (.bool (equalB a b)) ∧ w = w' := by
  have E := equalB_w ha hb
  cases h0 : (canon a == 9221120237041090560) <;> cases h1 : (canon b == 9221120237041090560) <;> cases h2 : (canon a == canon b)
  all_goals
    rw [h0, h1, h2] at E
    try simp only [cond_true, cond_false, Bool.not_true, Bool.not_false, Bool.or_true, Bool.or_false, Bool.true_or, Bool.false_or, Bool.and_true, Bool.and_false, Bool.true_and, Bool.false_and] at E
    have F := Lib.hid E
    clear E
    go_enter Try.func45, Try.ntmps45
    go_wp2_with (first | (go_at_call 19; refine (canon_any _ (by assumption) _).mono ?_; rintro e w' ⟨rfl, rfl⟩))
    go_ret
    exact ⟨by rw [F.out]; rfl, rfl⟩

theorem refEqual_any (a : Int) (b : Int) (ha : W64 a) (hb : W64 b) (w : World) : Calls Try.prog 46 #[.int .u64 a, .int .u64 b] w fun e w' => e = .returned (.bool (equalB a b)) ∧ w = w' := by
  have E := (equalB_f ha hb).symm
  cases h0 : (FloatKind.f64.format.order (canon a).toNat (canon b).toNat == some .eq)
  all_goals
    rw [h0] at E
    try simp only [cond_true, cond_false, Bool.not_true, Bool.not_false, Bool.or_true, Bool.or_false, Bool.true_or, Bool.false_or, Bool.and_true, Bool.and_false, Bool.true_and, Bool.false_and] at E
    have F := Lib.hid E
    clear E
    go_enter Try.func46, Try.ntmps46
    go_wp2_with (first | (go_at_call 17; refine (refFloat_any _ (by assumption) _).mono ?_; rintro e w' ⟨rfl, rfl⟩))
    go_ret
    exact ⟨by rw [F.out]; rfl, rfl⟩

theorem same_any (a : Int) (b : Int) (ha : W64 a) (hb : W64 b) (w : World) : Calls Try.prog 26 #[.int .u64 a, .int .u64 b] w fun e w' => e = .returned (.bool (sameB a b)) ∧ w = w' := by
  go_enter Try.func26, Try.ntmps26
  go_wp2_with (first | (go_at_call 19; refine (canon_any _ (by assumption) _).mono ?_; rintro e w' ⟨rfl, rfl⟩))
  go_ret
  exact ⟨rfl, rfl⟩

theorem refSame_any (a : Int) (b : Int) (ha : W64 a) (hb : W64 b) (w : World) : Calls Try.prog 47 #[.int .u64 a, .int .u64 b] w fun e w' => e = .returned (.bool (sameB a b)) ∧ w = w' := by
  go_enter Try.func47, Try.ntmps47
  go_wp2_with (first | (go_at_call 20; refine (refCanon_any _ (by assumption) _).mono ?_; rintro e w' ⟨rfl, rfl⟩))
  go_ret
  exact ⟨rfl, rfl⟩

theorem truth_any (v : Int) (hv : W64 v) (w : World) : Calls Try.prog 48 #[.int .u64 v] w fun e w' => e = .returned (.bool (truthB v)) ∧ w = w' := by
  have E := (show truthB v = (classOf v == 1 || classOf v == 2) from rfl)
  cases h0 : (classOf v == 1) <;> cases h1 : (classOf v == 2)
  all_goals
    rw [h0, h1] at E
    try simp only [cond_true, cond_false, Bool.not_true, Bool.not_false, Bool.or_true, Bool.or_false, Bool.true_or, Bool.false_or, Bool.and_true, Bool.and_false, Bool.true_and, Bool.false_and] at E
    have F := Lib.hid E
    clear E
    go_enter Try.func48, Try.ntmps48
    go_wp2_with (first | (go_at_call 21; refine (classOf_any _ hv _).mono ?_; rintro e w' ⟨rfl, rfl⟩))
    go_ret
    exact ⟨by rw [F.out]; rfl, rfl⟩

theorem refTruth_any (v : Int) (hv : W64 v) (w : World) : Calls Try.prog 49 #[.int .u64 v] w fun e w' => e = .returned (.bool (truthB v)) ∧ w = w' := by
  have E := (show truthB v = (classOf v == 1 || classOf v == 2) from rfl)
  cases h0 : (classOf v == 1) <;> cases h1 : (classOf v == 2)
  all_goals
    rw [h0, h1] at E
    try simp only [cond_true, cond_false, Bool.not_true, Bool.not_false, Bool.or_true, Bool.or_false, Bool.true_or, Bool.false_or, Bool.and_true, Bool.and_false, Bool.true_and, Bool.false_and] at E
    have F := Lib.hid E
    clear E
    go_enter Try.func49, Try.ntmps49
    go_wp2_with (first | (go_at_call 22; refine (refClass_any _ hv _).mono ?_; rintro e w' ⟨rfl, rfl⟩))
    go_ret
    exact ⟨by rw [F.out]; rfl, rfl⟩

end Go.Proofs.Ytfnjldofbdkjgaa
