
/-
  The contracts of package value and of its reference, layer 1, the second part: signs, the order, what is asked. (Written by a program of this session's.)
-/
import Derived.Test.YtgodacagdglniaaVal
namespace Go.Proofs.Ytgodacagdglniaa
open Go.RowKit
set_option linter.unusedSimpArgs false

theorem minV_b (a b : Int) : minV a b = bif lessB b a then canon b else canon a := by unfold minV; cases lessB b a <;> rfl
theorem maxV_b (a b : Int) : maxV a b = bif lessB a b then canon b else canon a := by unfold maxV; cases lessB a b <;> rfl

theorem neg_any (v : Int) (hv : W64 v) (w : World) : Calls Try.prog 9 #[.int .u64 v] w fun e w' => e = .returned (.int .u64 (negV v)) ∧ w = w' := by
  have E := negV_w v hv
  cases h0 : (canon v == 9221120237041090560)
  all_goals
    rw [h0] at E
    try simp only [cond_true, cond_false, Bool.not_true, Bool.not_false, Bool.or_true, Bool.or_false, Bool.true_or, Bool.false_or, Bool.and_true, Bool.and_false, Bool.true_and, Bool.false_and] at E
    have F := Lib.hid E
    clear E
    go_enter Try.func9, Try.ntmps9
    go_wp2_with (first | (go_at_call 6; refine (canon_any _ (by assumption) _).mono ?_; rintro e w' ⟨rfl, rfl⟩))
    go_ret
    exact ⟨by rw [F.out]; rfl, rfl⟩

theorem rank_any (v : Int) (hv : W64 v) (w : World) : Calls Try.prog 19 #[.int .u64 v] w fun e w' => e = .returned (.int .u64 (rankV v)) ∧ w = w' := by
  have E := rankV_w hv
  have hn := negB_w hv
  cases h0 : (negB v)
  all_goals
    rw [h0] at E
    try simp only [cond_true, cond_false, Bool.not_true, Bool.not_false, Bool.or_true, Bool.or_false, Bool.true_or, Bool.false_or, Bool.and_true, Bool.and_false, Bool.true_and, Bool.false_and] at E
    have F := Lib.hid E
    clear E
    go_enter Try.func19, Try.ntmps19
    go_wp2_with (first | (go_at_call 6; refine (canon_any _ (by assumption) _).mono ?_; rintro e w' ⟨rfl, rfl⟩))
    go_ret
    exact ⟨by rw [F.out]; rfl, rfl⟩

theorem less_any (a b : Int) (ha : W64 a) (hb : W64 b) (w : World) : Calls Try.prog 7 #[.int .u64 a, .int .u64 b] w fun e w' => e = .returned (.bool (lessB a b)) ∧ w = w' := by
  go_enter Try.func7, Try.ntmps7
  go_wp2_with (go_at_call 19; refine (rank_any _ (by assumption) _).mono ?_; rintro e w' ⟨rfl, rfl⟩)
  go_ret
  exact ⟨rfl, rfl⟩

end Go.Proofs.Ytgodacagdglniaa
