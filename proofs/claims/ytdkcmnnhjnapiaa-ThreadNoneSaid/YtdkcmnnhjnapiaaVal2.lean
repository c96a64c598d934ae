
/-
  The contracts of package value and of its reference, layer 1, the second part: signs, the order, what is asked. (Written by a program of this session's.)
-/
import Derived.Test.YtdkcmnnhjnapiaaVal
namespace Go.Proofs.Ytdkcmnnhjnapiaa
open Go.RowKit
set_option linter.unusedSimpArgs false

theorem minV_b (a b : Int) : minV a b = bif lessB b a then canon b else canon a := by unfold minV; cases lessB b a <;> rfl
theorem maxV_b (a b : Int) : maxV a b = bif lessB a b then canon b else canon a := by unfold maxV; cases lessB a b <;> rfl

theorem neg_any (v : Int) (hv : W64 v) (w : World) : Calls Try.prog 74 #[.int .u64 v] w fun e w' => e = .returned (.int .u64 (negV v)) ∧ w = w' := by
  have E := negV_w v hv
  cases h0 : (canon v == 9221120237041090560)
  all_goals
    rw [h0] at E
    try simp only [cond_true, cond_false, Bool.not_true, Bool.not_false, Bool.or_true, Bool.or_false, Bool.true_or, Bool.false_or, Bool.and_true, Bool.and_false, Bool.true_and, Bool.false_and] at E
    have F := Lib.hid E
    clear E
    go_enter Try.func74, Try.ntmps74
    go_wp2_with (first | (go_at_call 26; refine (canon_any _ (by assumption) _).mono ?_; rintro e w' ⟨rfl, rfl⟩))
    go_ret
    exact ⟨by rw [F.out]; rfl, rfl⟩

theorem rank_any (v : Int) (hv : W64 v) (w : World) : Calls Try.prog 77 #[.int .u64 v] w fun e w' => e = .returned (.int .u64 (rankV v)) ∧ w = w' := by
  have E := rankV_w hv
  have hn := negB_w hv
  cases h0 : (negB v)
  all_goals
    rw [h0] at E
    try simp only [cond_true, cond_false, Bool.not_true, Bool.not_false, Bool.or_true, Bool.or_false, Bool.true_or, Bool.false_or, Bool.and_true, Bool.and_false, Bool.true_and, Bool.false_and] at E
    have F := Lib.hid E
    clear E
    go_enter Try.func77, Try.ntmps77
    go_wp2_with (first | (go_at_call 26; refine (canon_any _ (by assumption) _).mono ?_; rintro e w' ⟨rfl, rfl⟩))
    go_ret
    exact ⟨by rw [F.out]; rfl, rfl⟩

theorem less_any (a b : Int) (ha : W64 a) (hb : W64 b) (w : World) : Calls Try.prog 71 #[.int .u64 a, .int .u64 b] w fun e w' => e = .returned (.bool (lessB a b)) ∧ w = w' := by
  go_enter Try.func71, Try.ntmps71
  go_wp2_with (go_at_call 77; refine (rank_any _ (by assumption) _).mono ?_; rintro e w' ⟨rfl, rfl⟩)
  go_ret
  exact ⟨rfl, rfl⟩

theorem same_any (a : Int) (b : Int) (ha : W64 a) (hb : W64 b) (w : World) : Calls Try.prog 73 #[.int .u64 a, .int .u64 b] w fun e w' => e = .returned (.bool (sameB a b)) ∧ w = w' := by
  go_enter Try.func73, Try.ntmps73
  go_wp2_with (first | (go_at_call 26; refine (canon_any _ (by assumption) _).mono ?_; rintro e w' ⟨rfl, rfl⟩))
  go_ret
  exact ⟨rfl, rfl⟩

theorem truth_any (v : Int) (hv : W64 v) (w : World) : Calls Try.prog 57 #[.int .u64 v] w fun e w' => e = .returned (.bool (truthB v)) ∧ w = w' := by
  have E := (show truthB v = (classOf v == 1 || classOf v == 2) from rfl)
  cases h0 : (classOf v == 1) <;> cases h1 : (classOf v == 2)
  all_goals
    rw [h0, h1] at E
    try simp only [cond_true, cond_false, Bool.not_true, Bool.not_false, Bool.or_true, Bool.or_false, Bool.true_or, Bool.false_or, Bool.and_true, Bool.and_false, Bool.true_and, Bool.false_and] at E
    have F := Lib.hid E
    clear E
    go_enter Try.func57, Try.ntmps57
    go_wp2_with (first | (go_at_call 47; refine (classOf_any _ hv _).mono ?_; rintro e w' ⟨rfl, rfl⟩))
    go_ret
    exact ⟨by rw [F.out]; rfl, rfl⟩

end Go.Proofs.Ytdkcmnnhjnapiaa
