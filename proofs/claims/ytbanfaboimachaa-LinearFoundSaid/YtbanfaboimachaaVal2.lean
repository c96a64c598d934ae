
/-
  The contracts of package value and of its reference, layer 1, the second part: signs, the order, what is asked. (Written by a program of this session's.)
-/
import Derived.Test.YtbanfaboimachaaVal
namespace Go.Proofs.Ytbanfaboimachaa
open Go.RowKit
set_option linter.unusedSimpArgs false

theorem minV_b (a b : Int) : minV a b = bif lessB b a then canon b else canon a := by unfold minV; cases lessB b a <;> rfl
theorem maxV_b (a b : Int) : maxV a b = bif lessB a b then canon b else canon a := by unfold maxV; cases lessB a b <;> rfl

theorem rank_any (v : Int) (hv : W64 v) (w : World) : Calls Try.prog 90 #[.int .u64 v] w fun e w' => e = .returned (.int .u64 (rankV v)) ∧ w = w' := by
  have E := rankV_w hv
  have hn := negB_w hv
  cases h0 : (negB v)
  all_goals
    rw [h0] at E
    try simp only [cond_true, cond_false, Bool.not_true, Bool.not_false, Bool.or_true, Bool.or_false, Bool.true_or, Bool.false_or, Bool.and_true, Bool.and_false, Bool.true_and, Bool.false_and] at E
    have F := Lib.hid E
    clear E
    go_enter Try.func90, Try.ntmps90
    go_wp2_with (first | (go_at_call 91; refine (canon_any _ (by assumption) _).mono ?_; rintro e w' ⟨rfl, rfl⟩))
    go_ret
    exact ⟨by rw [F.out]; rfl, rfl⟩

theorem less_any (a b : Int) (ha : W64 a) (hb : W64 b) (w : World) : Calls Try.prog 88 #[.int .u64 a, .int .u64 b] w fun e w' => e = .returned (.bool (lessB a b)) ∧ w = w' := by
  go_enter Try.func88, Try.ntmps88
  go_wp2_with (go_at_call 90; refine (rank_any _ (by assumption) _).mono ?_; rintro e w' ⟨rfl, rfl⟩)
  go_ret
  exact ⟨rfl, rfl⟩

theorem refLess_any (a : Int) (b : Int) (ha : W64 a) (hb : W64 b) (w : World) : Calls Try.prog 44 #[.int .u64 a, .int .u64 b] w fun e w' => e = .returned (.bool (lessB a b)) ∧ w = w' := by
  have E := lessB_f ha hb
  cases h0 : (canon a == 9221120237041090560) <;> cases h1 : (canon b == 9221120237041090560) <;> cases h2 : (canon a == 9223372036854775808) <;> cases h3 : (canon b == 0)
  all_goals
    rw [h0, h1, h2, h3] at E
    try simp only [cond_true, cond_false, Bool.not_true, Bool.not_false, Bool.or_true, Bool.or_false, Bool.true_or, Bool.false_or, Bool.and_true, Bool.and_false, Bool.true_and, Bool.false_and] at E
    have F := Lib.hid E
    clear E
    go_enter Try.func44, Try.ntmps44
    go_wp2_with (first | (go_at_call 48; refine (refCanon_any _ (by assumption) _).mono ?_; rintro e w' ⟨rfl, rfl⟩) | (go_at_call 49; refine (refFloat_any _ (canon_w64 (by assumption)) _).mono ?_; rintro e w' ⟨rfl, rfl⟩; rw [canon_canon]))
    go_ret
    exact ⟨by rw [F.out]; rfl, rfl⟩

end Go.Proofs.Ytbanfaboimachaa
