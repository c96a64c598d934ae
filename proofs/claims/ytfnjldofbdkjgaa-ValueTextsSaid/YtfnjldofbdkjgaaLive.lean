/-
  'live' of the statements of layer 1 returns true.
-/
import Derived.Test.YtfnjldofbdkjgaaPar2
namespace Go.Proofs.Ytfnjldofbdkjgaa
open Go.RowKit
set_option linter.unusedSimpArgs false

theorem int_m3 (w : World) : Calls Try.prog 27 #[.int .i64 (-3)] w fun e w' => e = .returned (.tuple #[.int .u64 13837309855095848960, .bool true]) ∧ w = w' := by
  refine (int_any (-3) w).mono ?_
  rintro e w' ⟨rfl, rfl⟩
  exact ⟨by rw [show intV (-3) = 13837309855095848960 from by decide +kernel, show intOk (-3) = true from by decide +kernel], rfl⟩
theorem whole_m3 (w : World) : Calls Try.prog 28 #[.int .u64 13837309855095848960] w fun e w' => e = .returned (.tuple #[.int .i64 (-3), .bool true]) ∧ w = w' := by
  refine (whole_any 13837309855095848960 ⟨by decide, by decide⟩ w).mono ?_
  rintro e w' ⟨rfl, rfl⟩
  exact ⟨by rw [show wholeN 13837309855095848960 = -3 from by decide +kernel, show wholeOk 13837309855095848960 = true from by decide +kernel], rfl⟩
theorem parse_one (w : World) : Calls Try.prog 40 #[.string ⟨#[51, 102, 102, 48, 48, 48, 48, 48, 48, 48, 48, 48, 48, 48, 48, 48]⟩] w fun e w' => e = .returned (.tuple #[.int .u64 4607182418800017408, .int .i64 0]) ∧ Below w.heap.size w w' := by
  refine (parse_any _ w).mono ?_
  rintro e w' ⟨rfl, hb⟩
  exact ⟨by rw [show parsedV (⟨#[51, 102, 102, 48, 48, 48, 48, 48, 48, 48, 48, 48, 48, 48, 48, 48]⟩ : ByteArray).data.toList = 4607182418800017408 from by decide +kernel, show parsedE (⟨#[51, 102, 102, 48, 48, 48, 48, 48, 48, 48, 48, 48, 48, 48, 48, 48]⟩ : ByteArray).data.toList = 0 from by decide +kernel], hb⟩
theorem less_zeros (w : World) : Calls Try.prog 25 #[.int .u64 9223372036854775808, .int .u64 0] w fun e w' => e = .returned (.bool true) ∧ w = w' := by
  refine (less_any _ _ ⟨by decide, by decide⟩ ⟨by decide, by decide⟩ w).mono ?_
  rintro e w' ⟨rfl, rfl⟩
  exact ⟨by rw [show lessB 9223372036854775808 0 = true from by decide +kernel], rfl⟩
theorem neg_inf (w : World) : Calls Try.prog 29 #[.int .u64 9218868437227405312] w fun e w' => e = .returned (.int .u64 18442240474082181120) ∧ w = w' := by
  refine (neg_any _ ⟨by decide, by decide⟩ w).mono ?_
  rintro e w' ⟨rfl, rfl⟩
  exact ⟨by rw [show negV 9218868437227405312 = 18442240474082181120 from by decide +kernel], rfl⟩
theorem add_infs (w : World) : Calls Try.prog 31 #[.int .u64 9218868437227405312, .int .u64 18442240474082181120] w fun e w' => e = .returned (.int .u64 9221120237041090560) ∧ DrewN w w' := by
  refine (add_any _ _ ⟨by decide, by decide⟩ ⟨by decide, by decide⟩ w).mono ?_
  rintro e w' ⟨rfl, hb⟩
  exact ⟨by rw [show fop .add 9218868437227405312 18442240474082181120 = 9221120237041090560 from by decide +kernel], hb⟩
theorem live_any (w : World) : Calls Try.prog 14 #[] w fun e w' => e = .returned (.bool true) ∧ Below w.heap.size w w' := by
  go_enter Try.func14, Try.ntmps14
  go_wp2_with (first | (go_at_call 27; refine (int_m3 _).mono ?_; rintro e w' ⟨rfl, rfl⟩) | (go_at_call 28; refine (whole_m3 _).mono ?_; rintro e w' ⟨rfl, rfl⟩) | (go_at_call 40; refine (parse_one _).mono ?_; rintro e w1 ⟨rfl, hb⟩) | (go_at_call 25; refine (less_zeros _).mono ?_; rintro e w' ⟨rfl, rfl⟩) | (go_at_call 29; refine (neg_inf _).mono ?_; rintro e w' ⟨rfl, rfl⟩) | (go_at_call 31; refine (add_infs _).mono ?_; rintro e w2 ⟨rfl, n, rfl⟩))
  go_ret
  exact ⟨rfl, below_drewN hb _⟩

end Go.Proofs.Ytfnjldofbdkjgaa
