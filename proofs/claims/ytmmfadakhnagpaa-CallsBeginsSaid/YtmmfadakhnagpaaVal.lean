
/-
  The contracts of package value and of its reference, layer 1, but for those that need memory: each returns what the plain functions on words say.
-/
import Derived.Test.YtmmfadakhnagpaaProg
import Derived.Test.YtmmfadakhnagpaaWord
import Derived.WalkKit
import Derived.WalkSpells
import Derived.WalkLawsBesides
import Derived.Below
import Derived.Deep.Draws
import Derived.Deep.QuietTactic
import Derived.BigQuiet
import Derived.Outline
import Derived.Lib.Hide
import Derived.Laws.Externs
import Derived.Laws.FloatArith
namespace Go.Proofs.Ytmmfadakhnagpaa
open Go.RowKit

/-! ### The two entries between words and floats -/
theorem enc_any (b : Nat) (w : World) : (callFunc 99 #[.float .f64 b]).run Try.prog w = .ok (.value (.int .u64 b)) w :=
  (run_callFunc_extern (e := Extern.MathFloatBits.float64bits) Try.func99 (by kernel_rfl) (by kernel_rfl) (by kernel_rfl) (by kernel_rfl) _ w).trans rfl
theorem dec_any (v : Int) (w : World) : (callFunc 88 #[.int .u64 v]).run Try.prog w = .ok (.value (.float .f64 v.toNat)) w :=
  (run_callFunc_extern (e := Extern.MathFloatBits.float64frombits) Try.func88 (by kernel_rfl) (by kernel_rfl) (by kernel_rfl) (by kernel_rfl) _ w).trans rfl

/-! ### Right, Canon -/
theorem right_w (v : Int) (w : World) : Calls Try.prog 37 #[.int .u64 v] w fun e w' => e = .returned (.bool (decide (bits .andNot .u64 v 9223372036854775808 ≤ 9218868437227405312) || (v == 9221120237041090560))) ∧ w = w' := by
  by_cases h : bits .andNot .u64 v 9223372036854775808 ≤ 9218868437227405312
  · have E := Lib.hid (show (decide (bits .andNot .u64 v 9223372036854775808 ≤ 9218868437227405312) || (v == 9221120237041090560)) = true by simp [h])
    go_enter Try.func37, Try.ntmps37
    go_wp2
    go_ret
    exact ⟨by rw [E.out]; rfl, rfl⟩
  · have E := Lib.hid (show (decide (bits .andNot .u64 v 9223372036854775808 ≤ 9218868437227405312) || (v == 9221120237041090560)) = (v == 9221120237041090560) by simp [h])
    go_enter Try.func37, Try.ntmps37
    go_wp2
    go_ret
    exact ⟨by rw [E.out]; rfl, rfl⟩
theorem right_any (v : Int) (h : W64 v) (w : World) : Calls Try.prog 37 #[.int .u64 v] w fun e w' => e = .returned (.bool (rightB v)) ∧ w = w' := by
  refine (right_w v w).mono ?_
  rintro e w' ⟨rfl, rfl⟩
  exact ⟨by rw [andNot_top h]; rfl, rfl⟩
theorem canon_any (v : Int) (hv : W64 v) (w : World) : Calls Try.prog 98 #[.int .u64 v] w fun e w' => e = .returned (.int .u64 (canon v)) ∧ w = w' := by
  cases h : rightB v
  all_goals
    go_enter Try.func98, Try.ntmps98
    go_wp2_with (go_at_call 37; refine (right_any _ hv _).mono ?_; rintro e w' ⟨rfl, rfl⟩)
    go_ret
    exact ⟨by simp [canon, h], rfl⟩
theorem refRight_any (v : Int) (hv : W64 v) (w : World) : Calls Try.prog 62 #[.int .u64 v] w fun e w' => e = .returned (.bool (rightB v)) ∧ w = w' := by
  have he := dec_any v
  have ho := order_self hv
  by_cases h : isNum v
  · have E := Lib.hid (show rightB v = true by unfold rightB; simp only [Bool.or_eq_true, decide_eq_true_eq]; exact .inl h)
    rw [decide_eq_true h] at ho
    clear h
    go_enter Try.func62, Try.ntmps62
    go_wp2
    go_ret
    exact ⟨by rw [E.out]; rfl, rfl⟩
  · have E := Lib.hid (show rightB v = (v == 9221120237041090560) by unfold rightB; unfold isNum at h; simp [h])
    rw [decide_eq_false h] at ho
    clear h
    go_enter Try.func62, Try.ntmps62
    go_wp2
    go_ret
    exact ⟨by rw [E.out]; rfl, rfl⟩
/-! ### Of, Float -/
def W64n (b : Nat) : Prop := b < 18446744073709551616
theorem W64n.w {b : Nat} (h : W64n b) : W64 (b : Int) := by unfold W64n at h; exact ⟨by omega, by omega⟩
theorem of_any (b : Nat) (hb : W64n b) (w : World) : Calls Try.prog 76 #[.float .f64 b] w fun e w' => e = .returned (.int .u64 (canon b)) ∧ w = w' := by
  have he := enc_any b
  go_enter Try.func76, Try.ntmps76
  go_wp2_with (go_at_call 98; refine (canon_any _ hb.w _).mono ?_; rintro e w' ⟨rfl, rfl⟩)
  go_ret
  exact ⟨rfl, rfl⟩
theorem float_any (v : Int) (hv : W64 v) (w : World) : Calls Try.prog 100 #[.int .u64 v] w fun e w' => e = .returned (.float .f64 (canon v).toNat) ∧ w = w' := by
  have he := dec_any (canon v)
  go_enter Try.func100, Try.ntmps100
  go_wp2_with (go_at_call 98; refine (canon_any _ hv _).mono ?_; rintro e w' ⟨rfl, rfl⟩)
  go_ret
  exact ⟨rfl, rfl⟩
theorem canon_of_num {v : Int} (h : isNum v) : canon v = v := canon_of_right (by unfold rightB; unfold isNum at h; simp [h])
theorem canon_of_not {v : Int} (h : ¬ isNum v) : canon v = 9221120237041090560 := by
  unfold canon rightB; unfold isNum at h
  by_cases e : v = 9221120237041090560
  · simp [e]
  · simp [h, e]
theorem refOf_any (b : Nat) (hb : W64n b) (w : World) : Calls Try.prog 92 #[.float .f64 b] w fun e w' => e = .returned (.int .u64 (canon b)) ∧ w = w' := by
  have he := enc_any b
  have ho := order_self hb.w
  rw [Int.toNat_natCast] at ho
  by_cases h : isNum (b : Int)
  · have E := Lib.hid (canon_of_num h)
    rw [decide_eq_true h] at ho
    have hn : (FloatKind.f64.format.order b b != some .eq) = false := by unfold bne; rw [ho]; rfl
    clear h ho hb
    go_enter Try.func92, Try.ntmps92
    go_wp2
    go_ret
    exact ⟨by rw [E.out]; rfl, rfl⟩
  · have E := Lib.hid (canon_of_not h)
    rw [decide_eq_false h] at ho
    have hn : (FloatKind.f64.format.order b b != some .eq) = true := by unfold bne; rw [ho]; rfl
    clear h ho hb
    go_enter Try.func92, Try.ntmps92
    go_wp2
    go_ret
    exact ⟨by rw [E.out]; rfl, rfl⟩

/-! ### ClassOf, Negative -/
theorem low_w64 {v : Int} (h : W64 v) : W64 (low v) := by obtain ⟨a, b⟩ := h; unfold low; exact ⟨by omega, by omega⟩
theorem classOf_any (v : Int) (hv : W64 v) (w : World) : Calls Try.prog 101 #[.int .u64 v] w fun e w' => e = .returned (.int .u8 (classOf v)) ∧ w = w' := by
  have E : classOf v = clsW (bits .andNot .u64 (canon v) 9223372036854775808) := by rw [andNot_top (canon_w64 hv)]; exact classOf_w v
  unfold clsW at E
  cases h0 : (bits .andNot .u64 (canon v) 9223372036854775808 == 0) <;> cases h1 : decide (bits .andNot .u64 (canon v) 9223372036854775808 < 9218868437227405312) <;> cases h2 : (bits .andNot .u64 (canon v) 9223372036854775808 == 9218868437227405312)
  all_goals
    rw [h0, h1, h2] at E
    simp only [cond_true, cond_false] at E
    have F := Lib.hid E
    clear E
    go_enter Try.func101, Try.ntmps101
    go_wp2_with (go_at_call 98; refine (canon_any v hv _).mono ?_; rintro e w' ⟨rfl, rfl⟩)
    go_ret
    exact ⟨by rw [F.out]; rfl, rfl⟩
end Go.Proofs.Ytmmfadakhnagpaa
