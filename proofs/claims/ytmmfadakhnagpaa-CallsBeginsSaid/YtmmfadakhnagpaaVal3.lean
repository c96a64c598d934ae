
/-
  The contracts of package value and of its reference, layer 1, the third part: sums and so on, whole numbers.
-/
import Derived.Test.YtmmfadakhnagpaaVal2
import Derived.WalkSmall
namespace Go.Proofs.Ytmmfadakhnagpaa
open Go.RowKit
set_option linter.unusedSimpArgs false

/-! ### Sums, differences, products, quotients -/
/-- The bits that the tape gives for what is no number. -/
def nanOf (w : World) (x y : Nat) : Nat := (Question.nanBits .f64 x y).cut (w.tape w.drawn (.nanBits .f64 x y))
theorem nanOf_range (w : World) (x y : Nat) : W64n (nanOf w x y) ∧ ¬ isNum (nanOf w x y : Int) := by
  have key : ∀ t : Nat, W64n ((Question.nanBits .f64 x y).cut t) ∧ ¬ isNum (((Question.nanBits .f64 x y).cut t : Nat) : Int) := by
    intro t
    have e : (Question.nanBits .f64 x y).cut t = (t % 2) * 9223372036854775808 + 9218868437227405312 + 1 + (t / 2) % 4503599627370495 := rfl
    rw [e]
    have m : (t / 2) % 4503599627370495 < 4503599627370495 := Nat.mod_lt _ (by decide)
    generalize (t / 2) % 4503599627370495 = y at *
    have s : t % 2 = 0 ∨ t % 2 = 1 := by omega
    unfold W64n isNum low
    rcases s with s | s <;> rw [s] <;> omega
  exact key _
theorem nan_run (op : BinOp) (hop : op = .add ∨ op = .sub ∨ op = .mul ∨ op = .quo) (t : TypeId) (x y : Nat) (h : floatBits op .f64 x y = none) (w : World) :
    (binOp op t (.float .f64 x) (.float .f64 y)).run Try.prog w = .ok (.float .f64 (nanOf w x y)) w.drew := by
  rcases hop with rfl | rfl | rfl | rfl <;> simp only [floatBits] at h <;> (simp [binOp, Op.floatArith, h]; rfl)

/-- What an operation on two words comes to. -/
def fop (op : BinOp) (a b : Int) : Int := match floatBits op .f64 (canon a).toNat (canon b).toNat with
  | some r => canon (r : Int)
  | none => 9221120237041090560
theorem wf_w64n {r : Nat} (h : (Lit.float .f64 r).wf = true) : W64n r := by
  unfold W64n; simpa [Lit.wf] using h
def DrewN (w w' : World) : Prop := ∃ n, w' = w.drewN n
theorem DrewN.refl (w : World) : DrewN w w := ⟨0, rfl⟩
theorem DrewN.one (w : World) : DrewN w w.drew := ⟨1, rfl⟩

theorem fop_w64 (op : BinOp) (a b : Int) : W64 (fop op a b) := by
  unfold fop
  split
  · rename_i r hr
    exact canon_w64 (wf_w64n (floatBits_wf hr)).w
  · exact nan_w64
theorem fop_right (op : BinOp) (a b : Int) : rightB (fop op a b) = true := by
  unfold fop
  split
  · exact canon_right
  · decide
/-! ### Whole numbers as values -/
def fltOf (n : Int) : Nat := floatOfInt .f64 n
theorem fltOf_eq (n : Int) : fltOf n = Ieee.double.nearest (n < 0) n.natAbs 0 := rfl
theorem nearest_num (s : Bool) (m : Nat) (p : Int) : W64n (Ieee.double.nearest s m p) ∧ isNum (Ieee.double.nearest s m p : Int) := by
  obtain ⟨r, h, e⟩ := Flt.nearest_word s m p
  rw [e]
  have h1 := Flt.word_lt s h
  have h2 := Flt.rung_word s h
  have h3 := rung_toNat (W64n.w h1)
  rw [Int.toNat_natCast] at h3
  refine ⟨h1, ?_⟩
  unfold isNum
  omega
theorem fltOf_num (n : Int) : W64n (fltOf n) ∧ isNum (fltOf n : Int) := nearest_num _ _ _
def intOk (n : Int) : Bool := decide (-9007199254740992 ≤ n ∧ n ≤ 9007199254740992)
def intV (n : Int) : Int := bif intOk n then (fltOf n : Int) else 0
theorem intOk_w (n : Int) : intOk n = (!decide (n < -9007199254740992) && !decide (9007199254740992 < n)) := by
  unfold intOk
  rw [Bool.eq_iff_iff]
  simp
theorem intV_w64 (n : Int) : W64 (intV n) := by
  unfold intV
  cases intOk n
  · exact (show W64 0 from ⟨by decide, by decide⟩)
  · exact (fltOf_num n).1.w
theorem int_any (n : Int) (w : World) : Calls Try.prog 34 #[.int .i64 n] w fun e w' => e = .returned (.tuple #[.int .u64 (intV n), .bool (intOk n)]) ∧ w = w' := by
  have E := intOk_w n
  have G : intV n = bif intOk n then canon (fltOf n : Int) else 0 := by unfold intV; rw [canon_of_num (fltOf_num n).2]
  cases h0 : decide (n < -9007199254740992) <;> cases h1 : decide (9007199254740992 < n)
  all_goals
    rw [h0, h1] at E
    simp only [Bool.not_true, Bool.not_false, Bool.and_true, Bool.and_false] at E
    rw [E] at G
    simp only [cond_true, cond_false] at G
    have F := Lib.hid E
    have F' := Lib.hid G
    clear E G
    have hn : W64n (floatOfInt .f64 n) := (fltOf_num n).1
    go_enter Try.func34, Try.ntmps34
    go_wp2_with (go_at_call 76; refine (of_any _ hn _).mono ?_; rintro e w' ⟨rfl, rfl⟩)
    go_ret2
    exact ⟨by rw [F.out, F'.out]; rfl, rfl⟩
theorem refInt_any (n : Int) (w : World) : Calls Try.prog 71 #[.int .i64 n] w fun e w' => e = .returned (.tuple #[.int .u64 (intV n), .bool (intOk n)]) ∧ w = w' := by
  have E := intOk_w n
  have G : intV n = bif intOk n then canon (fltOf n : Int) else 0 := by unfold intV; rw [canon_of_num (fltOf_num n).2]
  cases h0 : decide (n < -9007199254740992) <;> cases h1 : decide (9007199254740992 < n)
  all_goals
    rw [h0, h1] at E
    simp only [Bool.not_true, Bool.not_false, Bool.and_true, Bool.and_false] at E
    rw [E] at G
    simp only [cond_true, cond_false] at G
    have F := Lib.hid E
    have F' := Lib.hid G
    clear E G
    have hn : W64n (floatOfInt .f64 n) := (fltOf_num n).1
    go_enter Try.func71, Try.ntmps71
    go_wp2_with (go_at_call 92; refine (refOf_any _ hn _).mono ?_; rintro e w' ⟨rfl, rfl⟩)
    go_ret2
    exact ⟨by rw [F.out, F'.out]; rfl, rfl⟩

/-! ### Values as whole numbers -/
/-- A word cut towards zero, as a word. -/
def cutOf (v : Int) : Nat := Ieee.double.nearest (Flt.sgn v.toNat) (Flt.whole v.toNat) 0
def wholeI (v : Int) : Int := if Flt.sgn v.toNat then -(Flt.whole v.toNat : Int) else (Flt.whole v.toNat : Int)
def isFin (v : Int) : Prop := low v < 9218868437227405312
theorem rung_fin {v : Int} (h : W64 v) (f : isFin v) : Flt.rung v.toNat < 9218868437227405312 := by
  have := rung_toNat h
  unfold isFin at f
  omega
def smallB (v : Int) : Bool := decide (low v ≤ 4845873199050653696)
def wholeOk (v : Int) : Bool := smallB (canon v) && (FloatKind.f64.format.order (cutOf (canon v)) (canon v).toNat == some .eq)
def wholeN (v : Int) : Int := bif wholeOk v then wholeI (canon v) else 0
theorem small_fin {v : Int} (h : smallB v = true) : isFin v := by unfold smallB at h; unfold isFin; simp only [decide_eq_true_eq] at h; omega
theorem fin_num {v : Int} (h : isFin v) : isNum v := by unfold isFin at h; unfold isNum; omega
theorem whole_le {v : Int} (h : W64 v) (s : smallB v = true) : Flt.whole v.toNat ≤ 9007199254740992 := by
  have := rung_toNat h
  unfold smallB at s
  simp only [decide_eq_true_eq] at s
  exact Flt.whole_le (by omega)
theorem cut_num (v : Int) : W64n (cutOf v) ∧ isNum (cutOf v : Int) := nearest_num _ _ _
/-- What math.Trunc does, where the word is finite. -/
theorem trunc_run (v : Int) (h : W64 v) (f : isFin v) (w : World) : (callFunc 108 #[.float .f64 v.toNat]).run Try.prog w = .ok (.value (.float .f64 (cutOf v))) w := by
  refine (run_callFunc_extern (e := Extern.MathFloor.toIntegral "math.archTrunc" .zero) Try.func108 (by kernel_rfl) (by kernel_rfl) (by kernel_rfl) (by kernel_rfl) _ w).trans ?_
  have e := Flt.read_fin (rung_fin h f)
  have i := Flt.integral_fin (rung_fin h f)
  rw [e] at i
  have r : (Extern.MathFloor.toIntegral "math.archTrunc" .zero #[.float .f64 v.toNat]).run Try.prog w = .ok (.float .f64 (cutOf v)) w := by
    have e' : FloatKind.f64.decode v.toNat = .number (Flt.sgn v.toNat) (Flt.mag (Flt.rung v.toNat)) (-1074 + (Flt.ex (Flt.rung v.toNat) : Nat)) := e
    show Sem.run Try.prog (match FloatKind.f64.decode v.toNat with
      | .nan s t => (_ : Sem Value)
      | d => (pure (Value.float .f64 (FloatKind.f64.encode (d.integral .zero))) : Sem Value)) w = _
    rw [e']
    show Result.ok (Value.float .f64 (FloatKind.f64.encode (Ieee.Datum.integral .zero _))) w = _
    rw [i]
    rfl
  rw [r]
  rfl
theorem trunc_any (v : Int) (h : W64 v) (f : isFin v) (w : World) : Calls Try.prog 102 #[.float .f64 v.toNat] w fun e w' => e = .returned (.float .f64 (cutOf v)) ∧ w = w' := by
  have he := trunc_run v h f
  go_enter Try.func102, Try.ntmps102
  go_wp2
  go_ret
  exact ⟨rfl, rfl⟩
theorem fabs_any (v : Int) (h : W64 v) (w : World) : Calls Try.prog 103 #[.float .f64 v.toNat] w fun e w' => e = .returned (.float .f64 (low v).toNat) ∧ w = w' := by
  have e1 := enc_any v.toNat
  rw [Int.toNat_of_nonneg h.1] at e1
  have e2 := dec_any (bits .andNot .u64 v 9223372036854775808)
  have F := Lib.hid (andNot_top h)
  go_enter Try.func103, Try.ntmps103
  go_wp2
  go_ret
  exact ⟨by rw [← F.out]; rfl, rfl⟩

/-! ### Whole -/
theorem class_small {v : Int} (s : smallB (canon v) = true) : decide (1 < classOf v) = false := by
  unfold smallB at s
  simp only [decide_eq_true_eq] at s
  unfold classOf
  rw [decide_eq_false_iff_not]
  split
  · omega
  · rw [if_pos (by omega)]; omega
theorem low_num {v : Int} (h : W64 v) (n : isNum v) : W64 (low v) ∧ isNum (low v) ∧ keyI (low v) = low v := by
  unfold isNum at n
  obtain ⟨a, b⟩ := h
  refine ⟨⟨by unfold low; omega, by unfold low; omega⟩, ?_, ?_⟩
  · unfold isNum low at *; omega
  · unfold keyI low at *; rw [if_pos (by omega)]
/-- A class above 1, or a magnitude above 2^53: as the walk of value.Whole asks. -/
theorem small_w {v : Int} (h : W64 v) : smallB (canon v) = (!decide (1 < classOf v) && !(FloatKind.f64.format.order (low (canon v)).toNat 4845873199050653696 == some .gt)) := by
  cases s : decide (1 < classOf v)
  · rw [Bool.not_false, Bool.true_and]
    rcases canon_two h with c | ⟨n, w, _⟩
    · have : classOf v = 3 := by unfold classOf; rw [c]; decide
      rw [this] at s
      exact absurd s (by decide)
    · obtain ⟨l1, l2, l3⟩ := low_num w n
      rw [order_lit 4845873199050653696 l1 ⟨by decide, by decide⟩ l2 (by decide), ord_gt, l3]
      unfold smallB
      have k : keyI ((4845873199050653696 : Nat) : Int) = 4845873199050653696 := by decide
      rw [k]
      generalize low (canon v) = x
      by_cases hx : x ≤ 4845873199050653696
      · rw [decide_eq_true hx, decide_eq_false (by omega)]; rfl
      · rw [decide_eq_false hx, decide_eq_true (by omega)]; rfl
  · rw [Bool.not_true, Bool.false_and]
    cases t : smallB (canon v)
    · rfl
    · rw [class_small t] at s
      exact absurd s (by decide)
theorem order_nan_lit (b : Nat) : FloatKind.f64.format.order (9221120237041090560 : Int).toNat b = none := Flt.order_nan_left (by decide)
/-- As the reference asks: from -2^53 to 2^53. -/
theorem small_f {v : Int} (h : W64 v) : smallB (canon v) =
    ((FloatKind.f64.format.order (canon v).toNat 14069245235905429504 == some .gt || FloatKind.f64.format.order (canon v).toNat 14069245235905429504 == some .eq) &&
     (FloatKind.f64.format.order (canon v).toNat 4845873199050653696 == some .lt || FloatKind.f64.format.order (canon v).toNat 4845873199050653696 == some .eq)) := by
  rcases canon_two h with c | ⟨n, w, _⟩
  · rw [c, order_nan_lit, order_nan_lit]
    decide
  · rw [order_lit 14069245235905429504 w ⟨by decide, by decide⟩ n (by decide), order_lit 4845873199050653696 w ⟨by decide, by decide⟩ n (by decide), ord_gt, ord_eq, ord_lt, ord_eq]
    have k : keyI ((4845873199050653696 : Nat) : Int) = 4845873199050653696 := by decide
    have k' : keyI ((14069245235905429504 : Nat) : Int) = -4845873199050653696 := by decide
    rw [k, k']
    unfold smallB
    rw [Bool.eq_iff_iff]
    simp only [decide_eq_true_eq, Bool.and_eq_true, Bool.or_eq_true]
    unfold isNum at n
    unfold low at n ⊢
    unfold keyI
    obtain ⟨a, b⟩ := w
    split <;> omega
theorem toInt_val (v : Int) (h : W64 v) (s : smallB v = true) : floatToIntVal .f64 v.toNat .i64 = some (wholeI v) := by
  unfold floatToIntVal
  have e : (FloatKind.f64.decode v.toNat).toInt .zero = some (wholeI v) := Flt.toInt_fin (rung_fin h (small_fin s))
  rw [e]
  have b := whole_le h s
  have c : IntKind.i64.min ≤ wholeI v ∧ wholeI v ≤ IntKind.i64.max := by
    have m1 : IntKind.i64.min = -9223372036854775808 := by decide
    have m2 : IntKind.i64.max = 9223372036854775807 := by decide
    rw [m1, m2]
    unfold wholeI
    split <;> omega
  simp only [c, and_self, if_true]
/-- The whole number's own word stands to the value as what is cut does. -/
theorem back_eq (v : Int) (h : W64 v) (s : smallB v = true) : FloatKind.f64.format.order (fltOf (wholeI v)) v.toNat = FloatKind.f64.format.order (cutOf v) v.toNat := by
  have n := fin_num (small_fin s)
  obtain ⟨c1, c2⟩ := cut_num v
  obtain ⟨f1, f2⟩ := fltOf_num (wholeI v)
  have e1 := order_num c1.w h c2 n
  have e2 := order_num f1.w h f2 n
  rw [Int.toNat_natCast] at e1 e2
  rw [e1, e2]
  have hk : keyI (fltOf (wholeI v) : Int) = keyI (cutOf v : Int) := by
    rw [fltOf_eq]
    unfold cutOf wholeI
    rcases Nat.eq_zero_or_pos (Flt.whole v.toNat) with z | p
    · rw [z, Flt.nearest_zero]
      have : (if Flt.sgn v.toNat = true then -((0 : Nat) : Int) else ((0 : Nat) : Int)) = 0 := by split <;> rfl
      rw [this]
      cases Flt.sgn v.toNat <;> decide
    · cases Flt.sgn v.toNat
      · simp only [Bool.false_eq_true, if_false]
        have : decide (((Flt.whole v.toNat : Nat) : Int) < 0) = false := by rw [decide_eq_false_iff_not]; omega
        rw [this]
        rfl
      · simp only [if_true]
        have : decide (-((Flt.whole v.toNat : Nat) : Int) < 0) = true := by rw [decide_eq_true_iff]; omega
        rw [this]
        have : (-((Flt.whole v.toNat : Nat) : Int)).natAbs = Flt.whole v.toNat := by omega
        rw [this]
  rw [hk]
theorem whole_any (v : Int) (hv : W64 v) (w : World) : Calls Try.prog 78 #[.int .u64 v] w fun e w' => e = .returned (.tuple #[.int .i64 (wholeN v), .bool (wholeOk v)]) ∧ w = w' := by
  have S := small_w hv
  have wc := canon_w64 hv
  have E : wholeOk v = (smallB (canon v) && (FloatKind.f64.format.order (cutOf (canon v)) (canon v).toNat == some .eq)) := rfl
  have G : wholeN v = bif wholeOk v then wholeI (canon v) else 0 := rfl
  have hneq : (FloatKind.f64.format.order (cutOf (canon v)) (canon v).toNat != some .eq) = !(FloatKind.f64.format.order (cutOf (canon v)) (canon v).toNat == some .eq) := rfl
  cases h0 : decide (1 < classOf v)
  · have hf : isFin (canon v) := by
      rcases canon_two hv with c | ⟨n, w, _⟩
      · have : classOf v = 3 := by unfold classOf; rw [c]; decide
        rw [this] at h0; exact absurd h0 (by decide)
      · unfold isNum at n
        unfold isFin
        rcases Int.lt_or_eq_of_le n with l | l
        · exact l
        · have : classOf v = 2 := by unfold classOf; rw [l]; decide
          rw [this] at h0; exact absurd h0 (by decide)
    cases h1 : (FloatKind.f64.format.order (cutOf (canon v)) (canon v).toNat == some .eq) <;> cases h2 : (FloatKind.f64.format.order (low (canon v)).toNat 4845873199050653696 == some .gt)
    all_goals
      rw [h0, h2] at S
      rw [S, h1] at E
      rw [h1] at hneq
      simp only [Bool.not_true, Bool.not_false, Bool.and_true, Bool.and_false, Bool.true_and, Bool.false_and] at E S hneq
      rw [E] at G
      simp only [cond_true, cond_false] at G
      have F := Lib.hid E
      have F' := Lib.hid G
      have F2 := Lib.hid S
      clear E G S
    case true.false =>
      have hi := run_convert_float_int (P := Try.prog) w 116 3 .f64 .i64 _ _ (by kernel_rfl) (by kernel_rfl) (toInt_val _ wc F2.out)
      go_enter Try.func78, Try.ntmps78
      go_wp2_with (first | (go_at_call 100; refine (float_any _ hv _).mono ?_; rintro e w' ⟨rfl, rfl⟩) | (go_at_call 101; refine (classOf_any _ hv _).mono ?_; rintro e w' ⟨rfl, rfl⟩) | (go_at_call 102; refine (trunc_any _ wc hf _).mono ?_; rintro e w' ⟨rfl, rfl⟩) | (go_at_call 103; refine (fabs_any _ wc _).mono ?_; rintro e w' ⟨rfl, rfl⟩))
      go_ret2
      exact ⟨by rw [F.out, F'.out]; rfl, rfl⟩
    all_goals
      go_enter Try.func78, Try.ntmps78
      go_wp2_with (first | (go_at_call 100; refine (float_any _ hv _).mono ?_; rintro e w' ⟨rfl, rfl⟩) | (go_at_call 101; refine (classOf_any _ hv _).mono ?_; rintro e w' ⟨rfl, rfl⟩) | (go_at_call 102; refine (trunc_any _ wc hf _).mono ?_; rintro e w' ⟨rfl, rfl⟩) | (go_at_call 103; refine (fabs_any _ wc _).mono ?_; rintro e w' ⟨rfl, rfl⟩))
      go_ret2
      exact ⟨by rw [F.out, F'.out]; rfl, rfl⟩
  · rw [h0] at S
    rw [S] at E
    simp only [Bool.not_true, Bool.false_and] at E
    rw [E] at G
    simp only [cond_false] at G
    have F := Lib.hid E
    have F' := Lib.hid G
    clear E G S hneq
    go_enter Try.func78, Try.ntmps78
    go_wp2_with (first | (go_at_call 100; refine (float_any _ hv _).mono ?_; rintro e w' ⟨rfl, rfl⟩) | (go_at_call 101; refine (classOf_any _ hv _).mono ?_; rintro e w' ⟨rfl, rfl⟩))
    go_ret2
    exact ⟨by rw [F.out, F'.out]; rfl, rfl⟩

end Go.Proofs.Ytmmfadakhnagpaa
