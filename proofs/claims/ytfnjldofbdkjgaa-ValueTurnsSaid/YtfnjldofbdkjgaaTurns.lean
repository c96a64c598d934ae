/-
  The walk of ValueTurns: neg of neg, sub as add of neg, a whole number back.
-/
import Derived.Test.YtfnjldofbdkjgaaLaw01
namespace Go.Proofs.Ytfnjldofbdkjgaa
open Go.RowKit
set_option linter.unusedSimpArgs false

theorem flip_num {c : Int} (hw : W64 c) (n : isNum c) : isNum (flip c) ∧ flip (flip c) = c := by
  obtain ⟨a, b⟩ := hw
  unfold isNum low at *
  unfold flip
  constructor
  · split <;> omega
  · split <;> split <;> omega
theorem neg_neg (a : Int) (h : W64 a) : negV (negV a) = canon a := by
  rcases canon_two h with c | ⟨n, w, _⟩
  · have : negV a = 9221120237041090560 := by unfold negV; rw [if_pos c]
    rw [this, c]
    decide +kernel
  · obtain ⟨n2, e2⟩ := flip_num w n
    have e : negV a = flip (canon a) := by unfold negV; rw [if_neg (num_ne_nan n)]
    rw [e]
    unfold negV
    rw [canon_of_num n2, if_neg (num_ne_nan n2), e2]
theorem canon_neg (a : Int) (h : W64 a) : canon (negV a) = negV a := by
  rcases canon_two h with c | ⟨n, w, _⟩
  · have : negV a = 9221120237041090560 := by unfold negV; rw [if_pos c]
    rw [this, canon_nan]
  · have e : negV a = flip (canon a) := by unfold negV; rw [if_neg (num_ne_nan n)]
    rw [e, canon_of_num (flip_num w n).1]
theorem sgn_toNat {v : Int} (h : W64 v) : Flt.sgn v.toNat = decide (9223372036854775808 ≤ v) := by
  obtain ⟨a, b⟩ := h
  unfold Flt.sgn
  by_cases hv : 9223372036854775808 ≤ v
  · have : v.toNat / 9223372036854775808 = 1 := by omega
    rw [this, decide_eq_true hv]; rfl
  · have : v.toNat / 9223372036854775808 = 0 := by omega
    rw [this, decide_eq_false hv]; rfl
theorem sum_nan_right (d : Ieee.Datum) (s : Bool) (f : Nat) : d.sum (.nan s f) = none := by cases d <;> rfl
/-- The flipped word stands for the opposite. -/
theorem read_flip {c : Int} (hw : W64 c) (n : isNum c) : Ieee.double.read (flip c).toNat = (Ieee.double.read c.toNat).opposite := by
  have w2 := flip_w64 hw
  have r1 := rung_toNat hw
  have r2 := rung_toNat w2
  have hl : low (flip c) = low c := by
    obtain ⟨a, b⟩ := hw
    unfold low flip
    split <;> omega
  have hr : Flt.rung (flip c).toNat = Flt.rung c.toNat := by omega
  have hs : Flt.sgn (flip c).toNat = !Flt.sgn c.toNat := by
    rw [sgn_toNat hw, sgn_toNat w2]
    obtain ⟨a, b⟩ := hw
    unfold flip
    by_cases hv : c < 9223372036854775808
    · rw [if_pos hv, decide_eq_true (by omega), decide_eq_false (by omega)]; rfl
    · rw [if_neg hv, decide_eq_false (by omega), decide_eq_true (by omega)]; rfl
  unfold isNum at n
  rcases Int.lt_or_eq_of_le n with l | l
  · rw [Flt.read_fin (by omega), Flt.read_fin (v := c.toNat) (by omega), hr, hs]
    rfl
  · rw [Flt.read_inf (by omega), Flt.read_inf (v := c.toNat) (by omega), hs]
    rfl
theorem sub_is_add (a b : Int) (hb : W64 b) : fop .sub a b = fop .add a (negV b) := by
  unfold fop
  rw [canon_neg b hb]
  have key : floatBits .sub .f64 (canon a).toNat (canon b).toNat = floatBits .add .f64 (canon a).toNat (negV b).toNat := by
    show (((Ieee.double.read (canon a).toNat).sum (Ieee.double.read (canon b).toNat).opposite).map Ieee.double.write) = (((Ieee.double.read (canon a).toNat).sum (Ieee.double.read (negV b).toNat)).map Ieee.double.write)
    rcases canon_two hb with c | ⟨n, w, _⟩
    · have e : negV b = 9221120237041090560 := by unfold negV; rw [if_pos c]
      rw [c, e]
      obtain ⟨f, hf⟩ := Flt.read_nan (v := (9221120237041090560 : Int).toNat) (by decide)
      rw [hf, sum_nan_right]
      show Option.map _ (Ieee.Datum.sum _ (.nan _ _)) = _
      rw [sum_nan_right]
    · have e : negV b = flip (canon b) := by unfold negV; rw [if_neg (num_ne_nan n)]
      rw [e, read_flip w n]
  rw [key]
theorem fltOf_back (n : Int) (h0 : -2147483648 ≤ n) (h1 : n ≤ 2147483647) : wholeOk (intV n) = true ∧ wholeN (intV n) = n := by
  have hk : intOk n = true := by unfold intOk; rw [decide_eq_true_eq]; omega
  have hv : intV n = (fltOf n : Int) := by unfold intV; rw [hk]; rfl
  obtain ⟨f1, f2⟩ := fltOf_num n
  have hc : canon (intV n) = (fltOf n : Int) := by rw [hv, canon_of_num f2]
  have hm : n.natAbs < 9007199254740992 := by omega
  obtain ⟨w1, w2, w3⟩ := Flt.whole_nearest (decide (n < 0)) hm
  rw [← fltOf_eq] at w1 w2 w3
  have hs : smallB (canon (intV n)) = true := by
    rw [hc]
    have r := rung_toNat f1.w
    rw [Int.toNat_natCast] at r
    unfold smallB
    rw [decide_eq_true_eq, ← r, fltOf_eq]
    rcases Nat.eq_zero_or_pos n.natAbs with z | p
    · rw [z, Flt.nearest_zero, Flt.rung_word _ (by omega)]; omega
    · obtain ⟨l, q1, q2⟩ := Flt.filled p hm
      rw [Flt.nearest_whole _ p hm, Flt.rung_word _ (by omega)]
      omega
  have hcut : cutOf (canon (intV n)) = fltOf n := by
    unfold cutOf
    rw [hc, Int.toNat_natCast, w1, w3, fltOf_eq]
  have hok : wholeOk (intV n) = true := by
    unfold wholeOk
    rw [hs, hcut, hc, Int.toNat_natCast]
    have o := order_self f1.w
    rw [Int.toNat_natCast, decide_eq_true f2] at o
    rw [o]
    rfl
  refine ⟨hok, ?_⟩
  unfold wholeN wholeI
  rw [hok, cond_true, hc, Int.toNat_natCast, w1, w3]
  by_cases hn : n < 0
  · rw [if_pos (decide_eq_true hn)]; omega
  · rw [if_neg (by rw [decide_eq_false hn]; decide)]; omega
theorem valueTurns_walk (a0 : Int) (w0 : (Lit.int .u64 a0).wf = true) (a1 : Int) (w1 : (Lit.int .u64 a1).wf = true) (n : Int) (w2 : (Lit.int .i32 n).wf = true) (w : World) :
    Calls Try.prog 6 #[.int .u64 a0, .int .u64 a1, .int .i32 n] w fun e w' => e = .returned (.bool true) ∧ Below w.heap.size w w' := by
  have h0 := w64_of w0
  have h1 := w64_of w1
  have hn : -2147483648 ≤ n ∧ n ≤ 2147483647 := by
    simp [Lit.wf, IntKind.min, IntKind.max, IntKind.bits, IntKind.signed] at w2
    exact ⟨by omega, by omega⟩
  obtain ⟨n0, n1⟩ := hn
  obtain ⟨b1, b2⟩ := fltOf_back n n0 n1
  have hk : intOk n = true := by unfold intOk; rw [decide_eq_true_eq]; omega
  have wn := negV_w64 h0
  have wm := negV_w64 h1
  have wi := intV_w64 n
  have g1 : (wholeN (intV n) == n) = true := by rw [b2]; simp
  have g2 : (negV (negV a0) == canon a0) = true := by rw [neg_neg a0 h0]; simp
  have g3 : (fop .sub a0 a1 == fop .add a0 (negV a1)) = true := by rw [sub_is_add a0 a1 h1]; simp
  clear b2 w0 w1 w2
  go_enter Try.func6, Try.ntmps6
  go_wp2_with (first | (go_at_call 27; refine (int_any _ _).mono ?_; rintro e w' ⟨rfl, rfl⟩) | (go_at_call 28; refine (whole_any _ wi _).mono ?_; rintro e w' ⟨rfl, rfl⟩) | (go_at_call 29; refine (neg_any _ (by assumption) _).mono ?_; rintro e w' ⟨rfl, rfl⟩) | (go_at_call 19; refine (canon_any _ h0 _).mono ?_; rintro e w' ⟨rfl, rfl⟩) | (go_at_call 30; refine (sub_any _ _ h0 h1 _).mono ?_; rintro e w2 ⟨rfl, n, rfl⟩) | (go_at_call 31; refine (add_any _ _ h0 wm _).mono ?_; rintro e w2 ⟨rfl, n, rfl⟩) | (go_at_call 14; refine (live_any _).mono ?_; rintro e w' ⟨rfl, hb⟩))
  go_ret
  exact ⟨rfl, by repeat (first | exact hb | refine below_drewN ?_ _)⟩

end Go.Proofs.Ytfnjldofbdkjgaa
