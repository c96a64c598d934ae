
/-
  Plain laws on IEEE 754 doubles as bits (no program in sight): when a word is no number; the order of two words by an integer key; a whole number's word, and back.
-/
import Ieee.Arith
namespace Go.Proofs.Ytmmfadakhnagpaa.Flt
open Ieee

theorem signWeight_eq : double.signWeight = 9223372036854775808 := by decide +kernel
theorem binade_eq : double.binade = 4503599627370496 := by decide +kernel
theorem infRung_eq : double.infRung = 9218868437227405312 := by decide +kernel
theorem leastPlace_eq : double.leastPlace = -1074 := by decide +kernel

/-- The word's magnitude bits. -/
def rung (v : Nat) : Nat := v % 9223372036854775808
/-- Is the sign set? -/
def sgn (v : Nat) : Bool := v / 9223372036854775808 % 2 == 1
/-- The digits of a finite rung, and their place above the least one. -/
def mag (r : Nat) : Nat := if r < 4503599627370496 then r else 4503599627370496 + r % 4503599627370496
def ex (r : Nat) : Nat := r / 4503599627370496 - 1

theorem read_fin {v : Nat} (h : rung v < 9218868437227405312) : double.read v = .number (sgn v) (mag (rung v)) (-1074 + (ex (rung v) : Nat)) := by
  unfold Format.read
  simp only [signWeight_eq, binade_eq, infRung_eq, leastPlace_eq]
  change (if rung v < 4503599627370496 then _ else _) = _
  by_cases hr : rung v < 4503599627370496
  · have e : ex (rung v) = 0 := by unfold ex; omega
    rw [if_pos hr, e]
    unfold mag
    rw [if_pos hr]
    rfl
  · rw [if_neg hr]
    change (if rung v < 9218868437227405312 then _ else _) = _
    rw [if_pos h]
    unfold mag
    rw [if_neg hr]
    rfl

theorem read_inf {v : Nat} (h : rung v = 9218868437227405312) : double.read v = .infinity (sgn v) := by
  unfold Format.read
  simp only [signWeight_eq, binade_eq, infRung_eq, leastPlace_eq]
  change (if rung v < 4503599627370496 then _ else if rung v < 9218868437227405312 then _ else if rung v = 9218868437227405312 then _ else _) = _
  rw [if_neg (by omega), if_neg (by omega), if_pos h]
  rfl

theorem read_nan {v : Nat} (h : 9218868437227405312 < rung v) : ∃ n, double.read v = .nan (sgn v) n := by
  unfold Format.read
  simp only [signWeight_eq, binade_eq, infRung_eq, leastPlace_eq]
  change ∃ n, (if rung v < 4503599627370496 then _ else if rung v < 9218868437227405312 then _ else if rung v = 9218868437227405312 then _ else _) = _
  rw [if_neg (by omega), if_neg (by omega), if_neg (by omega)]
  exact ⟨_, rfl⟩

/-- A rung is its digits and as many binades as their place. -/
theorem rung_split (r : Nat) : r = mag r + ex r * 4503599627370496 := by
  unfold mag ex
  split <;> omega

theorem mag_lt (r : Nat) : mag r < 9007199254740992 := by unfold mag; split <;> omega
theorem mag_ge {r : Nat} (h : 0 < ex r) : 4503599627370496 ≤ mag r := by unfold mag ex at *; split <;> omega
theorem mag_zero (r : Nat) : mag r = 0 ↔ r = 0 := by unfold mag; split <;> omega
theorem ex_mono {a b : Nat} (h : a ≤ b) : ex a ≤ ex b := by
  unfold ex
  have := Nat.div_le_div_right (c := 4503599627370496) h
  omega

/-- Of two rungs the lesser one has the lesser magnitude, in units of the lesser place. -/
theorem scaled_lt {a b : Nat} (h : a < b) : mag a * 2 ^ (ex a - min (ex a) (ex b)) < mag b * 2 ^ (ex b - min (ex a) (ex b)) := by
  have he := ex_mono (Nat.le_of_lt h)
  have ha := rung_split a
  have hb := rung_split b
  rw [Nat.min_eq_left he, Nat.sub_self, Nat.pow_zero, Nat.mul_one]
  by_cases hx : ex a = ex b
  · rw [hx, Nat.sub_self, Nat.pow_zero, Nat.mul_one]
    rw [hx] at ha
    omega
  · have h1 := mag_ge (r := b) (by omega)
    have h2 := mag_lt a
    have h3 : 2 ^ 1 ≤ 2 ^ (ex b - ex a) := Nat.pow_le_pow_right (by omega) (by omega)
    have h4 : 4503599627370496 * 2 ^ 1 ≤ mag b * 2 ^ (ex b - ex a) := Nat.mul_le_mul h1 h3
    omega

/-- The integer by which words that are numbers are ordered. -/
def key (v : Nat) : Int := if v < 9223372036854775808 then (v : Int) else 9223372036854775808 - (v : Int)

theorem compare_congr {a b c d : Int} (h1 : a < b ↔ c < d) (h2 : a = b ↔ c = d) : compare a b = compare c d := by
  simp only [compare, compareOfLessAndEq]
  by_cases h : a < b
  · rw [if_pos h, if_pos (h1.1 h)]
  · rw [if_neg h, if_neg (fun x => h (h1.2 x))]
    by_cases e : a = b
    · rw [if_pos e, if_pos (h2.1 e)]
    · rw [if_neg e, if_neg (fun x => e (h2.2 x))]

theorem compare_lt {a b : Int} (h : a < b) : compare a b = .lt := by
  simp only [compare, compareOfLessAndEq]
  rw [if_pos h]
theorem compare_gt {a b : Int} (h : b < a) : compare a b = .gt := by
  simp only [compare, compareOfLessAndEq]
  rw [if_neg (by omega), if_neg (by omega)]
theorem compare_eq {a b : Int} (h : a = b) : compare a b = .eq := by
  simp only [compare, compareOfLessAndEq]
  rw [if_neg (by omega), if_pos h]

theorem signed_eq (s : Bool) (m u : Nat) : signed s m u = if s then -((m * 2 ^ u : Nat) : Int) else ((m * 2 ^ u : Nat) : Int) := by
  unfold signed
  rw [Nat.shiftLeft_eq]

theorem key_eq {v : Nat} (h : v < 18446744073709551616) : key v = if sgn v then -(rung v : Int) else (rung v : Int) := by
  unfold key sgn rung
  by_cases hv : v < 9223372036854775808
  · have : v / 9223372036854775808 = 0 := by omega
    simp [hv, this]
    omega
  · have : v / 9223372036854775808 = 1 := by omega
    simp [hv, this]
    omega

theorem order_num {x y : Nat} (hx : x < 18446744073709551616) (hy : y < 18446744073709551616) (nx : rung x ≤ 9218868437227405312) (ny : rung y ≤ 9218868437227405312) :
    double.order x y = some (compare (key x) (key y)) := by
  unfold Format.order
  rw [key_eq hx, key_eq hy]
  rcases Nat.lt_or_eq_of_le nx with fx | fx <;> rcases Nat.lt_or_eq_of_le ny with fy | fy
  · rw [read_fin fx, read_fin fy]
    simp only [Datum.order, Option.some.injEq]
    have e1 : ((-1074 + (ex (rung x) : Int)) - min (-1074 + (ex (rung x) : Int)) (-1074 + (ex (rung y) : Int))).toNat = ex (rung x) - min (ex (rung x)) (ex (rung y)) := by omega
    have e2 : ((-1074 + (ex (rung y) : Int)) - min (-1074 + (ex (rung x) : Int)) (-1074 + (ex (rung y) : Int))).toNat = ex (rung y) - min (ex (rung x)) (ex (rung y)) := by omega
    rw [e1, e2, signed_eq, signed_eq]
    generalize hA : mag (rung x) * 2 ^ (ex (rung x) - min (ex (rung x)) (ex (rung y))) = A
    generalize hB : mag (rung y) * 2 ^ (ex (rung y) - min (ex (rung x)) (ex (rung y))) = B
    have l1 : rung x < rung y → A < B := fun h => by have := scaled_lt h; rw [hA, hB] at this; exact this
    have l2 : rung y < rung x → B < A := fun h => by
      have := scaled_lt h
      rw [Nat.min_comm, hA, hB] at this
      exact this
    have l3 : rung x = rung y → A = B := fun h => by rw [← hA, ← hB, h]
    have z1 : A = 0 ↔ rung x = 0 := by
      rw [← hA, Nat.mul_eq_zero, mag_zero]
      have := Nat.two_pow_pos (ex (rung x) - min (ex (rung x)) (ex (rung y)))
      omega
    have z2 : B = 0 ↔ rung y = 0 := by
      rw [← hB, Nat.mul_eq_zero, mag_zero]
      have := Nat.two_pow_pos (ex (rung y) - min (ex (rung x)) (ex (rung y)))
      omega
    clear hA hB e1 e2
    apply compare_congr
    · cases sgn x <;> cases sgn y <;> simp <;> omega
    · cases sgn x <;> cases sgn y <;> simp <;> omega
  · rw [read_fin fx, read_inf fy, fy]
    simp only [Datum.order, Option.some.injEq]
    cases sgn y
    · refine (compare_lt ?_).symm
      cases sgn x <;> simp <;> omega
    · refine (compare_gt ?_).symm
      cases sgn x <;> simp <;> omega
  · rw [read_inf fx, read_fin fy, fx]
    simp only [Datum.order, Option.some.injEq]
    cases sgn x
    · refine (compare_gt ?_).symm
      cases sgn y <;> simp <;> omega
    · refine (compare_lt ?_).symm
      cases sgn y <;> simp <;> omega
  · rw [read_inf fx, read_inf fy, fx, fy]
    cases sgn x <;> cases sgn y <;> rfl

theorem order_nan_left {x y : Nat} (h : 9218868437227405312 < rung x) : double.order x y = none := by
  obtain ⟨n, hn⟩ := read_nan h
  unfold Format.order
  rw [hn]
  rfl
theorem order_nan_right {x y : Nat} (h : 9218868437227405312 < rung y) : double.order x y = none := by
  obtain ⟨n, hn⟩ := read_nan h
  unfold Format.order
  rw [hn]
  cases double.read x <;> rfl


/-! ### A word, a whole number's word, and back -/
theorem rung_word (s : Bool) {r : Nat} (h : r ≤ 9218868437227405312) : rung (double.word s r) = r := by
  unfold rung Format.word
  rw [signWeight_eq]
  cases s <;> simp <;> omega
theorem sgn_word (s : Bool) {r : Nat} (h : r ≤ 9218868437227405312) : sgn (double.word s r) = s := by
  unfold sgn Format.word
  rw [signWeight_eq]
  cases s
  · have : r / 9223372036854775808 = 0 := by omega
    simp [this]
  · have : (9223372036854775808 + r) / 9223372036854775808 = 1 := by omega
    simp [this]
theorem word_lt (s : Bool) {r : Nat} (h : r ≤ 9218868437227405312) : double.word s r < 18446744073709551616 := by
  unfold Format.word
  rw [signWeight_eq]
  cases s <;> simp <;> omega

/-- Whatever is written nearest to a number is a word of a rung that is no NaN's. -/
theorem nearest_word (s : Bool) (m : Nat) (p : Int) : ∃ r, r ≤ 9218868437227405312 ∧ double.nearest s m p = double.word s r := by
  unfold Format.nearest
  split
  · exact ⟨0, by omega, rfl⟩
  · refine ⟨_, ?_, rfl⟩
    rw [infRung_eq]
    exact Nat.min_le_right _ _

theorem cut_even_zero (s : Bool) (n : Nat) : Toward.even.cut s n 0 = n := by
  unfold Toward.cut
  simp [Nat.mod_one]

theorem log2_bounds {m : Nat} (h0 : 0 < m) : 2 ^ m.log2 ≤ m ∧ m < 2 ^ (m.log2 + 1) :=
  ⟨Nat.log2_self_le (by omega), Nat.lt_log2_self⟩

/-- A whole number below 2^53, shifted up till it fills the fraction. -/
theorem filled {m : Nat} (h0 : 0 < m) (h1 : m < 9007199254740992) : m.log2 ≤ 52 ∧ 4503599627370496 ≤ m * 2 ^ (52 - m.log2) ∧ m * 2 ^ (52 - m.log2) < 9007199254740992 := by
  obtain ⟨a, b⟩ := log2_bounds h0
  have l : m.log2 ≤ 52 := by
    rcases Nat.lt_or_ge 52 m.log2 with h | h
    · have : 2 ^ 53 ≤ 2 ^ m.log2 := Nat.pow_le_pow_right (by omega) (by omega)
      omega
    · exact h
  have e1 : 2 ^ m.log2 * 2 ^ (52 - m.log2) = 4503599627370496 := by
    rw [← Nat.pow_add, show m.log2 + (52 - m.log2) = 52 from by omega]
  have e2 : 2 ^ (m.log2 + 1) * 2 ^ (52 - m.log2) = 9007199254740992 := by
    rw [← Nat.pow_add, show m.log2 + 1 + (52 - m.log2) = 53 from by omega]
  refine ⟨l, ?_, ?_⟩
  · rw [← e1]; exact Nat.mul_le_mul_right _ a
  · rw [← e2]; exact Nat.mul_lt_mul_of_pos_right b (Nat.two_pow_pos _)

theorem nearest_zero (s : Bool) (p : Int) : double.nearest s 0 p = double.word s 0 := by
  unfold Format.nearest
  rw [if_pos rfl]

theorem nearest_whole (s : Bool) {m : Nat} (h0 : 0 < m) (h1 : m < 9007199254740992) :
    double.nearest s m 0 = double.word s ((m.log2 + 1022) * 4503599627370496 + m * 2 ^ (52 - m.log2)) := by
  obtain ⟨l, f1, f2⟩ := filled h0 h1
  unfold Format.nearest
  rw [if_neg (by omega)]
  simp only [leastPlace_eq, binade_eq, infRung_eq]
  have e : max ((0 : Int) + (m.log2 : Int) - ((double.fractionBits : Nat) : Int)) (-1074) = (m.log2 : Int) - 52 := by
    have : double.fractionBits = 52 := rfl
    rw [this]; omega
  rw [e]
  have e1 : ((0 : Int) - ((m.log2 : Int) - 52)).toNat = 52 - m.log2 := by omega
  have e2 : (((m.log2 : Int) - 52) - 0).toNat = 0 := by omega
  have e3 : (((m.log2 : Int) - 52) - (-1074)).toNat = m.log2 + 1022 := by omega
  rw [e1, e2, e3, cut_even_zero, Nat.shiftLeft_eq, Nat.min_eq_left]
  omega

theorem cut_zero (s : Bool) (n d : Nat) : Toward.zero.cut s n d = n / 2 ^ (min d (n.log2 + 2)) := by
  unfold Toward.cut
  simp [Nat.shiftLeft_eq]

/-- To cut a number towards zero at a place: so many twos are divided out. -/
theorem cut_zero_div (s : Bool) (n d : Nat) : Toward.zero.cut s n d = n / 2 ^ d := by
  rw [cut_zero]
  rcases Nat.le_total d (n.log2 + 2) with h | h
  · rw [Nat.min_eq_left h]
  · rw [Nat.min_eq_right h]
    have b : n < 2 ^ (n.log2 + 1) := Nat.lt_log2_self
    have c : 2 ^ (n.log2 + 1) ≤ 2 ^ (n.log2 + 2) := Nat.pow_le_pow_right (by omega) (by omega)
    have c' : 2 ^ (n.log2 + 2) ≤ 2 ^ d := Nat.pow_le_pow_right (by omega) h
    rw [Nat.div_eq_of_lt (by omega), Nat.div_eq_of_lt (by omega)]

/-- What a finite word is, cut towards zero. -/
def whole (v : Nat) : Nat := (mag (rung v) <<< (-1074 + (ex (rung v) : Int)).toNat) / 2 ^ (-(-1074 + (ex (rung v) : Int))).toNat

theorem integral_fin {v : Nat} (h : rung v < 9218868437227405312) : (double.read v).integral .zero = .number (sgn v) (whole v) 0 := by
  rw [read_fin h]
  simp only [Datum.integral]
  rw [cut_zero_div]
  rfl

theorem toInt_fin {v : Nat} (h : rung v < 9218868437227405312) : (double.read v).toInt .zero = some (if sgn v then -(whole v : Int) else (whole v : Int)) := by
  unfold Datum.toInt
  rw [integral_fin h]
  simp only [signed_eq, Nat.pow_zero, Nat.mul_one]

/-- The word of a whole number below 2^53, read and cut, is the number. -/
theorem whole_nearest (s : Bool) {m : Nat} (h1 : m < 9007199254740992) : whole (double.nearest s m 0) = m ∧ rung (double.nearest s m 0) < 9218868437227405312 ∧ sgn (double.nearest s m 0) = s := by
  rcases Nat.eq_zero_or_pos m with rfl | h0
  · rw [nearest_zero, sgn_word s (by omega)]
    unfold whole
    rw [rung_word s (by omega)]
    refine ⟨?_, by omega, rfl⟩
    simp [mag]
  · obtain ⟨l, f1, f2⟩ := filled h0 h1
    rw [nearest_whole s h0 h1]
    have hr : (m.log2 + 1022) * 4503599627370496 + m * 2 ^ (52 - m.log2) < 9218868437227405312 := by omega
    rw [sgn_word s (by omega)]
    unfold whole
    rw [rung_word s (by omega)]
    refine ⟨?_, hr, rfl⟩
    have em : mag ((m.log2 + 1022) * 4503599627370496 + m * 2 ^ (52 - m.log2)) = m * 2 ^ (52 - m.log2) := by
      unfold mag; rw [if_neg (by omega)]; omega
    have ee : ex ((m.log2 + 1022) * 4503599627370496 + m * 2 ^ (52 - m.log2)) = m.log2 + 1022 := by
      unfold ex; omega
    rw [em, ee]
    have e1 : (-1074 + ((m.log2 + 1022 : Nat) : Int)).toNat = 0 := by omega
    have e2 : (-(-1074 + ((m.log2 + 1022 : Nat) : Int))).toNat = 52 - m.log2 := by omega
    rw [e1, e2, Nat.shiftLeft_zero, Nat.mul_div_cancel _ (Nat.two_pow_pos _)]

/-- Up to 2^53 what is cut is at most 2^53. -/
theorem whole_le {v : Nat} (h : rung v ≤ 4845873199050653696) : whole v ≤ 9007199254740992 := by
  have hs := rung_split (rung v)
  have hm := mag_lt (rung v)
  unfold whole
  rcases Nat.lt_or_ge (ex (rung v)) 1075 with h1 | h1
  · have e1 : (-1074 + (ex (rung v) : Int)).toNat = 0 := by omega
    rw [e1, Nat.shiftLeft_zero]
    exact Nat.le_trans (Nat.div_le_self _ _) (by omega)
  · have hg := mag_ge (r := rung v) (by omega)
    have e : ex (rung v) = 1075 := by omega
    rw [e] at hs ⊢
    have e1 : (-1074 + ((1075 : Nat) : Int)).toNat = 1 := by omega
    have e2 : (-(-1074 + ((1075 : Nat) : Int))).toNat = 0 := by omega
    rw [e1, e2, Nat.shiftLeft_eq]
    simp
    omega

end Go.Proofs.Ytmmfadakhnagpaa.Flt
