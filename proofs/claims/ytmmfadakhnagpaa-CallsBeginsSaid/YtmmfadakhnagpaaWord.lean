
/-
  Plain laws of layer 1 (no program in sight): what is right, canon, class, sign, order of words; as numbers; and that the words' bits come to that.
-/
import Derived.Laws.BitsAllLaws
import Derived.Laws.Unary
import Derived.Laws.FloatArith
import Derived.Test.YtmmfadakhnagpaaFlt
namespace Go.Proofs.Ytmmfadakhnagpaa
open Go.RowKit

/-- A word of 64 bits. -/
def W64 (v : Int) : Prop := 0 ≤ v ∧ v < 18446744073709551616
def low (v : Int) : Int := v % 9223372036854775808
def rightB (v : Int) : Bool := decide (low v ≤ 9218868437227405312) || (v == 9221120237041090560)
def canon (v : Int) : Int := if rightB v = true then v else 9221120237041090560
def classOf (v : Int) : Int := if low (canon v) = 0 then 0 else if low (canon v) < 9218868437227405312 then 1 else if low (canon v) = 9218868437227405312 then 2 else 3
def negB (v : Int) : Bool := decide (9223372036854775808 ≤ canon v)
def rankV (v : Int) : Int := if 9223372036854775808 ≤ canon v then 18446744073709551615 - canon v else canon v + 9223372036854775808
def lessB (a b : Int) : Bool := decide (rankV a < rankV b)
def flip (c : Int) : Int := if c < 9223372036854775808 then c + 9223372036854775808 else c - 9223372036854775808
def negV (v : Int) : Int := if canon v = 9221120237041090560 then 9221120237041090560 else flip (canon v)
def absV (v : Int) : Int := low (canon v)
def minV (a b : Int) : Int := if lessB b a = true then canon b else canon a
def maxV (a b : Int) : Int := if lessB a b = true then canon b else canon a
def equalB (a b : Int) : Bool := decide (canon a ≠ 9221120237041090560 ∧ canon b ≠ 9221120237041090560 ∧ (canon a = canon b ∨ (low (canon a) = 0 ∧ low (canon b) = 0)))
def sameB (a b : Int) : Bool := canon a == canon b
def truthB (v : Int) : Bool := classOf v == 1 || classOf v == 2

theorem canon_w64 {v : Int} (h : W64 v) : W64 (canon v) := by
  unfold canon; split
  · exact h
  · exact ⟨by decide, by decide⟩
theorem canon_right {v : Int} : rightB (canon v) = true := by
  unfold canon; split
  · assumption
  · decide
theorem canon_of_right {v : Int} (h : rightB v = true) : canon v = v := by unfold canon; rw [if_pos h]
theorem canon_canon (v : Int) : canon (canon v) = canon v := canon_of_right canon_right
theorem canon_nan : canon 9221120237041090560 = 9221120237041090560 := by decide
/-- What is right: low enough, or what is no number. -/
theorem canon_cases {v : Int} (h : W64 v) : (canon v = 9221120237041090560) ∨ (low (canon v) ≤ 9218868437227405312 ∧ W64 (canon v) ∧ canon v = v) := by
  unfold canon rightB
  by_cases h1 : low v ≤ 9218868437227405312
  · right; simp [h1, h]
  · by_cases h2 : v = 9221120237041090560
    · left; simp [h2]
    · left; simp [h1, h2]

theorem andNot_top {v : Int} (h : W64 v) : bits .andNot .u64 v 9223372036854775808 = low v := by
  rw [u64_andNot v _ h.1 h.2 (by decide) (by decide)]
  have e : (18446744073709551615 - (9223372036854775808 : Int).toNat) = 2 ^ 63 - 1 := by decide
  rw [e, Nat.and_two_pow_sub_one_eq_mod]
  obtain ⟨h0, _⟩ := h
  unfold low
  omega
theorem and_top {v : Int} (h : W64 v) : bits .and .u64 v 9223372036854775808 = if 9223372036854775808 ≤ v then 9223372036854775808 else 0 := by
  rw [u64_and v _ h.1 h.2 (by decide) (by decide)]
  have e : (9223372036854775808 : Int).toNat = 2 ^ 63 := by decide
  rw [e, nat_bit]
  obtain ⟨h0, h1⟩ := h
  split <;> omega
theorem or_top {v : Int} (h : W64 v) : bits .or .u64 v 9223372036854775808 = low v + 9223372036854775808 := by
  rw [u64_or v _ h.1 h.2 (by decide) (by decide)]
  have e : (9223372036854775808 : Int).toNat = 2 ^ 63 := by decide
  rw [e]
  obtain ⟨h0, h1⟩ := h
  have hx : v.toNat ||| 2 ^ 63 = v.toNat % 2 ^ 63 + 2 ^ 63 := by
    have a1 : v.toNat = 2 ^ 63 * (v.toNat / 2 ^ 63) + v.toNat % 2 ^ 63 := (Nat.div_add_mod _ _).symm
    have b1 : v.toNat / 2 ^ 63 = 0 ∨ v.toNat / 2 ^ 63 = 1 := by omega
    have j : ∀ x y : Nat, y < 2 ^ 63 → x % 2 ^ 63 = 0 → x ||| y = x + y := fun x y hy hx => nat_join 63 x y hx hy
    have m : v.toNat % 2 ^ 63 < 2 ^ 63 := Nat.mod_lt _ (by decide)
    rcases b1 with b1 | b1
    · rw [b1] at a1
      have c : v.toNat < 2 ^ 63 := by omega
      rw [Nat.or_comm, j (2 ^ 63) v.toNat c (by decide), Nat.mod_eq_of_lt c, Nat.add_comm]
    · have c : v.toNat = 2 ^ 63 + v.toNat % 2 ^ 63 := by omega
      rw [← j (2 ^ 63) _ m (by decide)] at c
      rw [Nat.or_comm]
      rw (config := { occs := .pos [1] }) [c]
      rw [← Nat.or_assoc, Nat.or_self, j _ _ m (by decide), Nat.add_comm]
  rw [hx]
  unfold low
  omega
theorem xor_top {v : Int} (h : W64 v) : bits .xor .u64 v 9223372036854775808 = flip v := by
  rw [u64_xor v _ h.1 h.2 (by decide) (by decide)]
  have e : (9223372036854775808 : Int).toNat = 2 ^ 63 := by decide
  rw [e]
  obtain ⟨h0, h1⟩ := h
  unfold flip
  have key : ∀ y : Nat, y < 2 ^ 63 → y ^^^ 2 ^ 63 = y + 2 ^ 63 := by
    intro y hy
    have := nat_join 63 (2 ^ 63) y (by decide) hy
    have d : (2 ^ 63 : Nat) ^^^ y = 2 ^ 63 ||| y := by
      apply Nat.eq_of_testBit_eq
      intro i
      rw [Nat.testBit_xor, Nat.testBit_or, Nat.testBit_two_pow]
      by_cases hi : 63 = i
      · subst hi
        rw [Nat.testBit_lt_two_pow hy]
        simp
      · simp [hi]
    rw [Nat.xor_comm, d, this, Nat.add_comm]
  split
  · have c : v.toNat < 2 ^ 63 := by omega
    rw [key _ c]
    omega
  · have c : v.toNat - 2 ^ 63 < 2 ^ 63 := by omega
    have k := key _ c
    have e2 : v.toNat = (v.toNat - 2 ^ 63) ^^^ 2 ^ 63 := by rw [k]; omega
    rw [e2, Nat.xor_assoc, Nat.xor_self, Nat.xor_zero]
    omega

theorem not_all {v : Int} (h : W64 v) : bits .xor .u64 18446744073709551615 v = 18446744073709551615 - v := by
  rw [u64_xor _ v (by decide) (by decide) h.1 h.2]
  obtain ⟨h0, h1⟩ := h
  have e : (18446744073709551615 : Int).toNat = 2 ^ 64 - 1 := by decide
  rw [e]
  have hx : (2 ^ 64 - 1) ^^^ v.toNat = 2 ^ 64 - 1 - v.toNat := by
    have c : v.toNat < 2 ^ 64 := by omega
    have d : (BitVec.allOnes 64 ^^^ BitVec.ofNat 64 v.toNat).toNat = 2 ^ 64 - 1 - v.toNat := by
      rw [BitVec.allOnes_xor, BitVec.toNat_not, BitVec.toNat_ofNat, Nat.mod_eq_of_lt c]
    rw [BitVec.toNat_xor, BitVec.toNat_allOnes, BitVec.toNat_ofNat, Nat.mod_eq_of_lt c] at d
    exact d
  rw [hx]
  omega

/-! ### As numbers -/
/-- The integer by which words that are numbers are ordered. -/
def keyI (v : Int) : Int := if v < 9223372036854775808 then v else 9223372036854775808 - v
def isNum (v : Int) : Prop := low v ≤ 9218868437227405312
instance (v : Int) : Decidable (isNum v) := inferInstanceAs (Decidable (low v ≤ 9218868437227405312))

theorem key_toNat {v : Int} (h : W64 v) : Flt.key v.toNat = keyI v := by
  obtain ⟨h0, h1⟩ := h
  unfold Flt.key keyI
  split <;> split <;> omega
theorem rung_toNat {v : Int} (h : W64 v) : (Flt.rung v.toNat : Int) = low v := by
  obtain ⟨h0, h1⟩ := h
  unfold Flt.rung low
  omega
theorem order_num {a b : Int} (ha : W64 a) (hb : W64 b) (na : isNum a) (nb : isNum b) :
    FloatKind.f64.format.order a.toNat b.toNat = some (compare (keyI a) (keyI b)) := by
  have e1 := rung_toNat ha
  have e2 := rung_toNat hb
  unfold isNum at na nb
  rw [← key_toNat ha, ← key_toNat hb]
  obtain ⟨ha0, ha1⟩ := ha
  obtain ⟨hb0, hb1⟩ := hb
  exact Flt.order_num (by omega) (by omega) (by omega) (by omega)
theorem order_left {a b : Int} (ha : W64 a) (na : ¬ isNum a) : FloatKind.f64.format.order a.toNat b.toNat = none := by
  have e1 := rung_toNat ha
  unfold isNum at na
  exact Flt.order_nan_left (by omega)
theorem order_right {a b : Int} (hb : W64 b) (nb : ¬ isNum b) : FloatKind.f64.format.order a.toNat b.toNat = none := by
  have e1 := rung_toNat hb
  unfold isNum at nb
  exact Flt.order_nan_right (by omega)
theorem nan_w64 : W64 9221120237041090560 := ⟨by decide, by decide⟩
theorem nan_not : ¬ isNum 9221120237041090560 := by decide
theorem order_self {v : Int} (h : W64 v) : (FloatKind.f64.format.order v.toNat v.toNat == some .eq) = decide (isNum v) := by
  by_cases n : isNum v
  · rw [order_num h h n n, Flt.compare_eq rfl]; simp [n]
  · rw [order_left h n]; simp [n]
theorem num_ne_nan {v : Int} (n : isNum v) : v ≠ 9221120237041090560 := by rintro rfl; exact nan_not n
/-- A word is NaN, or a number that counts as itself. -/
theorem canon_two {v : Int} (h : W64 v) : (canon v = 9221120237041090560) ∨ (isNum (canon v) ∧ W64 (canon v) ∧ canon v = v) := by
  rcases canon_cases h with c | c
  · exact .inl c
  · exact .inr ⟨c.1, c.2.1, c.2.2⟩
/-- Less as numbers, -0 ahead of 0, NaN last, is the order by rank. -/
theorem lessB_eq {a b : Int} (ha : W64 a) (hb : W64 b) : lessB a b =
    if canon a = 9221120237041090560 then false else if canon b = 9221120237041090560 then true else if canon a = 9223372036854775808 ∧ canon b = 0 then true
    else (FloatKind.f64.format.order (canon a).toNat (canon b).toNat == some .lt) := by
  unfold lessB rankV
  rcases canon_two ha with ca | ⟨na, wa, _⟩ <;> rcases canon_two hb with cb | ⟨nb, wb, _⟩
  · rw [ca, cb]; decide
  · rw [if_pos ca, ca]
    unfold isNum low at nb
    obtain ⟨w0, w1⟩ := wb
    simp only [decide_eq_false_iff_not]
    split <;> split <;> omega
  · rw [if_neg (num_ne_nan na), if_pos cb, cb]
    unfold isNum low at na
    obtain ⟨w0, w1⟩ := wa
    simp only [decide_eq_true_eq]
    split <;> split <;> omega
  · rw [if_neg (num_ne_nan na), if_neg (num_ne_nan nb), order_num wa wb na nb]
    unfold isNum low at na nb
    obtain ⟨v0, v1⟩ := wa
    obtain ⟨w0, w1⟩ := wb
    generalize canon a = x at *
    generalize canon b = y at *
    by_cases hz : x = 9223372036854775808 ∧ y = 0
    · rw [if_pos hz, hz.1, hz.2]; decide
    · rw [if_neg hz]
      unfold keyI
      rcases Int.lt_trichotomy (if x < 9223372036854775808 then x else 9223372036854775808 - x) (if y < 9223372036854775808 then y else 9223372036854775808 - y) with h | h | h
      · rw [Flt.compare_lt h]
        simp only [beq_self_eq_true, decide_eq_true_eq]
        split at h <;> split at h <;> split <;> split <;> omega
      · rw [Flt.compare_eq h]
        have : ((some Ordering.eq : Option Ordering) == some Ordering.lt) = false := rfl
        rw [this]
        simp only [decide_eq_false_iff_not]
        split at h <;> split at h <;> split <;> split <;> omega
      · rw [Flt.compare_gt h]
        have : ((some Ordering.gt : Option Ordering) == some Ordering.lt) = false := rfl
        rw [this]
        simp only [decide_eq_false_iff_not]
        split at h <;> split at h <;> split <;> split <;> omega

/-! ### The class, as the walks spell it -/
def clsW (x : Int) : Int := bif x == 0 then 0 else bif decide (x < 9218868437227405312) then 1 else bif x == 9218868437227405312 then 2 else 3
theorem classOf_w (v : Int) : classOf v = clsW (low (canon v)) := by
  unfold classOf clsW
  generalize low (canon v) = x
  by_cases h0 : x = 0
  · simp [h0]
  · by_cases h1 : x < 9218868437227405312
    · rw [if_neg h0, if_pos h1, beq_eq_false_iff_ne.2 h0, decide_eq_true h1]; rfl
    · by_cases h2 : x = 9218868437227405312
      · rw [if_neg h0, if_neg h1, if_pos h2, beq_eq_false_iff_ne.2 h0, decide_eq_false h1, beq_iff_eq.2 h2]; rfl
      · rw [if_neg h0, if_neg h1, if_neg h2, beq_eq_false_iff_ne.2 h0, decide_eq_false h1, beq_eq_false_iff_ne.2 h2]; rfl
def clsF (x : Nat) : Int := bif FloatKind.f64.format.order x x == some .eq then
    (bif FloatKind.f64.format.order x 0 == some .eq then 0 else bif (FloatKind.f64.format.order x 9218868437227405311 == some .gt) || (FloatKind.f64.format.order x 18442240474082181119 == some .lt) then 2 else 1) else 3
theorem ord_eq (a b : Int) : ((some (compare a b) : Option Ordering) == some .eq) = decide (a = b) := by
  rcases Int.lt_trichotomy a b with h | h | h
  · rw [Flt.compare_lt h]; simp; omega
  · rw [Flt.compare_eq h]; simp [h]
  · rw [Flt.compare_gt h]; simp; omega
theorem ord_lt (a b : Int) : ((some (compare a b) : Option Ordering) == some .lt) = decide (a < b) := by
  rcases Int.lt_trichotomy a b with h | h | h
  · rw [Flt.compare_lt h]; simp; omega
  · rw [Flt.compare_eq h]; simp [h]
  · rw [Flt.compare_gt h]; simp; omega
theorem ord_gt (a b : Int) : ((some (compare a b) : Option Ordering) == some .gt) = decide (b < a) := by
  rcases Int.lt_trichotomy a b with h | h | h
  · rw [Flt.compare_lt h]; simp; omega
  · rw [Flt.compare_eq h]; simp [h]
  · rw [Flt.compare_gt h]; simp; omega
theorem order_lit {a : Int} (b : Nat) (ha : W64 a) (hb : W64 (b : Int)) (na : isNum a) (nb : isNum (b : Int)) :
    FloatKind.f64.format.order a.toNat b = some (compare (keyI a) (keyI (b : Int))) := by
  have := order_num ha hb na nb
  rwa [Int.toNat_natCast] at this
theorem classOf_f {v : Int} (hv : W64 v) : classOf v = clsF (canon v).toNat := by
  unfold clsF
  rw [order_self (canon_w64 hv)]
  rcases canon_two hv with c | ⟨n, w, _⟩
  · unfold classOf
    rw [c, decide_eq_false nan_not]
    decide
  · rw [decide_eq_true n, cond_true, order_lit 0 w ⟨by decide, by decide⟩ n (by decide), order_lit 9218868437227405311 w ⟨by decide, by decide⟩ n (by decide), order_lit 18442240474082181119 w ⟨by decide, by decide⟩ n (by decide), ord_eq, ord_gt, ord_lt]
    unfold classOf
    obtain ⟨w0, w1⟩ := w
    unfold isNum at n
    unfold low at n ⊢
    unfold keyI
    generalize canon v = x at *
    have k0 : (if ((0 : Nat) : Int) < 9223372036854775808 then ((0 : Nat) : Int) else 9223372036854775808 - ((0 : Nat) : Int)) = 0 := by omega
    have k1 : (if ((9218868437227405311 : Nat) : Int) < 9223372036854775808 then ((9218868437227405311 : Nat) : Int) else 9223372036854775808 - ((9218868437227405311 : Nat) : Int)) = 9218868437227405311 := by omega
    have k2 : (if ((18442240474082181119 : Nat) : Int) < 9223372036854775808 then ((18442240474082181119 : Nat) : Int) else 9223372036854775808 - ((18442240474082181119 : Nat) : Int)) = -9218868437227405311 := by omega
    rw [k0, k1, k2]
    by_cases h0 : (if x < 9223372036854775808 then x else 9223372036854775808 - x) = 0
    · rw [decide_eq_true h0, cond_true, if_pos (by split at h0 <;> omega)]
    · rw [decide_eq_false h0, cond_false, if_neg (by split at h0 <;> omega)]
      by_cases h1 : 9218868437227405311 < (if x < 9223372036854775808 then x else 9223372036854775808 - x)
      · rw [decide_eq_true h1, Bool.true_or, cond_true, if_neg (by split at h1 <;> omega), if_pos (by split at h1 <;> omega)]
      · rw [decide_eq_false h1, Bool.false_or]
        by_cases h2 : (if x < 9223372036854775808 then x else 9223372036854775808 - x) < -9218868437227405311
        · rw [decide_eq_true h2, cond_true, if_neg (by split at h2 <;> omega), if_pos (by split at h2 <;> omega)]
        · rw [decide_eq_false h2, cond_false, if_pos (by split at h1 <;> split at h2 <;> omega)]

/-! ### The others, as the walks spell them -/
theorem negB_w {v : Int} (h : W64 v) : (bits .and .u64 (canon v) 9223372036854775808 != 0) = negB v := by
  rw [and_top (canon_w64 h)]
  unfold negB
  split
  · rw [decide_eq_true (by assumption)]; rfl
  · rw [decide_eq_false (by assumption)]; rfl
theorem negB_f {v : Int} (h : W64 v) : (classOf v != 3 && decide (9223372036854775808 ≤ v)) = negB v := by
  unfold negB
  rcases canon_two h with c | ⟨n, w, e⟩
  · have : classOf v = 3 := by unfold classOf; rw [c]; decide
    rw [this, c, show ((3 : Int) != 3) = false from rfl, Bool.false_and]; rfl
  · rw [e] at n ⊢
    have : (classOf v != 3) = true := by
      unfold isNum at n
      unfold classOf
      rw [e]
      have k : ∀ x : Int, x ≤ 9218868437227405312 → ((if x = 0 then 0 else if x < 9218868437227405312 then 1 else if x = 9218868437227405312 then 2 else (3 : Int)) != 3) = true := by
        intro x hx
        rw [bne_iff_ne]
        split
        · decide
        · split
          · decide
          · rw [if_pos (by omega)]; decide
      exact k _ n
    rw [this, Bool.true_and]
theorem class_nan {v : Int} (h : W64 v) : (classOf v == 3) = (canon v == 9221120237041090560) := by
  rcases canon_two h with c | ⟨n, w, e⟩
  · have : classOf v = 3 := by unfold classOf; rw [c]; decide
    rw [this, c]; decide
  · have hn := num_ne_nan n
    rw [beq_eq_false_iff_ne.2 hn, beq_eq_false_iff_ne]
    unfold isNum at n
    unfold classOf
    split
    · decide
    · split
      · decide
      · rw [if_pos (by omega)]; decide
/-- -v by the reference: the sign's weight off, or on. -/
theorem negV_f {v : Int} (h : W64 v) : negV v = bif canon v == 9221120237041090560 then 9221120237041090560 else bif negB v then (v - 9223372036854775808) % 18446744073709551616 else (v + 9223372036854775808) % 18446744073709551616 := by
  unfold negV
  rcases canon_two h with c | ⟨n, w, e⟩
  · rw [if_pos c, c]; rfl
  · rw [if_neg (num_ne_nan n), beq_eq_false_iff_ne.2 (num_ne_nan n), cond_false]
    unfold negB flip
    rw [e]
    obtain ⟨h0, h1⟩ := h
    by_cases hv : v < 9223372036854775808
    · rw [if_pos hv, decide_eq_false (by omega), cond_false]; omega
    · rw [if_neg hv, decide_eq_true (by omega), cond_true]; omega
theorem negV_w (v : Int) (h : W64 v) : negV v = bif canon v == 9221120237041090560 then canon v else bits .xor .u64 (canon v) 9223372036854775808 := by
  rw [xor_top (canon_w64 h)]
  unfold negV
  by_cases c : canon v = 9221120237041090560
  · rw [if_pos c, c]; rfl
  · rw [if_neg c, beq_eq_false_iff_ne.2 c, cond_false]
theorem flip_w64 {c : Int} (h : W64 c) : W64 (flip c) := by
  obtain ⟨a, b⟩ := h
  unfold flip
  split <;> exact ⟨by omega, by omega⟩
theorem negV_w64 {v : Int} (h : W64 v) : W64 (negV v) := by
  unfold negV; split
  · exact nan_w64
  · exact flip_w64 (canon_w64 h)
theorem absV_f {v : Int} (h : W64 v) : absV v = bif negB v then negV v else canon v := by
  unfold absV negB negV flip
  obtain ⟨a, b⟩ := canon_w64 h
  by_cases hn : 9223372036854775808 ≤ canon v
  · rw [decide_eq_true hn, cond_true, if_neg (by omega), if_neg (by omega)]
    unfold low; omega
  · rw [decide_eq_false hn, cond_false]
    unfold low; omega
theorem rankV_w {v : Int} (h : W64 v) : rankV v = bif negB v then bits .xor .u64 18446744073709551615 (canon v) else bits .or .u64 (canon v) 9223372036854775808 := by
  rw [not_all (canon_w64 h), or_top (canon_w64 h)]
  unfold rankV negB
  obtain ⟨a, b⟩ := canon_w64 h
  by_cases hn : 9223372036854775808 ≤ canon v
  · rw [if_pos hn, decide_eq_true hn, cond_true]
  · rw [if_neg hn, decide_eq_false hn, cond_false]
    unfold low; omega
theorem lessB_f {a b : Int} (ha : W64 a) (hb : W64 b) : lessB a b = bif canon a == 9221120237041090560 then false else bif canon b == 9221120237041090560 then true else
    bif (canon a == 9223372036854775808) && (canon b == 0) then true else (FloatKind.f64.format.order (canon a).toNat (canon b).toNat == some .lt) := by
  rw [lessB_eq ha hb]
  by_cases h1 : canon a = 9221120237041090560
  · rw [if_pos h1, h1]; rfl
  · rw [if_neg h1, beq_eq_false_iff_ne.2 h1, cond_false]
    by_cases h2 : canon b = 9221120237041090560
    · rw [if_pos h2, h2]; rfl
    · rw [if_neg h2, beq_eq_false_iff_ne.2 h2, cond_false]
      by_cases h3 : canon a = 9223372036854775808
      · by_cases h4 : canon b = 0
        · rw [if_pos ⟨h3, h4⟩, h3, h4]; rfl
        · rw [if_neg (fun x => h4 x.2), beq_eq_false_iff_ne.2 h4, Bool.and_false, cond_false]
      · rw [if_neg (fun x => h3 x.1), beq_eq_false_iff_ne.2 h3, Bool.false_and, cond_false]
theorem equalB_f {a b : Int} (ha : W64 a) (hb : W64 b) : (FloatKind.f64.format.order (canon a).toNat (canon b).toNat == some .eq) = equalB a b := by
  unfold equalB
  rcases canon_two ha with ca | ⟨na, wa, _⟩
  · rw [ca, order_left nan_w64 nan_not]; simp
  · rcases canon_two hb with cb | ⟨nb, wb, _⟩
    · rw [cb, order_right nan_w64 nan_not]; simp
    · have n1 := num_ne_nan na
      have n2 := num_ne_nan nb
      rw [order_num wa wb na nb, ord_eq, decide_eq_decide]
      unfold isNum at na nb
      unfold low at na nb ⊢
      unfold keyI
      obtain ⟨v0, v1⟩ := wa
      obtain ⟨w0, w1⟩ := wb
      generalize canon a = x at *
      generalize canon b = y at *
      constructor
      · intro h
        refine ⟨n1, n2, ?_⟩
        split at h <;> split at h <;> omega
      · rintro ⟨_, _, h⟩
        split <;> split <;> omega
/-- The lower bits of a or b are none just where both have none. -/
theorem or_low {a b : Int} (ha : W64 a) (hb : W64 b) : W64 (bits .or .u64 a b) ∧ (low (bits .or .u64 a b) = 0 ↔ low a = 0 ∧ low b = 0) := by
  rw [u64_or a b ha.1 ha.2 hb.1 hb.2]
  obtain ⟨a0, a1⟩ := ha
  obtain ⟨b0, b1⟩ := hb
  have ca : a.toNat < 2 ^ 64 := by omega
  have cb : b.toNat < 2 ^ 64 := by omega
  have c := Nat.or_lt_two_pow ca cb
  refine ⟨⟨by omega, by omega⟩, ?_⟩
  have hm : (a.toNat ||| b.toNat) % 2 ^ 63 = (a.toNat % 2 ^ 63) ||| (b.toNat % 2 ^ 63) := Nat.or_mod_two_pow
  have hz : ∀ x y : Nat, (x ||| y = 0 ↔ x = 0 ∧ y = 0) := by
    intro x y
    constructor
    · intro h
      have h1 := Nat.left_le_or (n := x) (m := y)
      have h2 := Nat.right_le_or (n := x) (m := y)
      omega
    · rintro ⟨rfl, rfl⟩; rfl
  have := hz (a.toNat % 2 ^ 63) (b.toNat % 2 ^ 63)
  rw [← hm] at this
  unfold low
  omega
theorem equalB_w {a b : Int} (ha : W64 a) (hb : W64 b) : equalB a b = bif (canon a == 9221120237041090560) || (canon b == 9221120237041090560) then false else
    (canon a == canon b) || (bits .andNot .u64 (bits .or .u64 (canon a) (canon b)) 9223372036854775808 == 0) := by
  have wa := canon_w64 ha
  have wb := canon_w64 hb
  obtain ⟨wo, ho⟩ := or_low wa wb
  rw [andNot_top wo]
  unfold equalB
  by_cases h1 : canon a = 9221120237041090560
  · rw [h1]; simp
  · by_cases h2 : canon b = 9221120237041090560
    · rw [h2]; simp
    · rw [beq_eq_false_iff_ne.2 h1, beq_eq_false_iff_ne.2 h2, Bool.or_self, cond_false]
      rw [Bool.eq_iff_iff]
      simp only [decide_eq_true_eq, Bool.or_eq_true, beq_iff_eq, ho]
      exact ⟨fun x => x.2.2, fun x => ⟨h1, h2, x⟩⟩

end Go.Proofs.Ytmmfadakhnagpaa
