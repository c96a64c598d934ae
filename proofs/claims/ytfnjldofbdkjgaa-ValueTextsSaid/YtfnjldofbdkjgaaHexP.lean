/-
  Digits of a word, plainly.
-/
import Derived.Test.YtfnjldofbdkjgaaPar2
import Derived.Laws.BytesArg
namespace Go.Proofs.Ytfnjldofbdkjgaa
open Go.RowKit
set_option linter.unusedSimpArgs false

def hexDigit (d : Nat) : UInt8 := if d < 10 then UInt8.ofNat (48 + d) else UInt8.ofNat (87 + d)
/-- The last k digits. -/
def hexTail (v : Nat) : Nat → List UInt8
  | 0 => []
  | k + 1 => hexDigit (v / 16 ^ k % 16) :: hexTail v k
def hexStr (v : Int) : ByteArray := ⟨(hexTail (canon v).toNat 16).toArray⟩
theorem hexTail_len (v k : Nat) : (hexTail v k).length = k := by induction k with
  | zero => rfl
  | succ k ih => simp [hexTail, ih]
theorem hexTail_get (v : Nat) : ∀ n k, k < n → (hexTail v n)[k]? = some (hexDigit (v / 16 ^ (n - 1 - k) % 16)) := by
  intro n
  induction n with
  | zero => intro k h; omega
  | succ n ih =>
    intro k h
    cases k with
    | zero => simp [hexTail]
    | succ k =>
      simp only [hexTail, List.getElem?_cons_succ]
      rw [ih k (by omega)]
      have e : n + 1 - 1 - (k + 1) = n - 1 - k := by omega
      rw [e]
theorem hexDigit_dig : ∀ d : Fin 16, digB ((hexDigit d.val).toNat : Int) = true ∧ digV ((hexDigit d.val).toNat : Int) = (d.val : Int) := by decide
theorem hexDigit_digB {d : Nat} (h : d < 16) : digB ((hexDigit d).toNat : Int) = true ∧ digV ((hexDigit d).toNat : Int) = (d : Int) := hexDigit_dig ⟨d, h⟩
/-- What the digits of a word say is the word. -/
theorem accum_hexTail (v : Nat) : ∀ k x, accum (hexTail v k) x = some (x * 16 ^ k + ((v % 16 ^ k : Nat) : Int)) := by
  intro k
  induction k with
  | zero => intro x; simp [hexTail, accum, Nat.mod_one]
  | succ k ih =>
    intro x
    obtain ⟨h1, h2⟩ := hexDigit_digB (d := v / 16 ^ k % 16) (Nat.mod_lt _ (by decide))
    simp only [hexTail, accum, h1, h2, cond_true]
    rw [ih]
    congr 1
    have e : v % 16 ^ (k + 1) = v / 16 ^ k % 16 * 16 ^ k + v % 16 ^ k := by
      rw [Nat.pow_succ, Nat.mod_mul, Nat.add_comm, Nat.mul_comm]
    rw [e, Int.pow_succ]
    push_cast
    rw [Int.add_mul, Int.mul_assoc, Int.mul_comm 16 ((16 : Int) ^ k)]
    omega
theorem parse_hex {v : Int} (h : W64 v) : parseV (hexStr v).data.toList = some (canon v) := by
  obtain ⟨a, b⟩ := canon_w64 h
  unfold parseV hexStr
  change (if (hexTail (canon v).toNat 16).length = 16 then (accum (hexTail (canon v).toNat 16) 0).bind _ else none) = _
  rw [if_pos (hexTail_len _ _), accum_hexTail]
  simp only [Option.bind_some]
  have e : (0 : Int) * 16 ^ 16 + (((canon v).toNat % 16 ^ 16 : Nat) : Int) = canon v := by
    have : (canon v).toNat < 16 ^ 16 := by
      have : (16 : Nat) ^ 16 = 18446744073709551616 := by decide
      omega
    rw [Nat.mod_eq_of_lt this]
    omega
  rw [e, canon_right]
  rfl

/-! ### The search for a digit -/
theorem find_table : ∀ c : Fin 256, (digB (c.val : Int) = true ∧ (digV (c.val : Int)).toNat < 16 ∧ ((hexDigit (digV (c.val : Int)).toNat).toNat = c.val) ∧ ∀ j : Fin 16, j.val < (digV (c.val : Int)).toNat → (hexDigit j.val).toNat ≠ c.val) ∨ (digB (c.val : Int) = false ∧ ∀ j : Fin 16, (hexDigit j.val).toNat ≠ c.val) := by decide +kernel

theorem and15 {x : Int} (h : W64 x) : bits .and .u64 x 15 = x % 16 := by
  rw [u64_and x 15 h.1 h.2 (by decide) (by decide)]
  have : (15 : Int).toNat = 15 := rfl
  rw [this, nat_mask4]
  obtain ⟨a, b⟩ := h
  omega
theorem shr_w64 {v : Int} (h : W64 v) (n : Nat) : W64 (v / 2 ^ n) := by
  obtain ⟨a, b⟩ := h
  have p : (0 : Int) < 2 ^ n := Int.pow_pos (by omega)
  exact ⟨Int.ediv_nonneg a (by omega), Int.lt_of_le_of_lt (Int.ediv_le_self _ a) b⟩
/-- The k-th digit from the highest on. -/
theorem digit_at {v : Int} (h : W64 v) (k : Nat) (hk : k < 16) : bits .and .u64 (v / 2 ^ (60 - 4 * k)) 15 = ((v.toNat / 16 ^ (16 - 1 - k) % 16 : Nat) : Int) := by
  rw [and15 (shr_w64 h _)]
  have e : (2 : Nat) ^ (60 - 4 * k) = 16 ^ (16 - 1 - k) := by
    have : 60 - 4 * k = 4 * (16 - 1 - k) := by omega
    rw [this, Nat.pow_mul]
  obtain ⟨a, b⟩ := h
  obtain ⟨n, rfl⟩ := Int.eq_ofNat_of_zero_le a
  rw [Int.toNat_natCast, ← e]
  push_cast
  rfl
def digitsText : ByteArray := ⟨#[48, 49, 50, 51, 52, 53, 54, 55, 56, 57, 97, 98, 99, 100, 101, 102]⟩
theorem digitsText_at : ∀ d : Fin 16, digitsText[d.val]'(by have := d.isLt; exact this) = hexDigit d.val := by decide

theorem digits_get (x : Int) (d : Nat) (hd : d < 16) (hx : x = (d : Int)) (p : x.toNat < (⟨#[48, 49, 50, 51, 52, 53, 54, 55, 56, 57, 97, 98, 99, 100, 101, 102]⟩ : ByteArray).size) :
    (⟨#[48, 49, 50, 51, 52, 53, 54, 55, 56, 57, 97, 98, 99, 100, 101, 102]⟩ : ByteArray)[x.toNat]'p = hexDigit d := by
  subst hx
  exact digitsText_at ⟨d, hd⟩
theorem hexTail_getD (v k : Nat) (h : k < 16) : (hexTail v 16).getD k 0 = hexDigit (v / 16 ^ (16 - 1 - k) % 16) := by
  rw [List.getD_eq_getElem?_getD, hexTail_get v 16 k h]
  rfl
theorem str_of (v : Int) : strOfNums ((hexTail (canon v).toNat 16).map fun c => (c.toNat : Int)) = hexStr v := by
  unfold strOfNums hexStr
  congr 2
  rw [List.map_map]
  have : ∀ l : List UInt8, l.map ((fun n : Int => UInt8.ofNat n.toNat) ∘ fun c => (c.toNat : Int)) = l := by
    intro l
    induction l with
    | nil => rfl
    | cons c l ih => simp only [List.map_cons, ih, Function.comp, Int.toNat_natCast]; congr 1; exact UInt8.ofNat_toNat
  exact this _

theorem extract_dig : ∀ d : Fin 16, ((⟨#[48, 49, 50, 51, 52, 53, 54, 55, 56, 57, 97, 98, 99, 100, 101, 102]⟩ : ByteArray).extract d.val (d.val + 1)).data.toList = [hexDigit d.val] := by decide
theorem step_back (X : Int) (n k : Nat) (hX : X = ((n / 16 ^ k : Nat) : Int)) : X / 16 = ((n / 16 ^ (k + 1) : Nat) : Int) := by
  rw [hX, Nat.pow_succ, ← Nat.div_div_eq_div_mul]
  rfl
theorem step_text (X : Int) (n k : Nat) (hX : X = ((n / 16 ^ k : Nat) : Int)) :
    (⟨#[48, 49, 50, 51, 52, 53, 54, 55, 56, 57, 97, 98, 99, 100, 101, 102]⟩ : ByteArray).extract (X % 16).toNat (X % 16 + 1).toNat ++ ⟨(hexTail n k).toArray⟩ = ⟨(hexTail n (k + 1)).toArray⟩ := by
  have hd : n / 16 ^ k % 16 < 16 := Nat.mod_lt _ (by decide)
  have e1 : (X % 16).toNat = n / 16 ^ k % 16 := by omega
  have e2 : (X % 16 + 1).toNat = n / 16 ^ k % 16 + 1 := by omega
  rw [e1, e2]
  have := extract_dig ⟨n / 16 ^ k % 16, hd⟩
  apply ByteArray.ext
  apply Array.ext'
  rw [ByteArray.data_append, Array.toList_append, this]
  rfl

theorem digits_nat (j : Nat) (hj : j < 16) (p : j < (⟨#[48, 49, 50, 51, 52, 53, 54, 55, 56, 57, 97, 98, 99, 100, 101, 102]⟩ : ByteArray).size) :
    (⟨#[48, 49, 50, 51, 52, 53, 54, 55, 56, 57, 97, 98, 99, 100, 101, 102]⟩ : ByteArray)[j]'p = hexDigit j := digitsText_at ⟨j, hj⟩
theorem not_found (c : UInt8) (h : ∀ i, i < 16 → hexDigit i ≠ c) : digB (c.toNat : Int) = false := by
  have hc : c.toNat < 256 := c.toNat_lt
  rcases find_table ⟨c.toNat, hc⟩ with ⟨_, l, e, _⟩ | ⟨e, _⟩
  · exact absurd (UInt8.toNat_inj.1 e) (h _ l)
  · exact e
theorem found {c : UInt8} {j : Nat} (hj : j < 16) (h : hexDigit j = c) : digB (c.toNat : Int) = true ∧ digV (c.toNat : Int) = (j : Int) := by
  subst h; exact hexDigit_digB hj
theorem pow_le {k : Nat} (h : k < 16) : Pow k ≤ 1152921504606846976 := by
  have : (16 : Int) ^ k ≤ 16 ^ 15 := by
    have n : 16 ^ k ≤ 16 ^ 15 := Nat.pow_le_pow_right (by omega) (by omega)
    exact_mod_cast n
  exact this
theorem pow_succ (k : Nat) : Pow (k + 1) = Pow k * 16 := by unfold Pow; rw [Int.pow_succ]

end Go.Proofs.Ytfnjldofbdkjgaa
