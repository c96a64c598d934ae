/-
  The contracts of value.Parse and of its reference: digits and what they say.
-/
import Derived.Test.YtfnjldofbdkjgaaVal3
import Derived.LoopTactic
import Derived.Deep.LoopGhost
import Derived.Recover
import Derived.Defers
import Derived.Laws.Shifts
namespace Go.Proofs.Ytfnjldofbdkjgaa
open Go.RowKit
set_option linter.unusedSimpArgs false

def digB (c : Int) : Bool := (decide (48 ≤ c) && decide (c ≤ 57)) || (decide (97 ≤ c) && decide (c ≤ 102))
def digV (c : Int) : Int := if c ≤ 57 then c - 48 else c - 87
/-- What is given up with. -/
def refusal : List PanicEntry := [{ v := .iface 52 (.agg #[]), recovered := false }]

theorem digit_yes (c : Int) (h0 : 0 ≤ c) (h : digB c = true) (w : World) : Calls Try.prog 66 #[.int .u8 c] w fun e w' => e = .returned (.int .u64 (digV c)) ∧ w = w' := by
  unfold digB at h
  simp only [Bool.or_eq_true, Bool.and_eq_true, decide_eq_true_eq] at h
  by_cases h1 : c ≤ 57
  · have E := Lib.hid (show digV c = c - 48 by unfold digV; rw [if_pos h1])
    have h2 : 48 ≤ c := by omega
    clear h
    go_enter Try.func66, Try.ntmps66
    go_wp2
    go_ret
    exact ⟨by rw [E.out]; rfl, rfl⟩
  · have E := Lib.hid (show digV c = c - 97 + 10 by unfold digV; rw [if_neg h1]; omega)
    have h2 : 97 ≤ c := by omega
    have h3 : c ≤ 102 := by omega
    clear h
    go_enter Try.func66, Try.ntmps66
    go_wp2
    go_ret
    exact ⟨by rw [E.out]; rfl, rfl⟩
theorem digit_no (c : Int) (h : digB c = false) (w : World) : Calls Try.prog 66 #[.int .u8 c] w fun e w' => e = .panicked refusal ∧ w = w' := by
  unfold digB at h
  simp only [Bool.or_eq_false_iff, Bool.and_eq_false_iff, decide_eq_false_iff_not] at h
  obtain ⟨h1, h2⟩ := h
  by_cases c1 : 48 ≤ c
  · have c2 : ¬ c ≤ 57 := by omega
    by_cases c3 : 97 ≤ c
    · have c4 : ¬ c ≤ 102 := by omega
      clear h1 h2
      go_enter Try.func66, Try.ntmps66
      go_wp2
      exact ⟨rfl, rfl, rfl⟩
    · clear h1 h2
      go_enter Try.func66, Try.ntmps66
      go_wp2
      exact ⟨rfl, rfl, rfl⟩
  · clear h1 h2
    go_enter Try.func66, Try.ntmps66
    go_wp2
    exact ⟨rfl, rfl, rfl⟩

/-- What digits say, one behind the other. -/
def accum : List UInt8 → Int → Option Int
  | [], v => some v
  | c :: r, v => bif digB (c.toNat : Int) then accum r (v * 16 + digV (c.toNat : Int)) else none
theorem accum_append (l r : List UInt8) : ∀ v, accum (l ++ r) v = (accum l v).bind (accum r) := by
  induction l with
  | nil => intro v; rfl
  | cons c l ih =>
    intro v
    simp only [List.cons_append, accum]
    cases digB (c.toNat : Int)
    · rfl
    · simp only [cond_true]; exact ih _
theorem accum_snoc (s : ByteArray) (k : Nat) (h : k < s.size) (v x : Int) (hx : accum (s.data.toList.take k) v = some x) :
    accum (s.data.toList.take (k + 1)) v = bif digB (s[k].toNat : Int) then some (x * 16 + digV (s[k].toNat : Int)) else none := by
  rw [List.take_succ_eq_append_getElem (by simpa using h), accum_append, hx]
  show accum [s.data.toList[k]] x = _
  have : s.data.toList[k]'(by simpa using h) = s[k] := rfl
  rw [this]
  simp only [accum]
theorem digV_range {c : Int} (h : digB c = true) : 0 ≤ digV c ∧ digV c < 16 := by
  unfold digB at h
  simp only [Bool.or_eq_true, Bool.and_eq_true, decide_eq_true_eq] at h
  unfold digV
  split <;> omega
theorem accum_none (l : List UInt8) (k : Nat) (v : Int) (h : accum (l.take k) v = none) : accum l v = none := by
  have := accum_append (l.take k) (l.drop k) v
  rw [List.take_append_drop, h] at this
  exact this
def parseV (l : List UInt8) : Option Int := if l.length = 16 then (accum l 0).bind fun x => bif rightB x then some x else none else none

theorem or_digit (x d : Int) (h0 : 0 ≤ x) (h1 : x * 16 < 18446744073709551616) (d0 : 0 ≤ d) (d1 : d < 16) : bits .or .u64 (x * 16) d = x * 16 + d := by
  rw [u64_or _ d (by omega) h1 d0 (by omega), nat_join 4 _ _ (by omega) (by omega)]
  omega

def Gives (l : List UInt8) (w : World) (e : Ending) (w' : World) : Prop :=
  (match parseV l with | some x => e = .returned (.int .u64 x) | none => e = .panicked refusal) ∧ w = w'
def Pow (k : Nat) : Int := 16 ^ k
set_option maxHeartbeats 1000000 in
theorem bits_any (s : ByteArray) (w : World) : Calls Try.prog 63 #[.string s] w (Gives s.data.toList w) := by
  by_cases hl : s.size = 16
  · have hsz : ((s.size : Int) != 16) = false := by rw [hl]; rfl
    have HL := Lib.hid hl
    have hb : s.size ≤ 16 := by omega
    have hb' : 16 ≤ s.size := by omega
    clear hl
    go_enter Try.func63, Try.ntmps63
    go_wp2
    go_loop [3, 12] (fun v i => ∃ (k : Nat) (x : Int), k ≤ s.size ∧ i = .int .i64 k ∧ v = .int .u64 x ∧ 0 ≤ x ∧ x < Pow k ∧ Hid (accum (s.data.toList.take k) 0 = some x)) (fun _ i => s.size - (intOf i).toNat)
    case atStart => exact ⟨0, 0, by omega, rfl, rfl, by omega, by decide, rfl⟩
    case round =>
      obtain ⟨k, x, hk, rfl, rfl, hx0, hx1, HA⟩ := hrel
      by_cases hlt : k < s.size
      · have hx2 : x * 16 < 18446744073709551616 := by
          have p : Pow k ≤ 1152921504606846976 := by
            have : (16 : Int) ^ k ≤ 16 ^ 15 := by
              have n : 16 ^ k ≤ 16 ^ 15 := Nat.pow_le_pow_right (by omega) (by omega)
              exact_mod_cast n
            exact this
          omega
        have HS := Lib.hid (accum_snoc s k hlt 0 x HA.out)
        cases hd : digB (s[k].toNat : Int)
        · have G := Lib.hid (show parseV s.data.toList = none by
            unfold parseV
            rw [accum_none _ (k + 1) 0 (by rw [HS.out, hd]; rfl)]
            split <;> rfl)
          have HD := Lib.hid hd
          clear hd hx1
          go_wp2_with (go_at_call 66; refine (digit_no _ HD.out _).mono ?_; rintro e w' ⟨rfl, rfl⟩)
          refine ⟨rfl, ?_, rfl⟩
          rw [G.out]
        · have HD := Lib.hid hd
          have hr := digV_range hd
          have HO := Lib.hid (or_digit x _ hx0 hx2 hr.1 hr.2)
          clear hd
          go_wp2_with (go_at_call 66; refine (digit_yes _ (Int.natCast_nonneg _) HD.out _).mono ?_; rintro e w' ⟨rfl, rfl⟩)
          go_round
          case rel =>
            refine ⟨k + 1, x * 16 + digV (s[k].toNat : Int), by omega, by go_num, by rw [HO.out], by omega, ?_, ?_⟩
            · have : Pow (k + 1) = Pow k * 16 := by unfold Pow; rw [Int.pow_succ]
              omega
            · have := HS.out
              rw [HD.out] at this
              exact this
          case measure => simp [intOf]; omega
      · have hk' : k = s.size := by omega
        have HT := Lib.hid (show accum s.data.toList 0 = some x by
          have := HA.out
          rwa [hk', List.take_of_length_le (by simp)] at this)
        have hx2 : x < 18446744073709551616 := by
          have : Pow k = 18446744073709551616 := by rw [hk', HL.out]; decide
          omega
        have hw : W64 x := ⟨hx0, hx2⟩
        have HK := Lib.hid hk'
        clear hk' hx1 hx2
        cases hr : rightB x
        · have G := Lib.hid (show parseV s.data.toList = none by
            unfold parseV
            rw [HT.out, Option.bind_some, hr]
            split <;> rfl)
          have HR := Lib.hid hr
          clear hr
          go_wp2_with (go_at_call 16; refine (right_any x hw _).mono ?_; rintro e w' ⟨rfl, rfl⟩; rw [HR.out])
          refine ⟨rfl, ?_, rfl⟩
          rw [G.out]
          rfl
        · have G := Lib.hid (show parseV s.data.toList = some x by
            unfold parseV
            rw [HT.out, Option.bind_some, hr, if_pos (by simpa using HL.out)]
            rfl)
          have HR := Lib.hid hr
          clear hr
          go_wp2_with (go_at_call 16; refine (right_any x hw _).mono ?_; rintro e w' ⟨rfl, rfl⟩; rw [HR.out])
          go_ret
          refine ⟨?_, rfl⟩
          rw [G.out]
          rfl
  · have hsz : ((s.size : Int) != 16) = true := by rw [bne_iff_ne]; omega
    have G := Lib.hid (show parseV s.data.toList = none by unfold parseV; rw [if_neg]; simpa using hl)
    clear hl
    go_enter Try.func63, Try.ntmps63
    go_wp2
    refine ⟨rfl, ?_, rfl⟩
    rw [G.out]
    rfl

end Go.Proofs.Ytfnjldofbdkjgaa
