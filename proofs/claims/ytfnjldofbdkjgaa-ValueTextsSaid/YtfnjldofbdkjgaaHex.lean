/-
  The contracts of Hex, and of the reference's Hex and Parse.
-/
import Derived.Test.YtfnjldofbdkjgaaLaw01
import Derived.Test.YtfnjldofbdkjgaaHexP
import Derived.Laws.BytesArg
import Derived.Laws.NewBlocks
import Derived.Laws.Concat
namespace Go.Proofs.Ytfnjldofbdkjgaa
open Go.RowKit
set_option linter.unusedSimpArgs false

theorem hex_any (v : Int) (hv : W64 v) (w : World) : Calls Try.prog 42 #[.int .u64 v] w fun e w' => e = .returned (.string (hexStr v)) ∧ Below w.heap.size w w' := by
  go_enter Try.func42, Try.ntmps42
  go_wp2_with (go_at_call 19; refine (canon_any _ hv _).mono ?_; rintro e w' ⟨rfl, rfl⟩)
  go_loopw [7] (fun i wr => ∃ (k : Nat) (C : Array Value), k ≤ 16 ∧ i = .int .i64 k ∧ wr = w.alloc (.cells C 55) ∧ C.size = 16 ∧ ∀ j, j < k → C[j]? = some (.int .u8 ((hexTail (canon v).toNat 16).getD j 0).toNat)) (fun i _ => 16 - (intOf i).toNat)
  case atStart => exact ⟨0, _, by omega, rfl, rfl, rfl, fun j hj => by omega⟩
  case round =>
    obtain ⟨k, C, hk, rfl, rfl, hC, hD⟩ := hrel
    have HD := Lib.hid hD
    have HC := Lib.hid hC
    clear hC hD
    by_cases hlt : k < 16
    · have hc0 : ∃ x, (w.alloc (.cells C 55)).cell? ⟨w.heap.size, k, none⟩ = some x := by
        refine ⟨C[k]'(by rw [HC.out]; exact hlt), ?_⟩
        simp [go_sem, HC.out, hlt]
      obtain ⟨x, hx⟩ := hc0
      have hX := digit_at (canon_w64 hv) k hlt
      have hm : (canon v).toNat / 16 ^ (16 - 1 - k) % 16 < 16 := Nat.mod_lt _ (by decide)
      have hX0 : 0 ≤ bits .and .u64 (canon v / 2 ^ (60 - 4 * k)) 15 := by omega
      have hX1 : bits .and .u64 (canon v / 2 ^ (60 - 4 * k)) 15 < 16 := by omega
      have HX := Lib.hid hX
      clear hX hm
      go_wp2
      go_roundw
      case rel =>
        refine ⟨k + 1, _, by omega, by go_num, rfl, by simp [HC.out], ?_⟩
        intro j hj
        rw [Array.getElem?_setIfInBounds]
        by_cases e : k = j
        · subst e
          rw [if_pos rfl, if_pos (by rw [HC.out]; exact hlt), digits_get _ _ (Nat.mod_lt _ (by decide)) HX.out, hexTail_getD _ _ hlt]
        · rw [if_neg e]
          exact HD.out j (by omega)
      case measure => simp [intOf]; omega
    · have hk' : k = 16 := by omega
      subst hk'
      have hcell : ∀ i, i < 16 → (w.alloc (.cells C 55)).cell? ⟨w.heap.size, 0 + i, none⟩ = some (.int .u8 (((hexTail (canon v).toNat 16).map fun c => (c.toNat : Int)).getD i 0)) := by
        intro i hi
        have h := HD.out i hi
        rw [Nat.zero_add]
        have e : ((hexTail (canon v).toNat 16).map fun c => (c.toNat : Int)).getD i 0 = (((hexTail (canon v).toNat 16).getD i 0).toNat : Int) := by
          rw [List.getD_eq_getElem?_getD, List.getElem?_map, hexTail_get _ _ _ hi, hexTail_getD _ _ hi]
          rfl
        rw [e]
        simp [go_sem, h]
      have hcv := run_convert_bytes_arg (P := Try.prog) (w.alloc (.cells C 55)) 56 5 (by kernel_rfl) (by kernel_rfl) w.heap.size 0 16 16 _ (by rw [List.length_map, hexTail_len]) hcell 9 (by kernel_rfl)
      rw [str_of] at hcv
      clear hcell
      go_wp2
      go_ret
      exact ⟨rfl, (Below.refl _ _).alloc (Nat.le_refl _) _⟩
theorem refHex_any (v : Int) (hv : W64 v) (w : World) : Calls Try.prog 43 #[.int .u64 v] w fun e w' => e = .returned (.string (hexStr v)) ∧ w = w' := by
  have wc := canon_w64 hv
  go_enter Try.func43, Try.ntmps43
  go_wp2_with (go_at_call 20; refine (refCanon_any _ hv _).mono ?_; rintro e w' ⟨rfl, rfl⟩)
  go_loop [3, 4, 5] (fun o x i => ∃ (k : Nat) (X : Int), k ≤ 16 ∧ i = .int .i64 k ∧ x = .int .u64 X ∧ 0 ≤ X ∧ X ≤ 18446744073709551615 ∧ Hid (X = (((canon v).toNat / 16 ^ k : Nat) : Int)) ∧ o = .string ⟨(hexTail (canon v).toNat k).toArray⟩) (fun _ _ i => 16 - (intOf i).toNat)
  case atStart => exact ⟨0, canon v, by omega, rfl, rfl, wc.1, by have := wc.2; omega, by show _ = _; rw [Nat.pow_zero, Nat.div_one, Int.toNat_of_nonneg wc.1], rfl⟩
  case round =>
    obtain ⟨k, X, hk, rfl, rfl, x0, x1, HX, rfl⟩ := hrel
    by_cases hlt : k < 16
    · have y0 : 0 ≤ X % 16 := by omega
      have y1 : X % 16 < 16 := by omega
      have HT := Lib.hid (step_text X _ k HX.out)
      have HB := Lib.hid (step_back X _ k HX.out)
      have hl : (hexTail (canon v).toNat k).length ≤ 16 := by rw [hexTail_len]; omega
      go_wp2
      go_round
      case rel => exact ⟨k + 1, X / 16, by omega, by go_num, rfl, by omega, by omega, HB.out, by rw [HT.out]⟩
      case measure => simp [intOf]; omega
    · have hk' : k = 16 := by omega
      subst hk'
      go_wp2
      go_ret
      exact ⟨rfl, rfl⟩
theorem refParse_any (s : ByteArray) (w : World) : Calls Try.prog 41 #[.string s] w fun e w' =>
    e = .returned (.tuple #[.int .u64 (parsedV s.data.toList), .int .i64 (parsedE s.data.toList)]) ∧ DrewN w w' := by
  by_cases hl : s.size = 16
  · have hsz : ((s.size : Int) != 16) = false := by rw [hl]; rfl
    have HL := Lib.hid hl
    have hb : s.size ≤ 16 := by omega
    have hb' : 16 ≤ s.size := by omega
    clear hl
    go_enter Try.func41, Try.ntmps41
    go_wp2
    go_loopw [4, 5] (fun x i wr => ∃ (k n : Nat) (X : Int), k ≤ 16 ∧ i = .int .i64 k ∧ x = .int .u64 X ∧ 0 ≤ X ∧ X < Pow k ∧ Hid (accum (s.data.toList.take k) 0 = some X) ∧ wr = w.drewN n) (fun _ i _ => 16 - (intOf i).toNat)
    case atStart => exact ⟨0, 0, 0, by omega, rfl, rfl, by omega, by decide, rfl, rfl⟩
    case round =>
      obtain ⟨k, n, X, hk, rfl, rfl, x0, x1, HA, rfl⟩ := hrel
      by_cases hlt : k < 16
      · have hlt' : k < s.size := by omega
        go_wp2
        obtain ⟨wo, rfl⟩ : ∃ wo : World, wo = w.drewN n := ⟨_, rfl⟩
        go_loopw [6] (fun d wr => ∃ (j m : Nat), j ≤ 16 ∧ d = .int .i64 j ∧ Hid (∀ i, i < j → hexDigit i ≠ s[k]) ∧ wr = w.drewN m) (fun d _ => 16 - (intOf d).toNat)
        case atStart => exact ⟨0, n, by omega, rfl, fun i hi => by omega, rfl⟩
        case round =>
          obtain ⟨j, m, hj, rfl, HN, rfl⟩ := hrel
          by_cases hj' : j < 16
          · have hg : decide ((j : Int) < 16) = true := by rw [decide_eq_true_eq]; omega
            have hj0 : (0 : Int) ≤ (j : Int) := by omega
            have hj1 : (j : Int) < 16 := by omega
            have hd : ∀ p : j < (⟨#[48, 49, 50, 51, 52, 53, 54, 55, 56, 57, 97, 98, 99, 100, 101, 102]⟩ : ByteArray).size, ((⟨#[48, 49, 50, 51, 52, 53, 54, 55, 56, 57, 97, 98, 99, 100, 101, 102]⟩ : ByteArray)[j]'p) = hexDigit j := digits_nat j hj'
            by_cases e : hexDigit j = s[k]
            · obtain ⟨d1, d2⟩ := found hj' e
              have hq : ((((⟨#[48, 49, 50, 51, 52, 53, 54, 55, 56, 57, 97, 98, 99, 100, 101, 102]⟩ : ByteArray)[j]'hj').toNat : Int) != (s[k].toNat : Int)) = false := by rw [hd, e]; simp
              have hp := pow_le hlt
              have x2 : X * 16 < 18446744073709551616 := by omega
              have x3 : X * 16 + (j : Int) < 18446744073709551616 := by omega
              have HR := Lib.hid (show accum (s.data.toList.take (k + 1)) 0 = some (X * 16 + (j : Int)) ∧ X * 16 + (j : Int) < Pow (k + 1) by
                refine ⟨?_, by rw [pow_succ]; omega⟩
                rw [accum_snoc s k hlt' 0 X HA.out, d1, d2]
                rfl)
              clear hd d1 d2 e hp x1
              go_wp2
              go_quiet (fail)
              go_wp2
              go_roundw
              case rel => exact ⟨k + 1, _, X * 16 + (j : Int), by omega, by go_num, rfl, by omega, HR.out.2, HR.out.1, rfl⟩
              case measure => simp [intOf]; omega
            · have hq : ((((⟨#[48, 49, 50, 51, 52, 53, 54, 55, 56, 57, 97, 98, 99, 100, 101, 102]⟩ : ByteArray)[j]'hj').toNat : Int) != (s[k].toNat : Int)) = true := by
                rw [hd, bne_iff_ne]
                intro h
                exact e (UInt8.toNat_inj.1 (by exact_mod_cast h))
              have HE := Lib.hid e
              clear hd e x1
              go_wp2
              go_quiet (fail)
              go_wp2
              go_roundw
              case rel =>
                refine ⟨j + 1, _, by omega, by go_num, ?_, rfl⟩
                intro i hi
                by_cases h : i = j
                · rw [h]; exact HE.out
                · exact HN.out i (by omega)
              case measure => simp [intOf]; omega
          · have hj2 : j = 16 := by omega
            subst hj2
            have G : parseV s.data.toList = none := by
              unfold parseV
              rw [accum_none _ (k + 1) 0 (by rw [accum_snoc s k hlt' 0 X HA.out, not_found _ HN.out]; rfl)]
              split <;> rfl
            have F1 := Lib.hid (show parsedV s.data.toList = 0 by unfold parsedV; rw [G]; rfl)
            have F2 := Lib.hid (show parsedE s.data.toList = 3 by unfold parsedE; rw [G]; rfl)
            clear G x1 hj'
            go_wp2
            go_quiet (fail)
            go_wp2
            go_ret2
            exact ⟨by rw [F1.out, F2.out]; rfl, ⟨_, rfl⟩⟩
      · have hk' : k = 16 := by omega
        have HT := Lib.hid (show accum s.data.toList 0 = some X by
          have := HA.out
          rwa [hk', List.take_of_length_le (by simp; have := HL.out; show s.size ≤ 16; omega)] at this)
        have hx2 : X < 18446744073709551616 := by
          have : Pow k = 18446744073709551616 := by rw [hk']; decide
          omega
        have hw : W64 X := ⟨x0, hx2⟩
        have HP := Lib.hid (show parseV s.data.toList = bif rightB X then some X else none by
          unfold parseV
          rw [HT.out, Option.bind_some, if_pos (by simpa using HL.out)])
        clear hk' x1 hx2
        cases hr : rightB X
        · have F1 := Lib.hid (show parsedV s.data.toList = 0 by unfold parsedV; rw [HP.out, hr]; rfl)
          have F2 := Lib.hid (show parsedE s.data.toList = 3 by unfold parsedE; rw [HP.out, hr]; rfl)
          have HR := Lib.hid hr
          clear hr
          go_wp2_with (go_at_call 18; refine (refRight_any X hw _).mono ?_; rintro e w' ⟨rfl, rfl⟩; rw [HR.out])
          go_ret2
          exact ⟨by rw [F1.out, F2.out]; rfl, ⟨_, rfl⟩⟩
        · have F1 := Lib.hid (show parsedV s.data.toList = X by unfold parsedV; rw [HP.out, hr]; rfl)
          have F2 := Lib.hid (show parsedE s.data.toList = 0 by unfold parsedE; rw [HP.out, hr]; rfl)
          have HR := Lib.hid hr
          clear hr
          go_wp2_with (go_at_call 18; refine (refRight_any X hw _).mono ?_; rintro e w' ⟨rfl, rfl⟩; rw [HR.out])
          go_ret2
          exact ⟨by rw [F1.out, F2.out]; rfl, ⟨_, rfl⟩⟩
  · have hsz : ((s.size : Int) != 16) = true := by rw [bne_iff_ne]; omega
    have G : parseV s.data.toList = none := by unfold parseV; rw [if_neg]; simpa using hl
    have F1 := Lib.hid (show parsedV s.data.toList = 0 by unfold parsedV; rw [G]; rfl)
    have F2 := Lib.hid (show parsedE s.data.toList = 3 by unfold parsedE; rw [G]; rfl)
    clear hl G
    go_enter Try.func41, Try.ntmps41
    go_wp2
    go_ret2
    exact ⟨by rw [F1.out, F2.out]; rfl, DrewN.refl _⟩

end Go.Proofs.Ytfnjldofbdkjgaa
