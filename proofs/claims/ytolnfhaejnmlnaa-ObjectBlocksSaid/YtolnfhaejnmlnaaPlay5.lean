
/-
  play, and that a queue's values are right ones.
-/
import Derived.Test.YtolnfhaejnmlnaaPlay3
import Derived.Test.YtolnfhaejnmlnaaPlay4
namespace Go.Proofs.Ytolnfhaejnmlnaa
open Go.RowKit
set_option linter.unusedSimpArgs false
set_option linter.unusedVariables false

def PlayPostR (W : World) (e : Ending) (w' : World) : Prop := ∃ x y st, e = .returned (.tuple #[x, y, .bool true]) ∧ Both W x y st w' ∧ StRight st
theorem stNew_right (k size : Int) : StRight (stNew k size) := by
  unfold stNew
  cases goodB k size <;> cases (k == 1) <;> cases (k == 2) <;> cases (k == 3) <;> simp [StRight]
theorem sized_any (k : Int) (h0 : 0 ≤ k) (h1 : k ≤ 255) (w : World) : Calls Try.prog 17 #[.int .u8 k] w fun e w' => ∃ n, e = .returned (.int .i64 n) ∧ w = w' := by
  cases hk : (k % 4 == 0)
  all_goals
    go_enter Try.func17, Try.ntmps17
    go_wp2
    go_ret
    exact ⟨_, rfl, rfl⟩
set_option maxHeartbeats 8000000 in
set_option maxRecDepth 100000 in
theorem playR_any (W : World) (k : Int) (k0 : 0 ≤ k) (k1 : k ≤ 255) (size : Int) (A : Option Addr) (len cap : Nat) (hC : CallsAt W A len) :
    Calls Try.prog 15 #[.int .u8 k, .int .i64 size, .slice A len cap] W (PlayPostR W) := by
  have HC := Lib.hid hC
  have hlm : len ≤ 9223372036854775807 := by have := hC.1; unfold maxLen at this; omega
  clear hC
  go_enter Try.func15, Try.ntmps15
  go_wp2_with (first | (go_at_call 28; ((with_reducible refine (kind_any k k0 k1 _).mono ?_); rintro e w' ⟨rfl, rfl⟩)) | (go_at_call 9; ((with_reducible refine (oNewSt (1 + k % 4) size _).mono ?_); rintro e w1 ⟨x, rfl, ho, hb1⟩); have HO := Lib.hid ho; have HB1 := Lib.hid hb1; clear ho hb1) | (go_at_call 29; ((with_reducible refine (rNewSt (1 + k % 4) size _).mono ?_); rintro e w2 ⟨y, rfl, hr, hb2⟩); have R2 := Lib.hid (show Both W x y (stNew (1 + k % 4) size) w2 from ⟨OAt_below HO.out hb2, RAt_less hr HB1.out.size, HB1.out.trans (hb2.mono HB1.out.size)⟩); clear hr hb2))
  go_loopw [11] (fun i wr => ∃ (j : Nat) (st : St), j ≤ 60 ∧ i = .int .i64 j ∧ Hid (StRight st) ∧ Hid (Both W x y st wr)) (fun i _ => 60 - (intOf i).toNat)
  case atStart => exact ⟨0, _, by omega, rfl, stNew_right _ _, R2⟩
  case round =>
    clear R2
    obtain ⟨j, st, hj, rfl, HT, HR⟩ := hrel
    by_cases hlt : j < len ∧ j < 60
    · obtain ⟨ad, c, who, v, rfl, hca⟩ := HC.out.2 j hlt.1
      have CA := Lib.hid hca
      have hv : W64 v := hca.2.2.1
      clear hca
      obtain ⟨hl, h60⟩ := hlt
      have t1 : decide (j < len) = true := decide_eq_true hl
      have t1' : decide ((j : Int) < (len : Int)) = true := decide_eq_true (by omega)
      have t2 : decide ((j : Int) < 60) = true := decide_eq_true (by omega)
      have t3 : (j : Int) < (len : Int) := by omega
      have t4 : (0 : Int) ≤ (j : Int) := by omega
      have c0 := (callAt_below CA.out HR.out.2.2).2.2.2.1
      have c1 := (callAt_below CA.out HR.out.2.2).2.2.2.2.1
      have c2 := (callAt_below CA.out HR.out.2.2).2.2.2.2.2
      obtain ⟨⟨⟨av, ab, ae⟩, st'⟩, hm⟩ : ∃ r, stDo c who v st = r := ⟨_, rfl⟩
      have HM := Lib.hid hm
      have HT' : Hid (StRight st') := by have := stDo_right c who v st HT.out; rw [hm] at this; exact this
      clear hm
      have HD := Lib.hid (show Both W x y st wr.drew from HR.out.below ⟨rfl, rfl, rfl, Nat.le_refl _, fun _ _ => rfl⟩)
      go_wp2_with fail
      go_region_law (first | (go_simp; go_at_call 11; refine (oDo_as hv HM.out HD.out.1).mono ?_; rintro e v1 ⟨rfl, h1, g1⟩; have O1 := Lib.hid h1; have T1 := Lib.hid (show Below W.heap.size W v1 from Touch.below g1 HD.out.2.2); have R1 := Lib.hid (RAt_touch HD.out.2.1 g1); have c0' := (callAt_below CA.out T1.out).2.2.2.1; have c1' := (callAt_below CA.out T1.out).2.2.2.2.1; have c2' := (callAt_below CA.out T1.out).2.2.2.2.2; clear h1 g1) | (go_simp; go_at_call 22; refine (rDo_as hv HM.out R1.out).mono ?_; rintro e v2 ⟨rfl, h2, g2⟩; have B2 := Lib.hid (show Both W x y st' v2 from ⟨OAt_touch O1.out g2, h2, Touch.below g2 T1.out⟩); clear h2 g2))
      all_goals
        clear c0 c1 c2 c0' c1' c2' HR HD O1 T1 R1
        go_wp2_with fail
        go_roundw
        case rel => exact ⟨j + 1, st', by omega, by go_num, HT', B2⟩
        case measure => simp [intOf]; omega
    · have t : decide (j < len) = false ∨ decide (j < len) = true ∧ decide ((j : Int) < 60) = false := by
        by_cases h : j < len
        · exact .inr ⟨decide_eq_true h, decide_eq_false (by omega)⟩
        · exact .inl (decide_eq_false h)
      have hxy : (x = .pointer none ∧ y = .pointer none) ∨ (∃ a b, x = .pointer (some a) ∧ y = .pointer (some b)) := by
        have h1 := HR.out.1
        have h2 := HR.out.2.1
        cases st with
        | nil => exact .inl ⟨h1, h2⟩
        | mu o => obtain ⟨p, a, e, _⟩ := h1; obtain ⟨r, e', _⟩ := h2; exact .inr ⟨_, _, e, e'⟩
        | se n => obtain ⟨p, a, e, _⟩ := h1; obtain ⟨r, _, e', _⟩ := h2; exact .inr ⟨_, _, e, e'⟩
        | qu size l => obtain ⟨p, a, e, _⟩ := h1; obtain ⟨r, e', _⟩ := h2; exact .inr ⟨_, _, e, e'⟩
        | ba s => obtain ⟨p, a, e, _⟩ := h1; obtain ⟨r, e', _⟩ := h2; exact .inr ⟨_, _, e, e'⟩
      rcases t with t1 | ⟨t1, t2⟩ <;> rcases hxy with ⟨rfl, rfl⟩ | ⟨a, b, rfl, rfl⟩
      all_goals
        go_wp2_with fail
        go_ret3
        exact ⟨_, _, st, rfl, HR.out, HT.out⟩
end Go.Proofs.Ytolnfhaejnmlnaa
