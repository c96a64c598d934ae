
/-
  rowlocklaw20.ObjectForks: for every kind and two slices of calls it returns true.
-/
import Derived.Test.YtolnfhaejnmlnaaForks2
import Derived.LoopTactic
namespace Go.Proofs.Ytolnfhaejnmlnaa
open Go.RowKit
set_option linter.unusedSimpArgs false
set_option linter.unusedVariables false

theorem callsAt_below' {w w1 : World} {A : Option Addr} {n : Nat} (h : CallsAt w A n) (hb : Below w.heap.size w w1) : CallsAt w1 A n :=
  ⟨h.1, fun j hj => by
    obtain ⟨ad, k, who, v, e, hc⟩ := h.2 j hj
    exact ⟨ad, k, who, v, e, callAt_below hc hb⟩⟩
set_option maxHeartbeats 8000000 in
set_option maxRecDepth 100000 in
theorem objectForks_walk0 (W : World) (k : Int) (k0 : 0 ≤ k) (k1 : k ≤ 255) (A : Option Addr) (len cap : Nat) (hC : CallsAt W A len) (A' : Option Addr) (len' cap' : Nat) (hD : CallsAt W A' len') :
    Calls Try.prog 8 #[.int .u8 k, .slice A len cap, .slice A' len' cap'] W fun e w' => e = .returned (.bool true) ∧ Below W.heap.size W w' := by
  have HC := Lib.hid hC
  have HE := Lib.hid hD
  have hlm : len' ≤ 9223372036854775807 := by have := hD.1; unfold maxLen at this; omega
  clear hC hD
  go_enter Try.func8, Try.ntmps8
  go_wp2_with (first | (go_at_call 17; ((with_reducible refine (sized_any k k0 k1 _).mono ?_); rintro e w' ⟨n, rfl, rfl⟩)) | (go_at_call 15; refine (play_any W k k0 k1 n A len cap HC.out).mono ?_; rintro e w1 ⟨x, y, st, rfl, hb⟩; have B1 := Lib.hid hb; clear hb) | (go_at_call 10; ((with_reducible refine (live_any _).mono ?_); rintro e w2 ⟨rfl, hb2⟩); have B2 := Lib.hid (B1.out.below hb2); clear hb2) | (go_at_call 20; refine (oFork_any B2.out.1).mono ?_; rintro e w3 ⟨x', rfl, ho, hb3⟩; have O3 := Lib.hid ho; have B3 := Lib.hid hb3; have R3 := Lib.hid (RAt_below B2.out.2.1 hb3); clear ho hb3) | (go_at_call 21; refine (rFork_any R3.out).mono ?_; rintro e w4 ⟨y', rfl, hr, hb4⟩; have F4 := Lib.hid (show Both w2 x' y' st w4 from ⟨OAt_below O3.out hb4, RAt_less hr B3.out.size, B3.out.trans (hb4.mono B3.out.size)⟩); clear hr hb4 O3 B3 R3))
  go_loopw [12] (fun i wr => ∃ (j : Nat) (st' : St), j ≤ 14 ∧ i = .int .i64 j ∧ Hid (Both w2 x' y' st' wr)) (fun i _ => 14 - (intOf i).toNat)
  case atStart => exact ⟨0, _, by omega, rfl, F4⟩
  case round =>
    clear F4
    obtain ⟨j, st', hj, rfl, HR⟩ := hrel
    have HW := Lib.hid (show Below W.heap.size W wr from B2.out.2.2.trans (HR.out.2.2.mono B2.out.2.2.size))
    by_cases hlt : j < len' ∧ j < 14
    · obtain ⟨ad, c, who, v, rfl, hca⟩ := HE.out.2 j hlt.1
      have CA := Lib.hid hca
      have hv : W64 v := hca.2.2.1
      clear hca
      obtain ⟨hl, h60⟩ := hlt
      have t1 : decide (j < len') = true := decide_eq_true hl
      have t1' : decide ((j : Int) < (len' : Int)) = true := decide_eq_true (by omega)
      have t2 : decide ((j : Int) < 14) = true := decide_eq_true (by omega)
      have t3 : (j : Int) < (len' : Int) := by omega
      have t4 : (0 : Int) ≤ (j : Int) := by omega
      have c0 := (callAt_below CA.out HW.out).2.2.2.1
      have c1 := (callAt_below CA.out HW.out).2.2.2.2.1
      have c2 := (callAt_below CA.out HW.out).2.2.2.2.2
      obtain ⟨⟨⟨av, ab, ae⟩, st''⟩, hm⟩ : ∃ r, stDo c who v st' = r := ⟨_, rfl⟩
      have HM := Lib.hid hm
      clear hm
      have HD := Lib.hid (show Both w2 x' y' st' wr.drew from HR.out.below ⟨rfl, rfl, rfl, Nat.le_refl _, fun _ _ => rfl⟩)
      go_wp2_with fail
      go_region_law (first | (go_simp; go_at_call 11; refine (oDo_as hv HM.out HD.out.1).mono ?_; rintro e v1 ⟨rfl, h1, g1⟩; have O1 := Lib.hid h1; have T1 := Lib.hid (show Below w2.heap.size w2 v1 from Touch.below g1 HD.out.2.2); have T0 := Lib.hid (show Below W.heap.size W v1 from B2.out.2.2.trans (T1.out.mono B2.out.2.2.size)); have R1 := Lib.hid (RAt_touch HD.out.2.1 g1); have c0' := (callAt_below CA.out T0.out).2.2.2.1; have c1' := (callAt_below CA.out T0.out).2.2.2.2.1; have c2' := (callAt_below CA.out T0.out).2.2.2.2.2; clear h1 g1) | (go_simp; go_at_call 22; refine (rDo_as hv HM.out R1.out).mono ?_; rintro e v2 ⟨rfl, h2, g2⟩; have F5 := Lib.hid (show Both w2 x' y' st'' v2 from ⟨OAt_touch O1.out g2, h2, Touch.below g2 T1.out⟩); clear h2 g2))
      all_goals
        clear c0 c1 c2 c0' c1' c2' HR HD O1 T1 T0 R1 HW
        go_wp2_with fail
        go_roundw
        case rel => exact ⟨j + 1, st'', by omega, by go_num, F5⟩
        case measure => simp [intOf]; omega
    · have t : decide (j < len') = false ∨ decide (j < len') = true ∧ decide ((j : Int) < 14) = false := by
        by_cases h : j < len'
        · exact .inr ⟨decide_eq_true h, decide_eq_false (by omega)⟩
        · exact .inl (decide_eq_false h)
      have K0 := Lib.hid (show BothK W x y st wr wr from ⟨B2.out.below HR.out.2.2, Below.refl _ _⟩)
      rcases t with t1 | ⟨t1, t2⟩
      all_goals
        go_wp2_with (first | (go_at_call 16; ((with_reducible refine (bothSameK W wr wr x y st K0.out).mono ?_); rintro e w5 ⟨rfl, h5⟩); have G5 := Lib.hid (HR.out.below h5.2); clear h5) | (go_at_call 16; ((with_reducible refine (bothSame w2 w5 x' y' st' G5.out).mono ?_); rintro e w6 ⟨rfl, h6⟩); have K6 := Lib.hid h6; clear h6) | (go_at_call 9; refine (oNew0 0 1 (by decide) _).mono ?_; rintro e w7 ⟨rfl, h7⟩; have K7 := Lib.hid (K6.out.below h7); clear h7))
        go_ret
        exact ⟨by simp, B2.out.2.2.trans (K7.out.2.2.mono B2.out.2.2.size)⟩
theorem objectForks_walk (W : World) (k : Int) (hk : (Lit.int .u8 k).wf = true) (A : Option Addr) (len cap : Nat) (hC : CallsAt W A len) (A' : Option Addr) (len' cap' : Nat) (hD : CallsAt W A' len') :
    Calls Try.prog 8 #[.int .u8 k, .slice A len cap, .slice A' len' cap'] W fun e w' => e = .returned (.bool true) ∧ Below W.heap.size W w' :=
  objectForks_walk0 W k (bounds_u8 hk).1 (bounds_u8 hk).2 A len cap hC A' len' cap' hD
end Go.Proofs.Ytolnfhaejnmlnaa
