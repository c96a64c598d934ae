
/-
  rowlocklaw20.ObjectPlays: for every kind, size and slice of calls it returns true.
-/
import Derived.Test.YtolnfhaejnmlnaaPlay3
import Derived.Test.YtolnfhaejnmlnaaRef7
import Derived.Test.YtolnfhaejnmlnaaObj6
import Derived.LoopTactic
namespace Go.Proofs.Ytolnfhaejnmlnaa
open Go.RowKit
set_option linter.unusedSimpArgs false
set_option linter.unusedVariables false

theorem sh_short {B : Nat} {w : World} {x : Value} {st : St} (H : RAt B w x st) : (shOf st).2.2.2.length ≤ 1000 := by
  cases st with
  | qu size l => obtain ⟨r, _, h, _⟩ := H; have := h.2.1.1; simp only [shOf]; omega
  | _ => simp [shOf]
set_option maxHeartbeats 4000000 in
set_option maxRecDepth 100000 in
theorem bothSame (W w : World) (x y : Value) (st : St) (H : Both W x y st w) : Calls Try.prog 16 #[x, y] w fun e w' => e = .returned (.bool true) ∧ Both W x y st w' := by
  have HB := Lib.hid H
  have hs := sh_short H.2.1
  clear H
  go_enter Try.func16, Try.ntmps16
  go_wp2_with fail
  go_loopw [5] (fun v wr => ∃ c : Nat, c ≤ 10 ∧ v = .int .u8 c ∧ wr = w) (fun v _ => 10 - (intOf v).toNat)
  case atStart => exact ⟨0, by omega, rfl, rfl⟩
  case round =>
    obtain ⟨c, hc, rfl, rfl⟩ := hrel
    by_cases hlt : c ≤ 9
    · have t1 : decide ((c : Int) ≤ 9) = true := decide_eq_true (by omega)
      go_wp2_with (first | (go_at_call 25; refine (oTakes_any (c : Int) HB.out.1).mono ?_; rintro e w' ⟨rfl, rfl⟩) | (go_at_call 30; refine (rTakes_any (c : Int) HB.out.2.1).mono ?_; rintro e w' ⟨rfl, rfl⟩))
      go_roundw
      case rel => exact ⟨c + 1, by omega, by go_num, trivial⟩
      case measure => simp [intOf]; omega
    · have t1 : decide ((c : Int) ≤ 9) = false := decide_eq_false (by omega)
      go_wp2_with (first | (go_at_call 12; refine (oShape_any HB.out.1).mono ?_; rintro e w1 ⟨⟨A1, c1, rfl, v1⟩, hb1⟩; have V1 := Lib.hid v1; have B1 := Lib.hid (HB.out.below hb1); clear v1 hb1) | (go_at_call 31; refine (rShape_any B1.out.2.1).mono ?_; rintro e w2 ⟨⟨A2, c2, rfl, v2⟩, hb2⟩; have V2 := Lib.hid v2; have V1' := Lib.hid (vals_below V1.out hb2); have B2 := Lib.hid (B1.out.below hb2); clear v2 hb2) | (go_at_call 19; refine (sameShape_any _ _ _ A1 A2 c1 c2 (shOf st).2.2.2 (shOf st).2.2.2 _ V1'.out V2.out hs hs).mono ?_; rintro e w3 ⟨he, hb3⟩; rw [decide_eq_true rfl] at he; subst he; have B3 := Lib.hid (B2.out.below hb3); clear hb3) | (go_at_call 24; refine (oKind_any B3.out.1).mono ?_; rintro e w' ⟨rfl, rfl⟩) | (go_at_call 32; refine (rKind_any B3.out.2.1).mono ?_; rintro e w' ⟨rfl, rfl⟩))
      go_ret
      exact ⟨by simp, B3.out⟩
set_option maxHeartbeats 4000000 in
set_option maxRecDepth 100000 in
theorem objectPlays_walk0 (W : World) (k : Int) (k0 : 0 ≤ k) (k1 : k ≤ 255) (size : Int) (A : Option Addr) (len cap : Nat) (hC : CallsAt W A len) :
    Calls Try.prog 6 #[.int .u8 k, .int .i64 size, .slice A len cap] W fun e w' => e = .returned (.bool true) ∧ Below W.heap.size W w' := by
  have HC := Lib.hid hC
  clear hC
  go_enter Try.func6, Try.ntmps6
  go_wp2_with (first | (go_at_call 15; refine (play_any W k k0 k1 size A len cap HC.out).mono ?_; rintro e w1 ⟨x, y, st, rfl, hb⟩; have B1 := Lib.hid hb; clear hb) | (go_at_call 10; refine (live_any _).mono ?_; rintro e w2 ⟨rfl, hb2⟩; have B2 := Lib.hid (B1.out.below hb2); clear hb2) | (go_at_call 16; refine (bothSame W w2 x y st B2.out).mono ?_; rintro e w3 ⟨rfl, hb3⟩; have B3 := Lib.hid hb3; clear hb3))
  go_ret
  exact ⟨rfl, B3.out.2.2⟩
theorem objectPlays_walk (W : World) (k : Int) (hk : (Lit.int .u8 k).wf = true) (size : Int) (hs : (Lit.int .i64 size).wf = true) (A : Option Addr) (len cap : Nat) (hC : CallsAt W A len) :
    Calls Try.prog 6 #[.int .u8 k, .int .i64 size, .slice A len cap] W fun e w' => e = .returned (.bool true) ∧ Below W.heap.size W w' :=
  objectPlays_walk0 W k (bounds_u8 hk).1 (bounds_u8 hk).2 size A len cap hC
end Go.Proofs.Ytolnfhaejnmlnaa
