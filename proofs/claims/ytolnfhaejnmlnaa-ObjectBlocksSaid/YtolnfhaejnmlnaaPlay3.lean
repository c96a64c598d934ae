
/-
  play: calls on both.
-/
import Derived.Test.YtolnfhaejnmlnaaPlay2
import Derived.Test.YtolnfhaejnmlnaaCalls
import Derived.LoopTactic
import Derived.Outline
namespace Go.Proofs.Ytolnfhaejnmlnaa
open Go.RowKit
set_option linter.unusedSimpArgs false
set_option linter.unusedVariables false

theorem kind_any (k : Int) (h0 : 0 ≤ k) (h1 : k ≤ 255) (w : World) : Calls Try.prog 28 #[.int .u8 k] w fun e w' => e = .returned (.int .u8 (1 + k % 4)) ∧ w = w' := by
  go_enter Try.func28, Try.ntmps28
  go_wp2
  go_ret
  exact ⟨rfl, rfl⟩
theorem o_nilB {B : Nat} {w : World} {x : Value} {st : St} (H : OAt B w x st) : ∃ q : Option Addr, x = .pointer q ∧ q.isNone = (match st with | .nil => true | _ => false) := by
  cases st with
  | nil => exact ⟨none, H, rfl⟩
  | mu o => obtain ⟨p, a, rfl, _⟩ := H; exact ⟨_, rfl, rfl⟩
  | se n => obtain ⟨p, a, rfl, _⟩ := H; exact ⟨_, rfl, rfl⟩
  | qu size l => obtain ⟨p, a, rfl, _⟩ := H; exact ⟨_, rfl, rfl⟩
  | ba s => obtain ⟨p, a, rfl, _⟩ := H; exact ⟨_, rfl, rfl⟩
theorem r_nilB {B : Nat} {w : World} {x : Value} {st : St} (H : RAt B w x st) : ∃ q : Option Addr, x = .pointer q ∧ q.isNone = (match st with | .nil => true | _ => false) := by
  cases st with
  | nil => exact ⟨none, H, rfl⟩
  | mu o => obtain ⟨r, rfl, _⟩ := H; exact ⟨_, rfl, rfl⟩
  | se n => obtain ⟨r, _, rfl, _⟩ := H; exact ⟨_, rfl, rfl⟩
  | qu size l => obtain ⟨r, rfl, _⟩ := H; exact ⟨_, rfl, rfl⟩
  | ba s => obtain ⟨r, rfl, _⟩ := H; exact ⟨_, rfl, rfl⟩
/-- Both, in one state. -/
def Both (W : World) (x y : Value) (st : St) (w : World) : Prop := OAt W.heap.size w x st ∧ RAt W.heap.size w y st ∧ Below W.heap.size W w
theorem Both.below {W w w1 : World} {x y : Value} {st : St} (h : Both W x y st w) (hb : Below w.heap.size w w1) : Both W x y st w1 := ⟨OAt_below h.1 hb, RAt_below h.2.1 hb, h.2.2.trans (hb.mono h.2.2.size)⟩
theorem OAt_less {B B' : Nat} {w : World} {x : Value} {st : St} (h : OAt B w x st) (hB : B' ≤ B) : OAt B' w x st := by
  cases st with
  | nil => exact h
  | mu o => obtain ⟨p, a, e, h, k⟩ := h; exact ⟨p, a, e, h, by omega⟩
  | se n => obtain ⟨p, a, e, h, k⟩ := h; exact ⟨p, a, e, h, by omega⟩
  | qu size l => obtain ⟨p, a, e, h, k⟩ := h; exact ⟨p, a, e, h, by omega⟩
  | ba s => obtain ⟨p, a, e, h, k⟩ := h; exact ⟨p, a, e, h, by omega⟩
theorem RAt_less {B B' : Nat} {w : World} {x : Value} {st : St} (h : RAt B w x st) (hB : B' ≤ B) : RAt B' w x st := by
  cases st with
  | nil => exact h
  | mu o => obtain ⟨r, e, h, k⟩ := h; exact ⟨r, e, h, by omega⟩
  | se n => obtain ⟨r, size, e, h, k, q⟩ := h; exact ⟨r, size, e, h, by omega, q⟩
  | qu size l => obtain ⟨r, e, h, k⟩ := h; exact ⟨r, e, h, by omega⟩
  | ba s => obtain ⟨r, e, h, k⟩ := h; exact ⟨r, e, h, by omega⟩
theorem oDo_as {B : Nat} {w : World} {x : Value} {st st' : St} {c who v av ae : Int} {ab : Bool} (hv : W64 v) (hr : stDo c who v st = ((av, ab, ae), st')) (H : OAt B w x st) :
    Calls Try.prog 11 #[x, .agg #[.int .u8 c, .int .i64 who, .int .u64 v]] w fun e w' => e = .returned (.agg #[.int .u64 av, .bool ab, .int .i64 ae]) ∧ OAt B w' x st' ∧ Touch tO B w w' := by
  have h := oDo_any c who v hv w H
  rw [hr] at h
  exact h
theorem rDo_as {B : Nat} {w : World} {x : Value} {st st' : St} {c who v av ae : Int} {ab : Bool} (hv : W64 v) (hr : stDo c who v st = ((av, ab, ae), st')) (H : RAt B w x st) :
    Calls Try.prog 22 #[x, .agg #[.int .u8 c, .int .i64 who, .int .u64 v]] w fun e w' => e = .returned (.agg #[.int .u64 av, .bool ab, .int .i64 ae]) ∧ RAt B w' x st' ∧ Touch tR B w w' := by
  have h := rDo_any c who v hv w H
  rw [hr] at h
  exact h
def PlayPost (W : World) (e : Ending) (w' : World) : Prop := ∃ x y st, e = .returned (.tuple #[x, y, .bool true]) ∧ Both W x y st w'

set_option maxHeartbeats 8000000 in
set_option maxRecDepth 100000 in
theorem play_any (W : World) (k : Int) (k0 : 0 ≤ k) (k1 : k ≤ 255) (size : Int) (A : Option Addr) (len cap : Nat) (hC : CallsAt W A len) :
    Calls Try.prog 15 #[.int .u8 k, .int .i64 size, .slice A len cap] W (PlayPost W) := by
  have HC := Lib.hid hC
  have hlm : len ≤ 9223372036854775807 := by have := hC.1; unfold maxLen at this; omega
  clear hC
  go_enter Try.func15, Try.ntmps15
  go_wp2_with (first | (go_at_call 28; ((with_reducible refine (kind_any k k0 k1 _).mono ?_); rintro e w' ⟨rfl, rfl⟩)) | (go_at_call 9; ((with_reducible refine (oNewSt (1 + k % 4) size _).mono ?_); rintro e w1 ⟨x, rfl, ho, hb1⟩); have HO := Lib.hid ho; have HB1 := Lib.hid hb1; clear ho hb1) | (go_at_call 29; ((with_reducible refine (rNewSt (1 + k % 4) size _).mono ?_); rintro e w2 ⟨y, rfl, hr, hb2⟩); have R2 := Lib.hid (show Both W x y (stNew (1 + k % 4) size) w2 from ⟨OAt_below HO.out hb2, RAt_less hr HB1.out.size, HB1.out.trans (hb2.mono HB1.out.size)⟩); clear hr hb2))
  go_loopw [11] (fun i wr => ∃ (j : Nat) (st : St), j ≤ 60 ∧ i = .int .i64 j ∧ Hid (Both W x y st wr)) (fun i _ => 60 - (intOf i).toNat)
  case atStart => exact ⟨0, _, by omega, rfl, R2⟩
  case round =>
    clear R2
    obtain ⟨j, st, hj, rfl, HR⟩ := hrel
    by_cases hlt : j < len ∧ j < 60
    · obtain ⟨ad, c, who, v, rfl, hca⟩ := HC.out.2 j hlt.1
      have CA := Lib.hid hca
      have hv : W64 v := hca.2.2.1
      clear hca
      obtain ⟨hl, h60⟩ := hlt
      have t1 : decide (j < len) = true := decide_eq_true hl
      have t1' : decide ((j : Int) < (len : Int)) = true := decide_eq_true (by omega)
      have t2 : decide ((j : Int) < 60) = true := decide_eq_true (by omega)
      have t3 : (j : Int) < (len : Int) := by omega
      have t4 : (0 : Int) ≤ (j : Int) := by omega
      have c0 := (callAt_below CA.out HR.out.2.2).2.2.2.1
      have c1 := (callAt_below CA.out HR.out.2.2).2.2.2.2.1
      have c2 := (callAt_below CA.out HR.out.2.2).2.2.2.2.2
      obtain ⟨⟨⟨av, ab, ae⟩, st'⟩, hm⟩ : ∃ r, stDo c who v st = r := ⟨_, rfl⟩
      have HM := Lib.hid hm
      clear hm
      have HD := Lib.hid (show Both W x y st wr.drew from HR.out.below ⟨rfl, rfl, rfl, Nat.le_refl _, fun _ _ => rfl⟩)
      go_wp2_with fail
      go_region_law (first | (go_simp; go_at_call 11; refine (oDo_as hv HM.out HD.out.1).mono ?_; rintro e v1 ⟨rfl, h1, g1⟩; have O1 := Lib.hid h1; have T1 := Lib.hid (show Below W.heap.size W v1 from Touch.below g1 HD.out.2.2); have R1 := Lib.hid (RAt_touch HD.out.2.1 g1); have c0' := (callAt_below CA.out T1.out).2.2.2.1; have c1' := (callAt_below CA.out T1.out).2.2.2.2.1; have c2' := (callAt_below CA.out T1.out).2.2.2.2.2; clear h1 g1) | (go_simp; go_at_call 22; refine (rDo_as hv HM.out R1.out).mono ?_; rintro e v2 ⟨rfl, h2, g2⟩; have B2 := Lib.hid (show Both W x y st' v2 from ⟨OAt_touch O1.out g2, h2, Touch.below g2 T1.out⟩); clear h2 g2))
      all_goals
        clear c0 c1 c2 c0' c1' c2' HR HD O1 T1 R1
        go_wp2_with fail
        go_roundw
        case rel => exact ⟨j + 1, st', by omega, by go_num, B2⟩
        case measure => simp [intOf]; omega
    · have t : decide (j < len) = false ∨ decide (j < len) = true ∧ decide ((j : Int) < 60) = false := by
        by_cases h : j < len
        · exact .inr ⟨decide_eq_true h, decide_eq_false (by omega)⟩
        · exact .inl (decide_eq_false h)
      have hxy : (x = .pointer none ∧ y = .pointer none) ∨ (∃ a b, x = .pointer (some a) ∧ y = .pointer (some b)) := by
        have h1 := HR.out.1
        have h2 := HR.out.2.1
        cases st with
        | nil => exact .inl ⟨h1, h2⟩
        | mu o => obtain ⟨p, a, e, _⟩ := h1; obtain ⟨r, e', _⟩ := h2; exact .inr ⟨_, _, e, e'⟩
        | se n => obtain ⟨p, a, e, _⟩ := h1; obtain ⟨r, _, e', _⟩ := h2; exact .inr ⟨_, _, e, e'⟩
        | qu size l => obtain ⟨p, a, e, _⟩ := h1; obtain ⟨r, e', _⟩ := h2; exact .inr ⟨_, _, e, e'⟩
        | ba s => obtain ⟨p, a, e, _⟩ := h1; obtain ⟨r, e', _⟩ := h2; exact .inr ⟨_, _, e, e'⟩
      rcases t with t1 | ⟨t1, t2⟩ <;> rcases hxy with ⟨rfl, rfl⟩ | ⟨a, b, rfl, rfl⟩
      all_goals
        go_wp2_with fail
        go_ret3
        exact ⟨_, _, st, rfl, HR.out⟩
end Go.Proofs.Ytolnfhaejnmlnaa
