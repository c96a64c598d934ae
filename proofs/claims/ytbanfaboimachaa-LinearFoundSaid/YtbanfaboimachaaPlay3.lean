
/-
  play: calls on both.
-/
import Derived.Test.YtbanfaboimachaaPlay2
import Derived.Test.YtbanfaboimachaaCalls
import Derived.LoopTactic
import Derived.Outline
namespace Go.Proofs.Ytbanfaboimachaa
open Go.RowKit
set_option linter.unusedSimpArgs false
set_option linter.unusedVariables false

theorem o_nilB {B : Nat} {w : World} {x : Value} {st : St} (H : OAt B w x st) : ∃ q : Option Addr, x = .pointer q ∧ q.isNone = (match st with | .nil => true | _ => false) := by
  cases st with
  | nil => exact ⟨none, H, rfl⟩
  | mu o => obtain ⟨p, a, rfl, _⟩ := H; exact ⟨_, rfl, rfl⟩
  | se n => obtain ⟨p, a, rfl, _⟩ := H; exact ⟨_, rfl, rfl⟩
  | qu size l => obtain ⟨p, a, rfl, _⟩ := H; exact ⟨_, rfl, rfl⟩
  | ba s => obtain ⟨p, a, rfl, _⟩ := H; exact ⟨_, rfl, rfl⟩
theorem r_nilB {B : Nat} {w : World} {x : Value} {st : St} (H : RAt B w x st) : ∃ q : Option Addr, x = .pointer q ∧ q.isNone = (match st with | .nil => true | _ => false) := by
  cases st with
  | nil => exact ⟨none, H, rfl⟩
  | mu o => obtain ⟨r, rfl, _⟩ := H; exact ⟨_, rfl, rfl⟩
  | se n => obtain ⟨r, _, rfl, _⟩ := H; exact ⟨_, rfl, rfl⟩
  | qu size l => obtain ⟨r, rfl, _⟩ := H; exact ⟨_, rfl, rfl⟩
  | ba s => obtain ⟨r, rfl, _⟩ := H; exact ⟨_, rfl, rfl⟩
/-- Both, in one state. -/
def Both (W : World) (x y : Value) (st : St) (w : World) : Prop := OAt W.heap.size w x st ∧ RAt W.heap.size w y st ∧ Below W.heap.size W w
theorem Both.below {W w w1 : World} {x y : Value} {st : St} (h : Both W x y st w) (hb : Below w.heap.size w w1) : Both W x y st w1 := ⟨OAt_below h.1 hb, RAt_below h.2.1 hb, h.2.2.trans (hb.mono h.2.2.size)⟩
theorem OAt_less {B B' : Nat} {w : World} {x : Value} {st : St} (h : OAt B w x st) (hB : B' ≤ B) : OAt B' w x st := by
  cases st with
  | nil => exact h
  | mu o => obtain ⟨p, a, e, h, k⟩ := h; exact ⟨p, a, e, h, by omega⟩
  | se n => obtain ⟨p, a, e, h, k⟩ := h; exact ⟨p, a, e, h, by omega⟩
  | qu size l => obtain ⟨p, a, e, h, k⟩ := h; exact ⟨p, a, e, h, by omega⟩
  | ba s => obtain ⟨p, a, e, h, k⟩ := h; exact ⟨p, a, e, h, by omega⟩
theorem RAt_less {B B' : Nat} {w : World} {x : Value} {st : St} (h : RAt B w x st) (hB : B' ≤ B) : RAt B' w x st := by
  cases st with
  | nil => exact h
  | mu o => obtain ⟨r, e, h, k⟩ := h; exact ⟨r, e, h, by omega⟩
  | se n => obtain ⟨r, size, e, h, k, q⟩ := h; exact ⟨r, size, e, h, by omega, q⟩
  | qu size l => obtain ⟨r, e, h, k⟩ := h; exact ⟨r, e, h, by omega⟩
  | ba s => obtain ⟨r, e, h, k⟩ := h; exact ⟨r, e, h, by omega⟩
theorem oDo_as {B : Nat} {w : World} {x : Value} {st st' : St} {c who v av ae : Int} {ab : Bool} (hv : W64 v) (hr : stDo c who v st = ((av, ab, ae), st')) (H : OAt B w x st) :
    Calls Try.prog 34 #[x, .agg #[.int .u8 c, .int .i64 who, .int .u64 v]] w fun e w' => e = .returned (.agg #[.int .u64 av, .bool ab, .int .i64 ae]) ∧ OAt B w' x st' ∧ Touch tO B w w' := by
  have h := oDo_any c who v hv w H
  rw [hr] at h
  exact h
theorem rDo_as {B : Nat} {w : World} {x : Value} {st st' : St} {c who v av ae : Int} {ab : Bool} (hv : W64 v) (hr : stDo c who v st = ((av, ab, ae), st')) (H : RAt B w x st) :
    Calls Try.prog 37 #[x, .agg #[.int .u8 c, .int .i64 who, .int .u64 v]] w fun e w' => e = .returned (.agg #[.int .u64 av, .bool ab, .int .i64 ae]) ∧ RAt B w' x st' ∧ Touch tR B w w' := by
  have h := rDo_any c who v hv w H
  rw [hr] at h
  exact h
def PlayPost (W : World) (e : Ending) (w' : World) : Prop := ∃ x y st, e = .returned (.tuple #[x, y, .bool true]) ∧ Both W x y st w'

end Go.Proofs.Ytbanfaboimachaa
