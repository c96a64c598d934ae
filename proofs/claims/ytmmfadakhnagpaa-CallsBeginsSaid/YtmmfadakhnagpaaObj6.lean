
/-
  New objects; what is live.
-/
import Derived.Test.YtmmfadakhnagpaaObj2
import Derived.Test.YtmmfadakhnagpaaObj3
import Derived.Test.YtmmfadakhnagpaaObj4
namespace Go.Proofs.Ytmmfadakhnagpaa
open Go.RowKit
set_option linter.unusedSimpArgs false
set_option linter.unusedVariables false

def NewAt (At : World → Nat → Nat → Prop) (w : World) (e : Ending) (w' : World) : Prop := ∃ p a, e = .returned (.pointer (some ⟨p, 0, none⟩)) ∧ At w' p a ∧ Below w.heap.size w w' ∧ w.heap.size ≤ p ∧ w.heap.size ≤ a
theorem two_new (w : World) (A B C : Obj) : (((w.alloc A).alloc B).alloc C).heap[w.heap.size + 1 + 1]? = some C ∧ (((w.alloc A).alloc B).alloc C).heap[w.heap.size + 1]? = some B := by
  refine ⟨(congrArg _ (by simp)).trans (heap_alloc_new ((w.alloc A).alloc B) C), hp_alloc ((congrArg _ (by simp)).trans (heap_alloc_new (w.alloc A) B)) C⟩
theorem newMu (w : World) : Calls Try.prog 18 #[.int .u8 1, .int .i64 0] w (NewAt (fun w p a => muAt w p a (-1)) w) := by
  go_enter Try.func18, Try.ntmps18
  go_wp2
  go_ret
  exact ⟨w.heap.size + 1 + 1, w.heap.size + 1, rfl, ⟨(two_new w _ _ _).1, (two_new w _ _ _).2⟩, (((Below.refl _ _).alloc (Nat.le_refl _) _).alloc (by simp) _).alloc (by simp; omega) _, by omega, by omega⟩
theorem newSe (n : Int) (h0 : 0 ≤ n) (h1 : n ≤ 9) (w : World) : Calls Try.prog 18 #[.int .u8 2, .int .i64 n] w (NewAt (fun w p a => seAt w p a n) w) := by
  go_enter Try.func18, Try.ntmps18
  go_wp2
  go_ret
  exact ⟨w.heap.size + 1 + 1, w.heap.size + 1, rfl, ⟨(two_new w _ _ _).1, ⟨(two_new w _ _ _).2, by omega⟩⟩, (((Below.refl _ _).alloc (Nat.le_refl _) _).alloc (by simp) _).alloc (by simp; omega) _, by omega, by omega⟩
theorem newBa (n : Int) (h0 : 1 ≤ n) (h1 : n ≤ 4) (w : World) : Calls Try.prog 18 #[.int .u8 4, .int .i64 n] w (NewAt (fun w p a => baAt w p a (n, 0, 0)) w) := by
  go_enter Try.func18, Try.ntmps18
  go_wp2
  go_ret
  exact ⟨w.heap.size + 1 + 1, w.heap.size + 1, rfl, ⟨(two_new w _ _ _).1, (two_new w _ _ _).2⟩, (((Below.refl _ _).alloc (Nat.le_refl _) _).alloc (by simp) _).alloc (by simp; omega) _, by omega, by omega⟩

theorem shape_f0 (o n g : Int) (A : Option Addr) (l c : Nat) (w : World) : (Instr.field 42 (.agg #[.int .i64 o, .int .i64 n, .int .i64 g, .slice A l c]) 0).run Try.prog w = .ok (.int .i64 o) w := by kernel_rfl
theorem shape_f1 (o n g : Int) (A : Option Addr) (l c : Nat) (w : World) : (Instr.field 42 (.agg #[.int .i64 o, .int .i64 n, .int .i64 g, .slice A l c]) 1).run Try.prog w = .ok (.int .i64 n) w := by kernel_rfl
theorem shape_f2 (o n g : Int) (A : Option Addr) (l c : Nat) (w : World) : (Instr.field 42 (.agg #[.int .i64 o, .int .i64 n, .int .i64 g, .slice A l c]) 2).run Try.prog w = .ok (.int .i64 g) w := by kernel_rfl
theorem shape_f3 (o n g : Int) (A : Option Addr) (l c : Nat) (w : World) : (Instr.field 42 (.agg #[.int .i64 o, .int .i64 n, .int .i64 g, .slice A l c]) 3).run Try.prog w = .ok (.slice A l c) w := by kernel_rfl
theorem w64_0 : W64 0 := ⟨by decide, by decide⟩
theorem gb_to_below {B a : Nat} {w w1 w2 : World} (h : Below B w w1) (hB : B ≤ w1.heap.size) (k : w1.grownBy w2 (some a)) (ha : B ≤ a) : Below B w w2 := h.grown k hB (fun j hj => by cases hj; exact ha)
end Go.Proofs.Ytmmfadakhnagpaa
