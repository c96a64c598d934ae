
/-
  New objects; what is live.
-/
import Derived.Test.YtolnfhaejnmlnaaObj2
import Derived.Test.YtolnfhaejnmlnaaObj3
import Derived.Test.YtolnfhaejnmlnaaObj4
namespace Go.Proofs.Ytolnfhaejnmlnaa
open Go.RowKit
set_option linter.unusedSimpArgs false
set_option linter.unusedVariables false

def NewAt (At : World → Nat → Nat → Prop) (w : World) (e : Ending) (w' : World) : Prop := ∃ p a, e = .returned (.pointer (some ⟨p, 0, none⟩)) ∧ At w' p a ∧ Below w.heap.size w w' ∧ w.heap.size ≤ p ∧ w.heap.size ≤ a
theorem two_new (w : World) (A B C : Obj) : (((w.alloc A).alloc B).alloc C).heap[w.heap.size + 1 + 1]? = some C ∧ (((w.alloc A).alloc B).alloc C).heap[w.heap.size + 1]? = some B := by
  refine ⟨(congrArg _ (by simp)).trans (heap_alloc_new ((w.alloc A).alloc B) C), hp_alloc ((congrArg _ (by simp)).trans (heap_alloc_new (w.alloc A) B)) C⟩
theorem newMu (w : World) : Calls Try.prog 9 #[.int .u8 1, .int .i64 0] w (NewAt (fun w p a => muAt w p a (-1)) w) := by
  go_enter Try.func9, Try.ntmps9
  go_wp2
  go_ret
  exact ⟨w.heap.size + 1 + 1, w.heap.size + 1, rfl, ⟨(two_new w _ _ _).1, (two_new w _ _ _).2⟩, (((Below.refl _ _).alloc (Nat.le_refl _) _).alloc (by simp) _).alloc (by simp; omega) _, by omega, by omega⟩
theorem newSe (n : Int) (h0 : 0 ≤ n) (h1 : n ≤ 9) (w : World) : Calls Try.prog 9 #[.int .u8 2, .int .i64 n] w (NewAt (fun w p a => seAt w p a n) w) := by
  go_enter Try.func9, Try.ntmps9
  go_wp2
  go_ret
  exact ⟨w.heap.size + 1 + 1, w.heap.size + 1, rfl, ⟨(two_new w _ _ _).1, ⟨(two_new w _ _ _).2, by omega⟩⟩, (((Below.refl _ _).alloc (Nat.le_refl _) _).alloc (by simp) _).alloc (by simp; omega) _, by omega, by omega⟩
theorem newBa (n : Int) (h0 : 1 ≤ n) (h1 : n ≤ 4) (w : World) : Calls Try.prog 9 #[.int .u8 4, .int .i64 n] w (NewAt (fun w p a => baAt w p a (n, 0, 0)) w) := by
  go_enter Try.func9, Try.ntmps9
  go_wp2
  go_ret
  exact ⟨w.heap.size + 1 + 1, w.heap.size + 1, rfl, ⟨(two_new w _ _ _).1, (two_new w _ _ _).2⟩, (((Below.refl _ _).alloc (Nat.le_refl _) _).alloc (by simp) _).alloc (by simp; omega) _, by omega, by omega⟩

theorem shape_f0 (o n g : Int) (A : Option Addr) (l c : Nat) (w : World) : (Instr.field 38 (.agg #[.int .i64 o, .int .i64 n, .int .i64 g, .slice A l c]) 0).run Try.prog w = .ok (.int .i64 o) w := by kernel_rfl
theorem shape_f1 (o n g : Int) (A : Option Addr) (l c : Nat) (w : World) : (Instr.field 38 (.agg #[.int .i64 o, .int .i64 n, .int .i64 g, .slice A l c]) 1).run Try.prog w = .ok (.int .i64 n) w := by kernel_rfl
theorem shape_f2 (o n g : Int) (A : Option Addr) (l c : Nat) (w : World) : (Instr.field 38 (.agg #[.int .i64 o, .int .i64 n, .int .i64 g, .slice A l c]) 2).run Try.prog w = .ok (.int .i64 g) w := by kernel_rfl
theorem shape_f3 (o n g : Int) (A : Option Addr) (l c : Nat) (w : World) : (Instr.field 38 (.agg #[.int .i64 o, .int .i64 n, .int .i64 g, .slice A l c]) 3).run Try.prog w = .ok (.slice A l c) w := by kernel_rfl
theorem w64_0 : W64 0 := ⟨by decide, by decide⟩
theorem gb_to_below {B a : Nat} {w w1 w2 : World} (h : Below B w w1) (hB : B ≤ w1.heap.size) (k : w1.grownBy w2 (some a)) (ha : B ≤ a) : Below B w w2 := h.grown k hB (fun j hj => by cases hj; exact ha)
theorem live_any (w : World) : Calls Try.prog 10 #[] w fun e w' => e = .returned (.bool true) ∧ Below w.heap.size w w' := by
  go_enter Try.func10, Try.ntmps10
  go_wp2_with (go_at_call 9; refine (newMu _).mono ?_; rintro e w1 ⟨p, a, rfl, H, hb, hp, ha⟩)
  have HH := Lib.hid H
  have HB := Lib.hid hb
  clear H hb
  refine (muDo_any p a (-1) 1 0 0 w64_0 w1 HH.out).mono ?_
  rintro e u1 ⟨he, H1, g1⟩
  rw [show muDo 1 0 0 (-1) = (aOne, 0) from rfl] at he H1
  simp only [ansV, aOne, aBlocks, aErr] at he
  subst he
  have B1 := Lib.hid (gb_to_below HB.out HB.out.size g1 ha)
  have G1 := Lib.hid H1
  clear H1 g1
  go_wp2_with fail
  have X1 := heap_alloc_new u1 (Obj.cells #[Value.int IntKind.u64 4607182418800017408, Value.bool false, Value.int IntKind.i64 0] 32)
  have H1 := muAt_alloc G1.out (Obj.cells #[Value.int IntKind.u64 4607182418800017408, Value.bool false, Value.int IntKind.i64 0] 32)
  have C1 := B1.out.alloc (B1.out.size) (Obj.cells #[Value.int IntKind.u64 4607182418800017408, Value.bool false, Value.int IntKind.i64 0] 32)
  generalize u1.alloc (Obj.cells #[Value.int IntKind.u64 4607182418800017408, Value.bool false, Value.int IntKind.i64 0] 32) = v1 at *
  refine (muDo_any p a (0) 1 1 0 w64_0 v1 H1).mono ?_
  rintro e u2 ⟨he, H2, g2⟩
  rw [show muDo 1 1 0 (0) = (aBlocks, 0) from rfl] at he H2
  simp only [ansV, aOne, aBlocks, aErr] at he
  subst he
  have Y1 := Lib.hid (hp_grown X1 g2 (by simpa using hp_ne X1 H1.2 (by decide)))
  have B2 := Lib.hid (gb_to_below C1 C1.size g2 ha)
  have G2 := Lib.hid H2
  clear H2 g2 X1 H1 C1
  go_wp2_with fail
  have X2 := heap_alloc_new u2 (Obj.cells #[Value.int IntKind.u64 0, Value.bool true, Value.int IntKind.i64 0] 32)
  have H2 := muAt_alloc G2.out (Obj.cells #[Value.int IntKind.u64 0, Value.bool true, Value.int IntKind.i64 0] 32)
  have C2 := B2.out.alloc (B2.out.size) (Obj.cells #[Value.int IntKind.u64 0, Value.bool true, Value.int IntKind.i64 0] 32)
  have X1_ := hp_alloc Y1.out (Obj.cells #[Value.int IntKind.u64 0, Value.bool true, Value.int IntKind.i64 0] 32)
  generalize u2.alloc (Obj.cells #[Value.int IntKind.u64 0, Value.bool true, Value.int IntKind.i64 0] 32) = v2 at *
  refine (muDo_any p a (0) 2 1 0 w64_0 v2 H2).mono ?_
  rintro e u3 ⟨he, H3, g3⟩
  rw [show muDo 2 1 0 (0) = (aErr 0, 0) from rfl] at he H3
  simp only [ansV, aOne, aBlocks, aErr] at he
  subst he
  have Z1 := Lib.hid (hp_grown X1_ g3 (by simpa using hp_ne X1_ H2.2 (by decide)))
  have Z2 := Lib.hid (hp_grown X2 g3 (by simpa using hp_ne X2 H2.2 (by decide)))
  have B3 := Lib.hid (gb_to_below C2 C2.size g3 ha)
  have G3 := Lib.hid H3
  clear H3 g3 X1_ X2 H2 C2
  have x1 : u3.cell? ⟨u1.heap.size, 0, none⟩ = some (.int .u64 4607182418800017408) := hp_cell Z1.out 0
  have x2 : u3.cell? ⟨u2.heap.size, 1, none⟩ = some (.bool true) := hp_cell Z2.out 1
  have qf := shape_f0 0 0 0 none 0 0
  have q1 := hp_lt Z1.out
  have q2 := hp_lt Z2.out
  go_wp2_with (first | (go_at_call 12; refine (muShape p a 0 _ (muAt_alloc G3.out _)).mono ?_; rintro e u4 ⟨rfl, hb⟩; have B4 := Lib.hid ((B3.out.alloc B3.out.size _).trans (hb.mono (by have := B3.out.size; simp; omega))); have G4 := Lib.hid (muAt_below (muAt_alloc G3.out _) hb); clear hb) | (go_at_call 24; refine (muKind p a 0 _ G4.out).mono ?_; rintro e w' ⟨rfl, rfl⟩))
  go_ret
  exact ⟨rfl, B4.out⟩

end Go.Proofs.Ytolnfhaejnmlnaa
