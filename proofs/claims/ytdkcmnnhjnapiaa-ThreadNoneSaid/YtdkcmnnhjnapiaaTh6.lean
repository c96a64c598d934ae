
/-
  A thread: Began.
-/
import Derived.Test.YtdkcmnnhjnapiaaTh4
namespace Go.Proofs.Ytdkcmnnhjnapiaa
open Go.RowKit Go.ChangeShapes Go.WideShapes
set_option linter.unusedSimpArgs false
set_option linter.unusedVariables false

def BeganPost (W w : World) (t f p n c : Nat) (l : List Ins3) (s : St) (A1 : Option Addr) (c1 : Nat) (x : Ending) (w' : World) : Prop := x = .returned (.int .i64 0) ∧ ∃ (b : Nat) (q0 q1 q2 q3 q4 q5 q6 : Value), w'.heap[t]? = some (.cells (thC f p n c (.iface 61 (.pointer (some ⟨b, 0, none⟩))) 0 0 0 0 0) 56 (0, 0)) ∧ w'.heap[b]? = some (.cells #[q0, q1, q2, q3, q4, q5, q6, .slice none 0 0] 67 (0, 0)) ∧ RsX W w' t f p l s A1 c1 ∧ TFr t f w w'
set_option maxRecDepth 20000 in
set_option maxHeartbeats 8000000 in
theorem began_any (W : World) (t f p n c : Nat) (iv : Value) (l : List Ins3) (s : St) (A1 : Option Addr) (c1 : Nat) (j : Nat) (hj : s.pc = (j : Int)) (hj64 : j ≤ 64) (hso : s.out = []) (hsl : s.stk.length ≤ 100) (w : World) (ht : w.heap[t]? = some (.cells (thC f p n c iv 1 0 0 0 0) 56 (0, 0))) (hr : RsX W w t f p l s A1 c1) :
    Calls Try.prog 6 #[.pointer (some ⟨t, 0, none⟩)] w (BeganPost W w t f p n c l { s with pc := (j : Int) + 1 } A1 c1) := by
  obtain ⟨spc, sk, la, lb, lc, ld, so⟩ := s
  simp only at hj hso hsl
  subst hj
  subst hso
  have HC := Lib.hid (show Calls Try.prog 23 #[.agg #[.int .i64 (j : Int), .slice A1 sk.length c1, .int .u64 la, .int .u64 lb, .int .u64 lc, .int .u64 ld, .slice none 0 0]] w (fun e w' => ∃ D1 g1 D2 g2, e = .returned (.agg #[.int .i64 (j : Int), .slice D1 sk.length g1, .int .u64 la, .int .u64 lb, .int .u64 lc, .int .u64 ld, .slice D2 0 g2]) ∧ Below w.heap.size w w') from (copied_th ⟨(j : Int), sk, la, lb, lc, ld, []⟩ A1 c1 none 0 w (Src.row hr.row (by simp only; omega)) (Src.row (row_nil w 0) (by simp))).mono (fun e w' h => by obtain ⟨a, b, c, d, h1, _, _, _, h2⟩ := h; exact ⟨a, b, c, d, h1, h2⟩))
  have T1 := Lib.hid ht
  have R1 := Lib.hid hr
  have G1 := Lib.hid (And.intro hr.bl.size (And.intro hr.bt hr.bf))
  have NE := Lib.hid (show t ≠ f from hp_ne ht hr.hf (by decide))
  have y0 : w.cell? ⟨t, 0, none⟩ = some (.pointer (some ⟨f, 0, none⟩)) := hp_cell (ht) 0; have yz0 := hp_frozen (ht) 0; have y1 : w.cell? ⟨t, 1, none⟩ = some (.slice (some ⟨p, 0, none⟩) n c) := hp_cell (ht) 1; have yz1 := hp_frozen (ht) 1; have y2 : w.cell? ⟨t, 2, none⟩ = some (iv) := hp_cell (ht) 2; have yz2 := hp_frozen (ht) 2; have y3 : w.cell? ⟨t, 3, none⟩ = some (.int .u8 1) := hp_cell (ht) 3; have yz3 := hp_frozen (ht) 3; have y4 : w.cell? ⟨t, 4, none⟩ = some (.int .u8 0) := hp_cell (ht) 4; have yz4 := hp_frozen (ht) 4; have y5 : w.cell? ⟨t, 5, none⟩ = some (.int .i64 0) := hp_cell (ht) 5; have yz5 := hp_frozen (ht) 5; have y6 : w.cell? ⟨t, 6, none⟩ = some (.int .u64 0) := hp_cell (ht) 6; have yz6 := hp_frozen (ht) 6; have y7 : w.cell? ⟨t, 7, none⟩ = some (.int .i64 0) := hp_cell (ht) 7; have yz7 := hp_frozen (ht) 7; have y8 : w.cell? ⟨t, 8, none⟩ = some (.slice none 0 0) := hp_cell (ht) 8; have yz8 := hp_frozen (ht) 8; have yl := hp_lt (ht)
  have x0 : w.cell? ⟨f, 0, none⟩ = some (.int .i64 (j : Int)) := hp_cell (hr.hf) 0; have xz0 := hp_frozen (hr.hf) 0; have x1 : w.cell? ⟨f, 1, none⟩ = some (.slice A1 sk.length c1) := hp_cell (hr.hf) 1; have xz1 := hp_frozen (hr.hf) 1; have x2 : w.cell? ⟨f, 2, none⟩ = some (.int .u64 la) := hp_cell (hr.hf) 2; have xz2 := hp_frozen (hr.hf) 2; have x3 : w.cell? ⟨f, 3, none⟩ = some (.int .u64 lb) := hp_cell (hr.hf) 3; have xz3 := hp_frozen (hr.hf) 3; have x4 : w.cell? ⟨f, 4, none⟩ = some (.int .u64 lc) := hp_cell (hr.hf) 4; have xz4 := hp_frozen (hr.hf) 4; have x5 : w.cell? ⟨f, 5, none⟩ = some (.int .u64 ld) := hp_cell (hr.hf) 5; have xz5 := hp_frozen (hr.hf) 5; have x6 : w.cell? ⟨f, 6, none⟩ = some (.slice none 0 0) := hp_cell (hr.hf) 6; have xz6 := hp_frozen (hr.hf) 6; have xl := hp_lt (hr.hf)
  clear ht hr
  have d1 : wrap64 ((j : Int) + 1) = (j : Int) + 1 := by unfold wrap64; omega
  go_enter Try.func6, Try.ntmps6
  go_upto_region 6 with (go_at_call 23; refine HC.out.mono ?_; rintro x w1 ⟨D1, g1, D2, g2, rfl, hb⟩; have B1 := Lib.hid hb; clear hb; have T2 := Lib.hid (hp_below T1.out B1.out); clear y0 yz0 y1 yz1 y2 yz2 y3 yz3 y4 yz4 y5 yz5 y6 yz6 y7 yz7 y8 yz8 yl x0 xz0 x1 xz1 x2 xz2 x3 xz3 x4 xz4 x5 xz5 x6 xz6 xl; have y0 : w1.cell? ⟨t, 0, none⟩ = some (.pointer (some ⟨f, 0, none⟩)) := hp_cell (T2.out) 0; have yz0 := hp_frozen (T2.out) 0; have y1 : w1.cell? ⟨t, 1, none⟩ = some (.slice (some ⟨p, 0, none⟩) n c) := hp_cell (T2.out) 1; have yz1 := hp_frozen (T2.out) 1; have y2 : w1.cell? ⟨t, 2, none⟩ = some (iv) := hp_cell (T2.out) 2; have yz2 := hp_frozen (T2.out) 2; have y3 : w1.cell? ⟨t, 3, none⟩ = some (.int .u8 1) := hp_cell (T2.out) 3; have yz3 := hp_frozen (T2.out) 3; have y4 : w1.cell? ⟨t, 4, none⟩ = some (.int .u8 0) := hp_cell (T2.out) 4; have yz4 := hp_frozen (T2.out) 4; have y5 : w1.cell? ⟨t, 5, none⟩ = some (.int .i64 0) := hp_cell (T2.out) 5; have yz5 := hp_frozen (T2.out) 5; have y6 : w1.cell? ⟨t, 6, none⟩ = some (.int .u64 0) := hp_cell (T2.out) 6; have yz6 := hp_frozen (T2.out) 6; have y7 : w1.cell? ⟨t, 7, none⟩ = some (.int .i64 0) := hp_cell (T2.out) 7; have yz7 := hp_frozen (T2.out) 7; have y8 : w1.cell? ⟨t, 8, none⟩ = some (.slice none 0 0) := hp_cell (T2.out) 8; have yz8 := hp_frozen (T2.out) 8; have yl := hp_lt (T2.out))
  obtain ⟨b, hbq⟩ : ∃ b, w1.heap.size = b := ⟨_, rfl⟩
  rw [hbq]
  have zt := hp_lt T2.out
  have nbt : b ≠ t := by omega
  have R2 := R1.out.below B1.out
  have nbf : b ≠ f := by have := hp_lt R2.hf; omega
  have a0 := hp_put (cs' := #[.pointer (some ⟨f, 0, none⟩), .slice (some ⟨p, 0, none⟩) n c, .iface 61 (.pointer (some ⟨b, 0, none⟩)), .int .u8 1, .int .u8 0, .int .i64 0, .int .u64 0, .int .i64 0, .slice none 0 0]) T2.out 2 (.iface 61 (.pointer (some ⟨b, 0, none⟩))) (by simp [thC])
  have b0 := R2.set T2.out (by decide) (by decide) (by decide) R2.bt 2 (.iface 61 (.pointer (some ⟨b, 0, none⟩)))
  have e0 := TFr.trans (TFr.of (t := t) (f := f) B1.out) (TFr.setT (w1) 2 (.iface 61 (.pointer (some ⟨b, 0, none⟩))))
  have a1 := hp_put (cs' := #[.pointer (some ⟨f, 0, none⟩), .slice (some ⟨p, 0, none⟩) n c, .iface 61 (.pointer (some ⟨b, 0, none⟩)), .int .u8 1, .int .u8 0, .int .i64 0, .int .u64 0, .int .i64 0, .slice none 0 0]) a0 8 (.slice none 0 0) (by simp [thC])
  have b1 := b0.set a0 (by decide) (by decide) (by decide) b0.bt 8 (.slice none 0 0)
  have e1 := TFr.trans e0 (TFr.setT ((w1).setCell ⟨t, 2, none⟩ (.iface 61 (.pointer (some ⟨b, 0, none⟩)))) 8 (.slice none 0 0))
  have a2 := hp_put (cs' := #[.pointer (some ⟨f, 0, none⟩), .slice (some ⟨p, 0, none⟩) n c, .iface 61 (.pointer (some ⟨b, 0, none⟩)), .int .u8 0, .int .u8 0, .int .i64 0, .int .u64 0, .int .i64 0, .slice none 0 0]) a1 3 (.int .u8 0) (by simp [thC])
  have b2 := b1.set a1 (by decide) (by decide) (by decide) b1.bt 3 (.int .u8 0)
  have e2 := TFr.trans e1 (TFr.setT (((w1).setCell ⟨t, 2, none⟩ (.iface 61 (.pointer (some ⟨b, 0, none⟩)))).setCell ⟨t, 8, none⟩ (.slice none 0 0)) 3 (.int .u8 0))
  have a3 := hp_put (cs' := #[.pointer (some ⟨f, 0, none⟩), .slice (some ⟨p, 0, none⟩) n c, .iface 61 (.pointer (some ⟨b, 0, none⟩)), .int .u8 0, .int .u8 0, .int .i64 0, .int .u64 0, .int .i64 0, .slice none 0 0]) a2 4 (.int .u8 0) (by simp [thC])
  have b3 := b2.set a2 (by decide) (by decide) (by decide) b2.bt 4 (.int .u8 0)
  have e3 := TFr.trans e2 (TFr.setT ((((w1).setCell ⟨t, 2, none⟩ (.iface 61 (.pointer (some ⟨b, 0, none⟩)))).setCell ⟨t, 8, none⟩ (.slice none 0 0)).setCell ⟨t, 3, none⟩ (.int .u8 0)) 4 (.int .u8 0))
  have a4 := hp_put (cs' := #[.pointer (some ⟨f, 0, none⟩), .slice (some ⟨p, 0, none⟩) n c, .iface 61 (.pointer (some ⟨b, 0, none⟩)), .int .u8 0, .int .u8 0, .int .i64 0, .int .u64 0, .int .i64 0, .slice none 0 0]) a3 5 (.int .i64 0) (by simp [thC])
  have b4 := b3.set a3 (by decide) (by decide) (by decide) b3.bt 5 (.int .i64 0)
  have e4 := TFr.trans e3 (TFr.setT (((((w1).setCell ⟨t, 2, none⟩ (.iface 61 (.pointer (some ⟨b, 0, none⟩)))).setCell ⟨t, 8, none⟩ (.slice none 0 0)).setCell ⟨t, 3, none⟩ (.int .u8 0)).setCell ⟨t, 4, none⟩ (.int .u8 0)) 5 (.int .i64 0))
  have a5 := hp_put (cs' := #[.pointer (some ⟨f, 0, none⟩), .slice (some ⟨p, 0, none⟩) n c, .iface 61 (.pointer (some ⟨b, 0, none⟩)), .int .u8 0, .int .u8 0, .int .i64 0, .int .u64 0, .int .i64 0, .slice none 0 0]) a4 6 (.int .u64 0) (by simp [thC])
  have b5 := b4.set a4 (by decide) (by decide) (by decide) b4.bt 6 (.int .u64 0)
  have e5 := TFr.trans e4 (TFr.setT ((((((w1).setCell ⟨t, 2, none⟩ (.iface 61 (.pointer (some ⟨b, 0, none⟩)))).setCell ⟨t, 8, none⟩ (.slice none 0 0)).setCell ⟨t, 3, none⟩ (.int .u8 0)).setCell ⟨t, 4, none⟩ (.int .u8 0)).setCell ⟨t, 5, none⟩ (.int .i64 0)) 6 (.int .u64 0))
  have a6 := hp_put (cs' := #[.pointer (some ⟨f, 0, none⟩), .slice (some ⟨p, 0, none⟩) n c, .iface 61 (.pointer (some ⟨b, 0, none⟩)), .int .u8 0, .int .u8 0, .int .i64 0, .int .u64 0, .int .i64 0, .slice none 0 0]) a5 7 (.int .i64 0) (by simp [thC])
  have b6 := b5.set a5 (by decide) (by decide) (by decide) b5.bt 7 (.int .i64 0)
  have e6 := TFr.trans e5 (TFr.setT (((((((w1).setCell ⟨t, 2, none⟩ (.iface 61 (.pointer (some ⟨b, 0, none⟩)))).setCell ⟨t, 8, none⟩ (.slice none 0 0)).setCell ⟨t, 3, none⟩ (.int .u8 0)).setCell ⟨t, 4, none⟩ (.int .u8 0)).setCell ⟨t, 5, none⟩ (.int .i64 0)).setCell ⟨t, 6, none⟩ (.int .u64 0)) 7 (.int .i64 0))
  have hz : ((((((((w1).setCell ⟨t, 2, none⟩ (.iface 61 (.pointer (some ⟨b, 0, none⟩)))).setCell ⟨t, 8, none⟩ (.slice none 0 0)).setCell ⟨t, 3, none⟩ (.int .u8 0)).setCell ⟨t, 4, none⟩ (.int .u8 0)).setCell ⟨t, 5, none⟩ (.int .i64 0)).setCell ⟨t, 6, none⟩ (.int .u64 0)).setCell ⟨t, 7, none⟩ (.int .i64 0)).heap.size = b := by simp [hbq]
  have zz := (Below.refl ((((((((w1).setCell ⟨t, 2, none⟩ (.iface 61 (.pointer (some ⟨b, 0, none⟩)))).setCell ⟨t, 8, none⟩ (.slice none 0 0)).setCell ⟨t, 3, none⟩ (.int .u8 0)).setCell ⟨t, 4, none⟩ (.int .u8 0)).setCell ⟨t, 5, none⟩ (.int .i64 0)).setCell ⟨t, 6, none⟩ (.int .u64 0)).setCell ⟨t, 7, none⟩ (.int .i64 0)).heap.size ((((((((w1).setCell ⟨t, 2, none⟩ (.iface 61 (.pointer (some ⟨b, 0, none⟩)))).setCell ⟨t, 8, none⟩ (.slice none 0 0)).setCell ⟨t, 3, none⟩ (.int .u8 0)).setCell ⟨t, 4, none⟩ (.int .u8 0)).setCell ⟨t, 5, none⟩ (.int .i64 0)).setCell ⟨t, 6, none⟩ (.int .u64 0)).setCell ⟨t, 7, none⟩ (.int .i64 0))).alloc (Nat.le_refl _) (.cells #[.int .i64 (j : Int), .slice D1 sk.length g1, .int .u64 la, .int .u64 lb, .int .u64 lc, .int .u64 ld, .slice D2 0 g2, .slice none 0 0] 67)
  have T3 := Lib.hid (hp_below a6 zz)
  have R3 := Lib.hid (b6.below zz)
  have F3 := Lib.hid (e6.trans (TFr.of zz))
  have B3 := Lib.hid (show (World.alloc ((((((((w1).setCell ⟨t, 2, none⟩ (.iface 61 (.pointer (some ⟨b, 0, none⟩)))).setCell ⟨t, 8, none⟩ (.slice none 0 0)).setCell ⟨t, 3, none⟩ (.int .u8 0)).setCell ⟨t, 4, none⟩ (.int .u8 0)).setCell ⟨t, 5, none⟩ (.int .i64 0)).setCell ⟨t, 6, none⟩ (.int .u64 0)).setCell ⟨t, 7, none⟩ (.int .i64 0)) (.cells #[.int .i64 (j : Int), .slice D1 sk.length g1, .int .u64 la, .int .u64 lb, .int .u64 lc, .int .u64 ld, .slice D2 0 g2, .slice none 0 0] 67)).heap[b]? = some (.cells #[.int .i64 (j : Int), .slice D1 sk.length g1, .int .u64 la, .int .u64 lb, .int .u64 lc, .int .u64 ld, .slice D2 0 g2, .slice none 0 0] 67 (0, 0)) from (congrArg _ hz.symm).trans (heap_alloc_new ((((((((w1).setCell ⟨t, 2, none⟩ (.iface 61 (.pointer (some ⟨b, 0, none⟩)))).setCell ⟨t, 8, none⟩ (.slice none 0 0)).setCell ⟨t, 3, none⟩ (.int .u8 0)).setCell ⟨t, 4, none⟩ (.int .u8 0)).setCell ⟨t, 5, none⟩ (.int .i64 0)).setCell ⟨t, 6, none⟩ (.int .u64 0)).setCell ⟨t, 7, none⟩ (.int .i64 0)) _))
  clear hz zz a0 a1 a2 a3 a4 a5 a6 b0 b1 b2 b3 b4 b5 b6 e0 e1 e2 e3 e4 e5 e6 R2 T2 hbq y0 yz0 y1 yz1 y2 yz2 y3 yz3 y4 yz4 y5 yz5 y6 yz6 y7 yz7 y8 yz8 yl
  generalize (World.alloc ((((((((w1).setCell ⟨t, 2, none⟩ (.iface 61 (.pointer (some ⟨b, 0, none⟩)))).setCell ⟨t, 8, none⟩ (.slice none 0 0)).setCell ⟨t, 3, none⟩ (.int .u8 0)).setCell ⟨t, 4, none⟩ (.int .u8 0)).setCell ⟨t, 5, none⟩ (.int .i64 0)).setCell ⟨t, 6, none⟩ (.int .u64 0)).setCell ⟨t, 7, none⟩ (.int .i64 0)) _) = w3 at T3 R3 F3 B3 ⊢
  have u0 : w3.cell? ⟨t, 0, none⟩ = some (.pointer (some ⟨f, 0, none⟩)) := hp_cell T3.out 0
  have ul := hp_lt T3.out
  have x0 : w3.cell? ⟨f, 0, none⟩ = some (.int .i64 (j : Int)) := hp_cell R3.out.hf 0
  have xz0 := hp_frozen R3.out.hf 0
  have xl := hp_lt R3.out.hf
  go_wp2_with fail
  go_ret
  exact ⟨rfl, b, _, _, _, _, _, _, _, hp_far T3.out NE.out _, hp_far B3.out nbf _, R3.out.pc _, F3.out.trans (TFr.setF _ _ _)⟩
end Go.Proofs.Ytdkcmnnhjnapiaa
