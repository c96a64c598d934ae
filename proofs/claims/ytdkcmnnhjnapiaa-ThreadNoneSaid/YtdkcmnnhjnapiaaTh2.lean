
/-
  A thread: New, copied; outside of a block; inside, Get and End.
-/
import Derived.Test.YtdkcmnnhjnapiaaTh1
namespace Go.Proofs.Ytdkcmnnhjnapiaa
open Go.RowKit Go.ChangeShapes Go.WideShapes
set_option linter.unusedSimpArgs false
set_option linter.unusedVariables false

set_option maxRecDepth 20000 in
set_option maxHeartbeats 8000000 in
theorem copied_th (s : St) (A1 : Option Addr) (c1 : Nat) (A2 : Option Addr) (c2 : Nat) (w : World) (h1 : Src w A1 c1 s.stk) (h2 : Src w A2 c2 s.out) : Calls Try.prog 23 #[stV s A1 c1 A2 c2] w (CopyPost s w) := by
  have H1 := Lib.hid h1
  have H2 := Lib.hid h2
  clear h1 h2
  unfold stV stC
  go_enter Try.func23, Try.ntmps23
  go_wp2_with fail
  have hb0 : Below w.heap.size w ((w.alloc (.cells (stC s A1 c1 A2 c2) 41)).alloc (.cells #[.int .i64 0, .slice none 0 0, .int .u64 0, .int .u64 0, .int .u64 0, .int .u64 0, .slice none 0 0] 41)) := ((Below.refl _ _).alloc (Nat.le_refl _) _).alloc (by simp) _
  have G1 := Lib.hid (H1.out.below hb0)
  have G2 := Lib.hid (H2.out.below hb0)
  have B1 := Lib.hid hb0
  have X1 := Lib.hid (show ((w.alloc (.cells (stC s A1 c1 A2 c2) 41)).alloc (.cells #[.int .i64 0, .slice none 0 0, .int .u64 0, .int .u64 0, .int .u64 0, .int .u64 0, .slice none 0 0] 41)).heap[w.heap.size]? = some (.cells (stC s A1 c1 A2 c2) 41 (0, 0)) from hp_alloc (heap_alloc_new w _) _)
  have Y1 := Lib.hid (show ((w.alloc (.cells (stC s A1 c1 A2 c2) 41)).alloc (.cells #[.int .i64 0, .slice none 0 0, .int .u64 0, .int .u64 0, .int .u64 0, .int .u64 0, .slice none 0 0] 41)).heap[w.heap.size + 1]? = some (.cells #[.int .i64 0, .slice none 0 0, .int .u64 0, .int .u64 0, .int .u64 0, .int .u64 0, .slice none 0 0] 41 (0, 0)) from (congrArg _ (by simp)).trans (heap_alloc_new (w.alloc (.cells (stC s A1 c1 A2 c2) 41)) (.cells #[.int .i64 0, .slice none 0 0, .int .u64 0, .int .u64 0, .int .u64 0, .int .u64 0, .slice none 0 0] 41)))
  clear hb0 H1 H2
  unfold stC at G1 G2 B1 X1 Y1
  generalize ((w.alloc _).alloc _) = w1 at G1 G2 B1 X1 Y1 ⊢
  have x1 : w1.cell? ⟨w.heap.size, 1, none⟩ = some (.slice A1 s.stk.length c1) := hp_cell X1.out 1
  have x3 : w1.cell? ⟨w.heap.size, 6, none⟩ = some (.slice A2 s.out.length c2) := hp_cell X1.out 6
  have z1 := hp_frozen X1.out 1
  have z3 := hp_frozen X1.out 6
  have lx := hp_lt X1.out
  go_region_law (first | (go_simp; go_at_call 38; first | ((with_reducible refine (clone_src A2 c2 s.out _ ?hf).mono ?_); (case hf => exact G2.out.below (C1.out)); rintro e u2 ⟨A2', c2', rfl, hr2, hb2⟩; have R2 := Lib.hid hr2; have C2 := Lib.hid hb2; have X2 := Lib.hid (hp_below XA.out hb2); have x1' : u2.cell? ⟨w.heap.size, 1, none⟩ = some (.slice A1 s.stk.length c1) := hp_cell X2.out 1; have x3' : u2.cell? ⟨w.heap.size, 6, none⟩ = some (.slice A2 s.out.length c2) := hp_cell X2.out 6; have z1' := hp_frozen X2.out 1; have z3' := hp_frozen X2.out 6; have lx' := hp_lt X2.out; clear hr2 hb2) | ((with_reducible refine (clone_src A1 c1 s.stk _ ?hf).mono ?_); (case hf => exact G1.out.below ((Below.refl _ _).drew)); rintro e u1 ⟨A1', c1', rfl, hr1, hb1⟩; have R1 := Lib.hid hr1; have C1 := Lib.hid (show Below w1.heap.size w1 u1 from (Below.refl _ _).drew.trans hb1); have XA := Lib.hid (hp_below X1.out C1.out); have x3u : u1.cell? ⟨w.heap.size, 6, none⟩ = some (.slice A2 s.out.length c2) := hp_cell XA.out 6; clear hr1 hb1)))
  all_goals
    have Y2 := Lib.hid (hp_below (hp_below Y1.out C1.out) C2.out)
    have BF := Lib.hid (show Below w.heap.size w ((u2.setCell ⟨w.heap.size, 1, none⟩ (.slice A1' s.stk.length c1')).setCell ⟨w.heap.size, 6, none⟩ (.slice A2' s.out.length c2')) from bl_new (bl_new (B1.out.trans ((C1.out.trans (C2.out.mono C1.out.size)).mono B1.out.size)) (Nat.le_refl _) _) (Nat.le_refl _) _)
    have XF := Lib.hid (hp_put (hp_put X2.out 1 (.slice A1' s.stk.length c1') rfl) 6 (.slice A2' s.out.length c2') rfl)
    have YF := Lib.hid (hp_far (hp_far Y2.out (p := ⟨w.heap.size, 1, none⟩) (by simp) (.slice A1' s.stk.length c1')) (p := ⟨w.heap.size, 6, none⟩) (by simp) (.slice A2' s.out.length c2'))
    have N1 := Lib.hid (show w.heap.size ≤ w1.drew.heap.size from B1.out.size)
    have N2 := Lib.hid (show w.heap.size ≤ u1.heap.size from Nat.le_trans B1.out.size C1.out.size)
    have P1 := Lib.hid (row_far (row_far (row_below (row_base R1.out N1.out) C2.out) X2.out (by decide) 1 (.slice A1' s.stk.length c1')) (hp_put X2.out 1 (.slice A1' s.stk.length c1') rfl) (by decide) 6 (.slice A2' s.out.length c2'))
    have P2 := Lib.hid (row_far (row_far (row_base R2.out N2.out) X2.out (by decide) 1 (.slice A1' s.stk.length c1')) (hp_put X2.out 1 (.slice A1' s.stk.length c1') rfl) (by decide) 6 (.slice A2' s.out.length c2'))
    have D := Lib.hid (show ∀ k, blk A1' = some k → blk A2' ≠ some k from fun k hk e => by
      have a1 := (row_lt R1.out k hk).2
      have a2 := (row_lt R2.out k e).1
      omega)
    clear x1 x3 z1 z3 lx x3u x1' x3' z1' z3' lx'
    generalize ((u2.setCell ⟨w.heap.size, 1, none⟩ (.slice A1' s.stk.length c1')).setCell ⟨w.heap.size, 6, none⟩ (.slice A2' s.out.length c2')) = wF at BF XF YF P1 P2 ⊢
    have f0 : wF.cell? ⟨w.heap.size, 0, none⟩ = some (.int .i64 s.pc) := hp_cell XF.out 0
    have r0 : wF.cell? ⟨w.heap.size + 1, 0, none⟩ = some (.int .i64 0) := hp_cell YF.out 0
    have q0 := hp_frozen YF.out 0
    have f1 : wF.cell? ⟨w.heap.size, 1, none⟩ = some (.slice A1' s.stk.length c1') := hp_cell XF.out 1
    have r1 : wF.cell? ⟨w.heap.size + 1, 1, none⟩ = some (.slice none 0 0) := hp_cell YF.out 1
    have q1 := hp_frozen YF.out 1
    have f2 : wF.cell? ⟨w.heap.size, 2, none⟩ = some (.int .u64 s.la) := hp_cell XF.out 2
    have r2 : wF.cell? ⟨w.heap.size + 1, 2, none⟩ = some (.int .u64 0) := hp_cell YF.out 2
    have q2 := hp_frozen YF.out 2
    have f3 : wF.cell? ⟨w.heap.size, 3, none⟩ = some (.int .u64 s.lb) := hp_cell XF.out 3
    have r3 : wF.cell? ⟨w.heap.size + 1, 3, none⟩ = some (.int .u64 0) := hp_cell YF.out 3
    have q3 := hp_frozen YF.out 3
    have f4 : wF.cell? ⟨w.heap.size, 4, none⟩ = some (.int .u64 s.lc) := hp_cell XF.out 4
    have r4 : wF.cell? ⟨w.heap.size + 1, 4, none⟩ = some (.int .u64 0) := hp_cell YF.out 4
    have q4 := hp_frozen YF.out 4
    have f5 : wF.cell? ⟨w.heap.size, 5, none⟩ = some (.int .u64 s.ld) := hp_cell XF.out 5
    have r5 : wF.cell? ⟨w.heap.size + 1, 5, none⟩ = some (.int .u64 0) := hp_cell YF.out 5
    have q5 := hp_frozen YF.out 5
    have f6 : wF.cell? ⟨w.heap.size, 6, none⟩ = some (.slice A2' s.out.length c2') := hp_cell XF.out 6
    have r6 : wF.cell? ⟨w.heap.size + 1, 6, none⟩ = some (.slice none 0 0) := hp_cell YF.out 6
    have q6 := hp_frozen YF.out 6
    have lF := hp_lt XF.out
    have lY := hp_lt YF.out
    have nF : w.heap.size ≠ w.heap.size + 1 := by omega
    go_wp2
    have M1 : ∀ k, blk A1' = some k → k ≠ w.heap.size + 1 := fun k hk e => by
      have a1 := (row_lt R1.out k hk).1
      have a2 : w1.drew.heap.size = w1.heap.size := rfl
      have a3 := hp_lt Y1.out
      omega
    have M2 : ∀ k, blk A2' = some k → k ≠ w.heap.size + 1 := fun k hk e => by
      have a1 := (row_lt R2.out k hk).1
      have a2 := hp_lt (hp_below Y1.out C1.out)
      omega
    refine bodyPost_ret (by simp [results, Try.results23, go_sem, r0, r1, r2, r3, r4, r5, r6]; try rfl) rfl ?_
    exact ⟨A1', c1', A2', c2', rfl, (row_ne (row_ne (row_ne (row_ne (row_ne (row_ne (row_ne P1.out M1 _ _) M1 _ _) M1 _ _) M1 _ _) M1 _ _) M1 _ _) M1 _ _), (row_ne (row_ne (row_ne (row_ne (row_ne (row_ne (row_ne P2.out M2 _ _) M2 _ _) M2 _ _) M2 _ _) M2 _ _) M2 _ _) M2 _ _), D.out, (bl_new (bl_new (bl_new (bl_new (bl_new (bl_new (bl_new BF.out (by simp) _) (by simp) _) (by simp) _) (by simp) _) (by simp) _) (by simp) _) (by simp) _)⟩
set_option maxRecDepth 20000 in
set_option maxHeartbeats 8000000 in
theorem outside_21 (W : World) (t f p n c : Nat) (iv : Value) (l : List Ins3) (s : St) (A1 : Option Addr) (c1 : Nat) (k0 ak0 tv0 v0 e0 ag vv : Int) (w : World) (ht : w.heap[t]? = some (.cells (thC f p n c iv k0 ak0 tv0 v0 e0) 56 (0, 0))) (hr : RsX W w t f p l s A1 c1) :
    Calls Try.prog 22 #[.pointer (some ⟨t, 0, none⟩), .agg #[.int .u8 21, .int .i64 ag, .int .u64 vv]] w (TellPost W w t f p n c iv l s A1 c1 1 0 0 0 0) := by
  have z1 := (Below.refl w.heap.size w).alloc (Nat.le_refl _) (.cells #[.int .u8 21, .int .i64 ag, .int .u64 vv] 53)
  have z2 := z1.alloc z1.size (.cells #[.int .u8 0, .int .u8 0, .int .i64 0, .int .u64 0, .int .i64 0] 33)
  have X2 := Lib.hid (hp_alloc (heap_alloc_new w (.cells #[.int .u8 21, .int .i64 ag, .int .u64 vv] 53)) (.cells #[.int .u8 0, .int .u8 0, .int .i64 0, .int .u64 0, .int .i64 0] 33))
  have Y2 := Lib.hid (show ((w.alloc (.cells #[.int .u8 21, .int .i64 ag, .int .u64 vv] 53)).alloc (.cells #[.int .u8 0, .int .u8 0, .int .i64 0, .int .u64 0, .int .i64 0] 33)).heap[w.heap.size + 1]? = some (.cells #[.int .u8 0, .int .u8 0, .int .i64 0, .int .u64 0, .int .i64 0] 33 (0, 0)) from (congrArg _ (by simp)).trans (heap_alloc_new (w.alloc (.cells #[.int .u8 21, .int .i64 ag, .int .u64 vv] 53)) (.cells #[.int .u8 0, .int .u8 0, .int .i64 0, .int .u64 0, .int .i64 0] 33)))
  have T2 := Lib.hid (hp_below ht z2)
  have R2 := Lib.hid (hr.below z2)
  have GB := Lib.hid (And.intro hr.bl.size (And.intro (hp_lt ht) (hp_lt hr.hf)))
  have F2 := Lib.hid (TFr.of (t := t) (f := f) z2)
  clear ht hr z1 z2
  go_enter Try.func22, Try.ntmps22
  go_upto_region 1 with fail
  generalize World.alloc _ _ = w2 at X2 Y2 T2 R2 F2 ⊢
  obtain ⟨g, hg⟩ : ∃ g, w.heap.size = g := ⟨_, rfl⟩
  obtain ⟨r, hr⟩ : ∃ r, w.heap.size + 1 = r := ⟨_, rfl⟩
  have GR := Lib.hid (show W.heap.size ≤ r ∧ w.heap.size ≤ r ∧ w.heap.size ≤ g ∧ W.heap.size ≤ g by have := GB.out.1; omega)
  rw [hg] at X2 GB
  rw [hr] at Y2
  rw [hr, hg]
  have ne1 : g ≠ r := by omega
  have ne2 : r ≠ g := by omega
  have ne3 : t ≠ g := by have := GB.out.2.1; omega
  have ne4 : t ≠ r := by have := GB.out.2.1; omega
  have ne5 : g ≠ t := fun e => ne3 e.symm
  have ne6 : r ≠ t := fun e => ne4 e.symm
  have ne7 : g ≠ f := by have := GB.out.2.2; omega
  have ne8 : r ≠ f := by have := GB.out.2.2; omega
  clear hg hr
  have x0 : w2.cell? ⟨g, 0, none⟩ = some (.int .u8 21) := hp_cell (X2.out) 0; have x1 : w2.cell? ⟨g, 1, none⟩ = some (.int .i64 ag) := hp_cell (X2.out) 1; have x2 : w2.cell? ⟨g, 2, none⟩ = some (.int .u64 vv) := hp_cell (X2.out) 2; have xl := hp_lt (X2.out)
  go_wp2_with (go_at_call 34; refine (tell_any W t f p n c iv l s A1 c1 k0 ak0 tv0 v0 e0 1 0 0 0 0 w2 T2.out R2.out).mono ?_; rintro x w3 ⟨rfl, ht3, hr3, hf3⟩; have T3 := Lib.hid ht3; have R3 := Lib.hid hr3; have F3 := Lib.hid (F2.out.trans hf3); have Y3 := Lib.hid (hf3.hp Y2.out ne6 ne8); have y0 : w3.cell? ⟨r, 0, none⟩ = some (.int .u8 0) := hp_cell (Y3.out) 0; have yz0 := hp_frozen (Y3.out) 0; have y1 : w3.cell? ⟨r, 1, none⟩ = some (.int .u8 0) := hp_cell (Y3.out) 1; have yz1 := hp_frozen (Y3.out) 1; have y2 : w3.cell? ⟨r, 2, none⟩ = some (.int .i64 0) := hp_cell (Y3.out) 2; have yz2 := hp_frozen (Y3.out) 2; have y3 : w3.cell? ⟨r, 3, none⟩ = some (.int .u64 0) := hp_cell (Y3.out) 3; have yz3 := hp_frozen (Y3.out) 3; have y4 : w3.cell? ⟨r, 4, none⟩ = some (.int .i64 0) := hp_cell (Y3.out) 4; have yz4 := hp_frozen (Y3.out) 4; have yl := hp_lt (Y3.out); clear ht3 hr3 hf3)
  refine bodyPost_ret (by simp [results, Try.results22, go_sem, y0, y1, y2, y3, y4, ne1, ne2]; try rfl) rfl ?_
  have c0 := hp_put (cs' := #[.int .u8 1, .int .u8 0, .int .i64 0, .int .u64 0, .int .i64 0]) Y3.out 0 (.int .u8 1) (by simp)
  have d0 := hp_far (p := ⟨r, 0, none⟩) T3.out ne4 (.int .u8 1)
  have e0 := R3.out.set Y3.out (by decide) (by decide) (by decide) GR.out.1 0 (.int .u8 1)
  have c1 := hp_put (cs' := #[.int .u8 1, .int .u8 0, .int .i64 0, .int .u64 0, .int .i64 0]) c0 1 (.int .u8 0) (by simp)
  have d1 := hp_far (p := ⟨r, 1, none⟩) d0 ne4 (.int .u8 0)
  have e1 := e0.set c0 (by decide) (by decide) (by decide) GR.out.1 1 (.int .u8 0)
  have c2 := hp_put (cs' := #[.int .u8 1, .int .u8 0, .int .i64 0, .int .u64 0, .int .i64 0]) c1 2 (.int .i64 0) (by simp)
  have d2 := hp_far (p := ⟨r, 2, none⟩) d1 ne4 (.int .i64 0)
  have e2 := e1.set c1 (by decide) (by decide) (by decide) GR.out.1 2 (.int .i64 0)
  have c3 := hp_put (cs' := #[.int .u8 1, .int .u8 0, .int .i64 0, .int .u64 0, .int .i64 0]) c2 3 (.int .u64 0) (by simp)
  have d3 := hp_far (p := ⟨r, 3, none⟩) d2 ne4 (.int .u64 0)
  have e3 := e2.set c2 (by decide) (by decide) (by decide) GR.out.1 3 (.int .u64 0)
  have c4 := hp_put (cs' := #[.int .u8 1, .int .u8 0, .int .i64 0, .int .u64 0, .int .i64 0]) c3 4 (.int .i64 0) (by simp)
  have d4 := hp_far (p := ⟨r, 4, none⟩) d3 ne4 (.int .i64 0)
  have e4 := e3.set c3 (by decide) (by decide) (by decide) GR.out.1 4 (.int .i64 0)
  exact ⟨rfl, d4, e4, (((((F3.out.new GR.out.2.1 _ _).new GR.out.2.1 _ _).new GR.out.2.1 _ _).new GR.out.2.1 _ _).new GR.out.2.1 _ _)⟩
set_option maxRecDepth 20000 in
set_option maxHeartbeats 8000000 in
theorem outside_28 (W : World) (t f p n c : Nat) (iv : Value) (l : List Ins3) (s : St) (A1 : Option Addr) (c1 : Nat) (k0 ak0 tv0 v0 e0 ag vv : Int) (w : World) (ht : w.heap[t]? = some (.cells (thC f p n c iv k0 ak0 tv0 v0 e0) 56 (0, 0))) (hr : RsX W w t f p l s A1 c1) :
    Calls Try.prog 22 #[.pointer (some ⟨t, 0, none⟩), .agg #[.int .u8 28, .int .i64 ag, .int .u64 vv]] w (TellPost W w t f p n c iv l s A1 c1 4 0 0 0 0) := by
  have z1 := (Below.refl w.heap.size w).alloc (Nat.le_refl _) (.cells #[.int .u8 28, .int .i64 ag, .int .u64 vv] 53)
  have z2 := z1.alloc z1.size (.cells #[.int .u8 0, .int .u8 0, .int .i64 0, .int .u64 0, .int .i64 0] 33)
  have X2 := Lib.hid (hp_alloc (heap_alloc_new w (.cells #[.int .u8 28, .int .i64 ag, .int .u64 vv] 53)) (.cells #[.int .u8 0, .int .u8 0, .int .i64 0, .int .u64 0, .int .i64 0] 33))
  have Y2 := Lib.hid (show ((w.alloc (.cells #[.int .u8 28, .int .i64 ag, .int .u64 vv] 53)).alloc (.cells #[.int .u8 0, .int .u8 0, .int .i64 0, .int .u64 0, .int .i64 0] 33)).heap[w.heap.size + 1]? = some (.cells #[.int .u8 0, .int .u8 0, .int .i64 0, .int .u64 0, .int .i64 0] 33 (0, 0)) from (congrArg _ (by simp)).trans (heap_alloc_new (w.alloc (.cells #[.int .u8 28, .int .i64 ag, .int .u64 vv] 53)) (.cells #[.int .u8 0, .int .u8 0, .int .i64 0, .int .u64 0, .int .i64 0] 33)))
  have T2 := Lib.hid (hp_below ht z2)
  have R2 := Lib.hid (hr.below z2)
  have GB := Lib.hid (And.intro hr.bl.size (And.intro (hp_lt ht) (hp_lt hr.hf)))
  have F2 := Lib.hid (TFr.of (t := t) (f := f) z2)
  clear ht hr z1 z2
  go_enter Try.func22, Try.ntmps22
  go_upto_region 1 with fail
  generalize World.alloc _ _ = w2 at X2 Y2 T2 R2 F2 ⊢
  obtain ⟨g, hg⟩ : ∃ g, w.heap.size = g := ⟨_, rfl⟩
  obtain ⟨r, hr⟩ : ∃ r, w.heap.size + 1 = r := ⟨_, rfl⟩
  have GR := Lib.hid (show W.heap.size ≤ r ∧ w.heap.size ≤ r ∧ w.heap.size ≤ g ∧ W.heap.size ≤ g by have := GB.out.1; omega)
  rw [hg] at X2 GB
  rw [hr] at Y2
  rw [hr, hg]
  have ne1 : g ≠ r := by omega
  have ne2 : r ≠ g := by omega
  have ne3 : t ≠ g := by have := GB.out.2.1; omega
  have ne4 : t ≠ r := by have := GB.out.2.1; omega
  have ne5 : g ≠ t := fun e => ne3 e.symm
  have ne6 : r ≠ t := fun e => ne4 e.symm
  have ne7 : g ≠ f := by have := GB.out.2.2; omega
  have ne8 : r ≠ f := by have := GB.out.2.2; omega
  clear hg hr
  have x0 : w2.cell? ⟨g, 0, none⟩ = some (.int .u8 28) := hp_cell (X2.out) 0; have x1 : w2.cell? ⟨g, 1, none⟩ = some (.int .i64 ag) := hp_cell (X2.out) 1; have x2 : w2.cell? ⟨g, 2, none⟩ = some (.int .u64 vv) := hp_cell (X2.out) 2; have xl := hp_lt (X2.out)
  go_wp2_with (go_at_call 34; refine (tell_any W t f p n c iv l s A1 c1 k0 ak0 tv0 v0 e0 4 0 0 0 0 w2 T2.out R2.out).mono ?_; rintro x w3 ⟨rfl, ht3, hr3, hf3⟩; have T3 := Lib.hid ht3; have R3 := Lib.hid hr3; have F3 := Lib.hid (F2.out.trans hf3); have Y3 := Lib.hid (hf3.hp Y2.out ne6 ne8); have y0 : w3.cell? ⟨r, 0, none⟩ = some (.int .u8 0) := hp_cell (Y3.out) 0; have yz0 := hp_frozen (Y3.out) 0; have y1 : w3.cell? ⟨r, 1, none⟩ = some (.int .u8 0) := hp_cell (Y3.out) 1; have yz1 := hp_frozen (Y3.out) 1; have y2 : w3.cell? ⟨r, 2, none⟩ = some (.int .i64 0) := hp_cell (Y3.out) 2; have yz2 := hp_frozen (Y3.out) 2; have y3 : w3.cell? ⟨r, 3, none⟩ = some (.int .u64 0) := hp_cell (Y3.out) 3; have yz3 := hp_frozen (Y3.out) 3; have y4 : w3.cell? ⟨r, 4, none⟩ = some (.int .i64 0) := hp_cell (Y3.out) 4; have yz4 := hp_frozen (Y3.out) 4; have yl := hp_lt (Y3.out); clear ht3 hr3 hf3)
  refine bodyPost_ret (by simp [results, Try.results22, go_sem, y0, y1, y2, y3, y4, ne1, ne2]; try rfl) rfl ?_
  have c0 := hp_put (cs' := #[.int .u8 4, .int .u8 0, .int .i64 0, .int .u64 0, .int .i64 0]) Y3.out 0 (.int .u8 4) (by simp)
  have d0 := hp_far (p := ⟨r, 0, none⟩) T3.out ne4 (.int .u8 4)
  have e0 := R3.out.set Y3.out (by decide) (by decide) (by decide) GR.out.1 0 (.int .u8 4)
  have c1 := hp_put (cs' := #[.int .u8 4, .int .u8 0, .int .i64 0, .int .u64 0, .int .i64 0]) c0 1 (.int .u8 0) (by simp)
  have d1 := hp_far (p := ⟨r, 1, none⟩) d0 ne4 (.int .u8 0)
  have e1 := e0.set c0 (by decide) (by decide) (by decide) GR.out.1 1 (.int .u8 0)
  have c2 := hp_put (cs' := #[.int .u8 4, .int .u8 0, .int .i64 0, .int .u64 0, .int .i64 0]) c1 2 (.int .i64 0) (by simp)
  have d2 := hp_far (p := ⟨r, 2, none⟩) d1 ne4 (.int .i64 0)
  have e2 := e1.set c1 (by decide) (by decide) (by decide) GR.out.1 2 (.int .i64 0)
  have c3 := hp_put (cs' := #[.int .u8 4, .int .u8 0, .int .i64 0, .int .u64 0, .int .i64 0]) c2 3 (.int .u64 0) (by simp)
  have d3 := hp_far (p := ⟨r, 3, none⟩) d2 ne4 (.int .u64 0)
  have e3 := e2.set c2 (by decide) (by decide) (by decide) GR.out.1 3 (.int .u64 0)
  have c4 := hp_put (cs' := #[.int .u8 4, .int .u8 0, .int .i64 0, .int .u64 0, .int .i64 0]) c3 4 (.int .i64 0) (by simp)
  have d4 := hp_far (p := ⟨r, 4, none⟩) d3 ne4 (.int .i64 0)
  have e4 := e3.set c3 (by decide) (by decide) (by decide) GR.out.1 4 (.int .i64 0)
  exact ⟨rfl, d4, e4, (((((F3.out.new GR.out.2.1 _ _).new GR.out.2.1 _ _).new GR.out.2.1 _ _).new GR.out.2.1 _ _).new GR.out.2.1 _ _)⟩
set_option maxRecDepth 20000 in
set_option maxHeartbeats 8000000 in
theorem inside_22 (W : World) (t f p n c : Nat) (iv : Value) (l : List Ins3) (s : St) (A1 : Option Addr) (c1 : Nat) (k0 ak0 tv0 v0 e0 ag vv : Int) (b : Nat) (q0 q1 q2 q3 q4 q5 q6 : Value) (w : World) (ht : w.heap[t]? = some (.cells (thC f p n c iv k0 ak0 tv0 v0 e0) 56 (0, 0))) (hr : RsX W w t f p l s A1 c1) (hb : w.heap[b]? = some (.cells #[q0, q1, q2, q3, q4, q5, q6, .slice none 0 0] 67 (0, 0))) :
    Calls Try.prog 21 #[.pointer (some ⟨t, 0, none⟩), .pointer (some ⟨b, 0, none⟩), .agg #[.int .u8 22, .int .i64 ag, .int .u64 vv]] w (TellPost W w t f p n c iv l s A1 c1 2 6 0 0 0) := by
  have z1 := (Below.refl w.heap.size w).alloc (Nat.le_refl _) (.cells #[.int .u8 22, .int .i64 ag, .int .u64 vv] 53)
  have z2 := z1.alloc z1.size (.cells #[.int .u8 0, .int .u8 0, .int .i64 0, .int .u64 0, .int .i64 0] 33)
  have X2 := Lib.hid (hp_alloc (heap_alloc_new w (.cells #[.int .u8 22, .int .i64 ag, .int .u64 vv] 53)) (.cells #[.int .u8 0, .int .u8 0, .int .i64 0, .int .u64 0, .int .i64 0] 33))
  have Y2 := Lib.hid (show ((w.alloc (.cells #[.int .u8 22, .int .i64 ag, .int .u64 vv] 53)).alloc (.cells #[.int .u8 0, .int .u8 0, .int .i64 0, .int .u64 0, .int .i64 0] 33)).heap[w.heap.size + 1]? = some (.cells #[.int .u8 0, .int .u8 0, .int .i64 0, .int .u64 0, .int .i64 0] 33 (0, 0)) from (congrArg _ (by simp)).trans (heap_alloc_new (w.alloc (.cells #[.int .u8 22, .int .i64 ag, .int .u64 vv] 53)) (.cells #[.int .u8 0, .int .u8 0, .int .i64 0, .int .u64 0, .int .i64 0] 33)))
  have T2 := Lib.hid (hp_below ht z2)
  have R2 := Lib.hid (hr.below z2)
  have GB := Lib.hid (And.intro hr.bl.size (And.intro (hp_lt ht) (hp_lt hr.hf)))
  have F2 := Lib.hid (TFr.of (t := t) (f := f) z2)
  have Z2 := Lib.hid (hp_below hb z2)
  clear ht hr z1 z2 hb
  go_enter Try.func21, Try.ntmps21
  go_upto_region 1 with fail
  generalize World.alloc _ _ = w2 at X2 Y2 T2 R2 F2 Z2 ⊢
  obtain ⟨g, hg⟩ : ∃ g, w.heap.size = g := ⟨_, rfl⟩
  obtain ⟨r, hr⟩ : ∃ r, w.heap.size + 1 = r := ⟨_, rfl⟩
  have GR := Lib.hid (show W.heap.size ≤ r ∧ w.heap.size ≤ r ∧ w.heap.size ≤ g ∧ W.heap.size ≤ g by have := GB.out.1; omega)
  rw [hg] at X2 GB
  rw [hr] at Y2
  rw [hr, hg]
  have ne1 : g ≠ r := by omega
  have ne2 : r ≠ g := by omega
  have ne3 : t ≠ g := by have := GB.out.2.1; omega
  have ne4 : t ≠ r := by have := GB.out.2.1; omega
  have ne5 : g ≠ t := fun e => ne3 e.symm
  have ne6 : r ≠ t := fun e => ne4 e.symm
  have ne7 : g ≠ f := by have := GB.out.2.2; omega
  have ne8 : r ≠ f := by have := GB.out.2.2; omega
  clear hg hr
  have x0 : w2.cell? ⟨g, 0, none⟩ = some (.int .u8 22) := hp_cell (X2.out) 0; have x1 : w2.cell? ⟨g, 1, none⟩ = some (.int .i64 ag) := hp_cell (X2.out) 1; have x2 : w2.cell? ⟨g, 2, none⟩ = some (.int .u64 vv) := hp_cell (X2.out) 2; have xl := hp_lt (X2.out)
  have z7 : w2.cell? ⟨b, 7, none⟩ = some (.slice none 0 0) := hp_cell Z2.out 7
  have zl := hp_lt Z2.out
  go_wp2_with (go_at_call 36; refine (ask_any W t f p n c iv l s A1 c1 k0 ak0 tv0 v0 e0 6 0 0 w2 T2.out R2.out).mono ?_; rintro x w3 ⟨rfl, ht3, hr3, hf3⟩; have T3 := Lib.hid ht3; have R3 := Lib.hid hr3; have F3 := Lib.hid (F2.out.trans hf3); have Y3 := Lib.hid (hf3.hp Y2.out ne6 ne8); have y0 : w3.cell? ⟨r, 0, none⟩ = some (.int .u8 0) := hp_cell (Y3.out) 0; have yz0 := hp_frozen (Y3.out) 0; have y1 : w3.cell? ⟨r, 1, none⟩ = some (.int .u8 0) := hp_cell (Y3.out) 1; have yz1 := hp_frozen (Y3.out) 1; have y2 : w3.cell? ⟨r, 2, none⟩ = some (.int .i64 0) := hp_cell (Y3.out) 2; have yz2 := hp_frozen (Y3.out) 2; have y3 : w3.cell? ⟨r, 3, none⟩ = some (.int .u64 0) := hp_cell (Y3.out) 3; have yz3 := hp_frozen (Y3.out) 3; have y4 : w3.cell? ⟨r, 4, none⟩ = some (.int .i64 0) := hp_cell (Y3.out) 4; have yz4 := hp_frozen (Y3.out) 4; have yl := hp_lt (Y3.out); clear ht3 hr3 hf3)
  refine bodyPost_ret (by simp [results, Try.results21, go_sem, y0, y1, y2, y3, y4, ne1, ne2]; try rfl) rfl ?_
  have c0 := hp_put (cs' := #[.int .u8 2, .int .u8 0, .int .i64 0, .int .u64 0, .int .i64 0]) Y3.out 0 (.int .u8 2) (by simp)
  have d0 := hp_far (p := ⟨r, 0, none⟩) T3.out ne4 (.int .u8 2)
  have e0 := R3.out.set Y3.out (by decide) (by decide) (by decide) GR.out.1 0 (.int .u8 2)
  have c1 := hp_put (cs' := #[.int .u8 2, .int .u8 6, .int .i64 0, .int .u64 0, .int .i64 0]) c0 1 (.int .u8 6) (by simp)
  have d1 := hp_far (p := ⟨r, 1, none⟩) d0 ne4 (.int .u8 6)
  have e1 := e0.set c0 (by decide) (by decide) (by decide) GR.out.1 1 (.int .u8 6)
  have c2 := hp_put (cs' := #[.int .u8 2, .int .u8 6, .int .i64 0, .int .u64 0, .int .i64 0]) c1 2 (.int .i64 0) (by simp)
  have d2 := hp_far (p := ⟨r, 2, none⟩) d1 ne4 (.int .i64 0)
  have e2 := e1.set c1 (by decide) (by decide) (by decide) GR.out.1 2 (.int .i64 0)
  have c3 := hp_put (cs' := #[.int .u8 2, .int .u8 6, .int .i64 0, .int .u64 0, .int .i64 0]) c2 3 (.int .u64 0) (by simp)
  have d3 := hp_far (p := ⟨r, 3, none⟩) d2 ne4 (.int .u64 0)
  have e3 := e2.set c2 (by decide) (by decide) (by decide) GR.out.1 3 (.int .u64 0)
  have c4 := hp_put (cs' := #[.int .u8 2, .int .u8 6, .int .i64 0, .int .u64 0, .int .i64 0]) c3 4 (.int .i64 0) (by simp)
  have d4 := hp_far (p := ⟨r, 4, none⟩) d3 ne4 (.int .i64 0)
  have e4 := e3.set c3 (by decide) (by decide) (by decide) GR.out.1 4 (.int .i64 0)
  exact ⟨rfl, d4, e4, (((((F3.out.new GR.out.2.1 _ _).new GR.out.2.1 _ _).new GR.out.2.1 _ _).new GR.out.2.1 _ _).new GR.out.2.1 _ _)⟩
end Go.Proofs.Ytdkcmnnhjnapiaa
