
/-
  A thread: Step.
-/
import Derived.Test.YtdkcmnnhjnapiaaTh4
namespace Go.Proofs.Ytdkcmnnhjnapiaa
open Go.RowKit Go.ChangeShapes Go.WideShapes
set_option linter.unusedSimpArgs false
set_option linter.unusedVariables false

set_option maxRecDepth 20000 in
set_option maxHeartbeats 8000000 in
theorem step_21 (W : World) (t f p c : Nat) (l : List Ins3) (s : St) (A1 : Option Addr) (c1 : Nat) (j : Nat) (hj : s.pc = (j : Int)) (hjl : j < l.length) (hll : l.length ≤ 64) (ag vv : Int) (hx : xn l j = ⟨21, ag, vv⟩) (hok : ∀ x ∈ l, x.ok) (hri : rightI ⟨21, ag, vv⟩ = true) (w : World) (ht : w.heap[t]? = some (.cells (thC f p l.length c .nilIface 0 0 0 0 0) 56 (0, 0))) (hr : RsX W w t f p l s A1 c1) :
    Calls Try.prog 5 #[.pointer (some ⟨t, 0, none⟩)] w (TellPost W w t f p l.length c .nilIface l s A1 c1 1 0 0 0 0) := by
  have hxo : (Ins3.mk 21 ag vv).ok := by rw [← hx]; unfold xn; rw [List.getElem?_eq_getElem hjl]; exact hok _ (List.getElem_mem hjl)
  have HR := Lib.hid (show ∀ w : World, Calls Try.prog 19 #[.agg #[.int .u8 21, .int .i64 ag, .int .u64 vv]] w fun e w' => e = .returned (.bool true) ∧ Below w.heap.size w w' from fun w => by have := codeRight ⟨21, ag, vv⟩ hxo w; rw [hri] at this; exact this)
  have z2 := (Below.refl w.heap.size w).alloc (Nat.le_refl _) (.cells #[.int .u8 0, .int .u8 0, .int .i64 0, .int .u64 0, .int .i64 0] 33)
  have Y2 := Lib.hid (heap_alloc_new w (.cells #[.int .u8 0, .int .u8 0, .int .i64 0, .int .u64 0, .int .i64 0] 33))
  have T2 := Lib.hid (hp_below ht z2)
  have R2 := Lib.hid (hr.below z2)
  have GB := Lib.hid (And.intro hr.bl.size (And.intro (hp_lt ht) (hp_lt hr.hf)))
  have F2 := Lib.hid (TFr.of (t := t) (f := f) z2)
  have HJ := Lib.hid (And.intro hj (And.intro hjl hll))
  have HOK := Lib.hid hok
  have HX := Lib.hid hx
  have hta : ∀ w : World, (Instr.typeAssert .nilIface 20 61 true).run Try.prog w = .ok (.tuple #[.pointer none, .bool false]) w := by intro w; kernel_rfl
  clear ht hr z2 hj hok hx hri hxo
  go_enter Try.func5, Try.ntmps5
  go_upto_region 1 with fail
  generalize World.alloc _ _ = w2 at Y2 T2 R2 F2 ⊢
  obtain ⟨r, hr⟩ : ∃ r, w.heap.size = r := ⟨_, rfl⟩
  have GR := Lib.hid (show W.heap.size ≤ r ∧ w.heap.size ≤ r by have := GB.out.1; omega)
  rw [hr] at Y2
  rw [hr]
  have ne4 : t ≠ r := by have := GB.out.2.1; omega
  have ne6 : r ≠ t := fun e => ne4 e.symm
  have ne8 : r ≠ f := by have := GB.out.2.2; omega
  clear hr
  have u3 : w2.cell? ⟨t, 3, none⟩ = some (.int .u8 0) := hp_cell T2.out 3
  have ul := hp_lt T2.out
  go_upto_region 5 with fail
  clear u3 ul
  have hin := prX_inss R2.out.hp HOK.out (by have := HJ.out; omega)
  have hx3 := xn_some hin hjl
  rw [HX.out] at hx3
  obtain ⟨_, a0, a1, a2⟩ := hx3
  rw [add_at, Nat.zero_add] at a0 a1 a2
  dsimp only at a0 a1 a2
  have la := World.block_lt_of_cell? w2 _ a0
  have hpc : w2.cell? ⟨f, 0, none⟩ = some (.int .i64 (j : Int)) := by rw [← HJ.out.1]; exact hp_cell R2.out.hf 0
  obtain ⟨pcs, hp1, _⟩ := R2.out.hp
  have c0 := cell_regrown (show w2.cell? ⟨t, 0, none⟩ = some (.pointer (some ⟨f, 0, none⟩)) from hp_cell T2.out 0)
  have c1' := cell_regrown (show w2.cell? ⟨t, 1, none⟩ = some (.slice (some ⟨p, 0, none⟩) l.length c) from hp_cell T2.out 1)
  have c2 := cell_regrown hpc
  have c3 := cell_regrown a0
  have c4 := cell_regrown a1
  have c5 := cell_regrown a2
  have g0 : ∀ (d : Nat) (os : Array Obj), t < (Sort.grow (redrawn w2 d) os).heap.size := fun d os => Nat.lt_of_lt_of_le (hp_lt T2.out) (below_regrown w2 d os).size
  have g1 : ∀ (d : Nat) (os : Array Obj), f < (Sort.grow (redrawn w2 d) os).heap.size := fun d os => Nat.lt_of_lt_of_le (hp_lt R2.out.hf) (below_regrown w2 d os).size
  have g2 : ∀ (d : Nat) (os : Array Obj), p < (Sort.grow (redrawn w2 d) os).heap.size := fun d os => Nat.lt_of_lt_of_le (hp_lt hp1) (below_regrown w2 d os).size
  have g3 : ∀ (d : Nat) (os : Array Obj), p < (Sort.grow (redrawn w2 d) os).heap.size := fun d os => Nat.lt_of_lt_of_le (hp_lt hp1) (below_regrown w2 d os).size
  have cR : ∀ (d : Nat) (os : Array Obj), Calls Try.prog 19 #[.agg #[.int .u8 21, .int .i64 ag, .int .u64 vv]] (Sort.grow (redrawn w2 d) os) fun e w'' => e = .returned (.bool true) ∧ ∃ p : Regrown, w'' = Sort.grow (redrawn w2 p.d) p.os := fun d os => Calls.regrown_of (HR.out _)
  have d1 : decide ((j : Int) < 0) = false := decide_eq_false (by omega)
  have d2 : decide ((j : Int) ≥ (l.length : Int)) = false := decide_eq_false (by omega)
  have d3 : decide ((l.length : Int) ≤ (j : Int)) = false := d2
  have d4 : decide (l.length ≤ j) = false := decide_eq_false (by omega)
  have d5 : (j : Int) < (l.length : Int) := by omega
  have d6 : (0 : Int) ≤ (j : Int) := by omega
  clear a0 a1 a2 la hpc hp1 hin
  refine wp_region_quiet_below (by kernel_rfl) (by kernel_rfl) ?_
  repeat (quiet_step ((go_at_call 19; exact cR _ _)))
  refine wpQuiet_nil ?_
  intro _ hw'
  obtain ⟨⟨dq, osq⟩, hw''⟩ := hw'
  subst hw''
  clear c0 c1' c2 c3 c4 c5 g0 g1 g2 g3 cR
  have hb3 := below_regrown w2 dq osq
  have T3 := Lib.hid (hp_below T2.out hb3)
  have R3 := Lib.hid (R2.out.below hb3)
  have Y3 := Lib.hid (hp_below Y2.out hb3)
  have F3 := Lib.hid (F2.out.trans (TFr.of hb3))
  clear hb3 T2 R2 Y2 F2
  generalize Sort.grow (redrawn w2 dq) osq = w3 at T3 R3 Y3 F3 ⊢
  go_upto_region 7 with fail
  have hin := prX_inss R3.out.hp HOK.out (by have := HJ.out; omega)
  have hx3 := xn_some hin hjl
  rw [HX.out] at hx3
  obtain ⟨_, a0, a1, a2⟩ := hx3
  rw [add_at, Nat.zero_add] at a0 a1 a2
  dsimp only at a0 a1 a2
  have la := World.block_lt_of_cell? w3 _ a0
  have hpc : w3.cell? ⟨f, 0, none⟩ = some (.int .i64 (j : Int)) := by rw [← HJ.out.1]; exact hp_cell R3.out.hf 0
  have u0 : w3.cell? ⟨t, 0, none⟩ = some (.pointer (some ⟨f, 0, none⟩)) := hp_cell T3.out 0
  have u1 : w3.cell? ⟨t, 1, none⟩ = some (.slice (some ⟨p, 0, none⟩) l.length c) := hp_cell T3.out 1
  have ul := hp_lt T3.out
  have fl := hp_lt R3.out.hf
  clear hin
  go_region
  have z4 := ((Below.refl w3.heap.size w3).alloc (Nat.le_refl _) (.cells #[.int .u8 21, .int .i64 ag, .int .u64 vv] 53)).drew
  have X4 := Lib.hid (hp_drt (heap_alloc_new w3 (.cells #[.int .u8 21, .int .i64 ag, .int .u64 vv] 53)))
  have T4 := Lib.hid (hp_below T3.out z4)
  have R4 := Lib.hid (R3.out.below z4)
  have Y4 := Lib.hid (hp_below Y3.out z4)
  have F4 := Lib.hid (F3.out.trans (TFr.of z4))
  clear z4 a0 a1 a2 la hpc u0 u1 ul fl T3 R3 Y3 F3
  generalize (w3.alloc _).drew = w4 at X4 T4 R4 Y4 F4 ⊢
  obtain ⟨g, hg⟩ : ∃ g, w3.heap.size = g := ⟨_, rfl⟩
  rw [hg] at X4 ⊢
  clear hg
  have x0 : w4.cell? ⟨g, 0, none⟩ = some (.int .u8 21) := hp_cell (X4.out) 0; have x1 : w4.cell? ⟨g, 1, none⟩ = some (.int .i64 ag) := hp_cell (X4.out) 1; have x2 : w4.cell? ⟨g, 2, none⟩ = some (.int .u64 vv) := hp_cell (X4.out) 2; have xl := hp_lt (X4.out)
  have u2 : w4.cell? ⟨t, 2, none⟩ = some (.nilIface) := hp_cell T4.out 2
  have ul := hp_lt T4.out
  have ne1 := ne4
  have ne2 := ne6
  go_wp2_with (go_at_call 22; refine (outside_21 W t f p l.length c .nilIface l s A1 c1 0 0 0 0 0 ag vv w4 T4.out R4.out).mono ?_; rintro x w5 ⟨rfl, ht3, hr3, hf3⟩; have T5 := Lib.hid ht3; have R5 := Lib.hid hr3; have F5 := Lib.hid (F4.out.trans hf3); have Y5 := Lib.hid (hf3.hp Y4.out ne6 ne8); have y0 : w5.cell? ⟨r, 0, none⟩ = some (.int .u8 0) := hp_cell (Y5.out) 0; have yz0 := hp_frozen (Y5.out) 0; have y1 : w5.cell? ⟨r, 1, none⟩ = some (.int .u8 0) := hp_cell (Y5.out) 1; have yz1 := hp_frozen (Y5.out) 1; have y2 : w5.cell? ⟨r, 2, none⟩ = some (.int .i64 0) := hp_cell (Y5.out) 2; have yz2 := hp_frozen (Y5.out) 2; have y3 : w5.cell? ⟨r, 3, none⟩ = some (.int .u64 0) := hp_cell (Y5.out) 3; have yz3 := hp_frozen (Y5.out) 3; have y4 : w5.cell? ⟨r, 4, none⟩ = some (.int .i64 0) := hp_cell (Y5.out) 4; have yz4 := hp_frozen (Y5.out) 4; have yl := hp_lt (Y5.out); clear ht3 hr3 hf3)
  refine bodyPost_ret (by simp [results, Try.results5, go_sem, y0, y1, y2, y3, y4, ne1, ne2]; try rfl) rfl ?_
  have c0 := hp_put (cs' := #[.int .u8 1, .int .u8 0, .int .i64 0, .int .u64 0, .int .i64 0]) Y5.out 0 (.int .u8 1) (by simp)
  have d0 := hp_far (p := ⟨r, 0, none⟩) T5.out ne4 (.int .u8 1)
  have e0 := R5.out.set Y5.out (by decide) (by decide) (by decide) GR.out.1 0 (.int .u8 1)
  have c1 := hp_put (cs' := #[.int .u8 1, .int .u8 0, .int .i64 0, .int .u64 0, .int .i64 0]) c0 1 (.int .u8 0) (by simp)
  have d1 := hp_far (p := ⟨r, 1, none⟩) d0 ne4 (.int .u8 0)
  have e1 := e0.set c0 (by decide) (by decide) (by decide) GR.out.1 1 (.int .u8 0)
  have c2 := hp_put (cs' := #[.int .u8 1, .int .u8 0, .int .i64 0, .int .u64 0, .int .i64 0]) c1 2 (.int .i64 0) (by simp)
  have d2 := hp_far (p := ⟨r, 2, none⟩) d1 ne4 (.int .i64 0)
  have e2 := e1.set c1 (by decide) (by decide) (by decide) GR.out.1 2 (.int .i64 0)
  have c3 := hp_put (cs' := #[.int .u8 1, .int .u8 0, .int .i64 0, .int .u64 0, .int .i64 0]) c2 3 (.int .u64 0) (by simp)
  have d3 := hp_far (p := ⟨r, 3, none⟩) d2 ne4 (.int .u64 0)
  have e3 := e2.set c2 (by decide) (by decide) (by decide) GR.out.1 3 (.int .u64 0)
  have c4 := hp_put (cs' := #[.int .u8 1, .int .u8 0, .int .i64 0, .int .u64 0, .int .i64 0]) c3 4 (.int .i64 0) (by simp)
  have d4 := hp_far (p := ⟨r, 4, none⟩) d3 ne4 (.int .i64 0)
  have e4 := e3.set c3 (by decide) (by decide) (by decide) GR.out.1 4 (.int .i64 0)
  exact ⟨rfl, d4, e4, (((((F5.out.new GR.out.2 _ _).new GR.out.2 _ _).new GR.out.2 _ _).new GR.out.2 _ _).new GR.out.2 _ _)⟩
set_option maxRecDepth 20000 in
set_option maxHeartbeats 8000000 in
theorem step_28 (W : World) (t f p c : Nat) (l : List Ins3) (s : St) (A1 : Option Addr) (c1 : Nat) (j : Nat) (hj : s.pc = (j : Int)) (hjl : j < l.length) (hll : l.length ≤ 64) (ag vv : Int) (hx : xn l j = ⟨28, ag, vv⟩) (hok : ∀ x ∈ l, x.ok) (hri : rightI ⟨28, ag, vv⟩ = true) (w : World) (ht : w.heap[t]? = some (.cells (thC f p l.length c .nilIface 0 0 0 0 0) 56 (0, 0))) (hr : RsX W w t f p l s A1 c1) :
    Calls Try.prog 5 #[.pointer (some ⟨t, 0, none⟩)] w (TellPost W w t f p l.length c .nilIface l s A1 c1 4 0 0 0 0) := by
  have hxo : (Ins3.mk 28 ag vv).ok := by rw [← hx]; unfold xn; rw [List.getElem?_eq_getElem hjl]; exact hok _ (List.getElem_mem hjl)
  have HR := Lib.hid (show ∀ w : World, Calls Try.prog 19 #[.agg #[.int .u8 28, .int .i64 ag, .int .u64 vv]] w fun e w' => e = .returned (.bool true) ∧ Below w.heap.size w w' from fun w => by have := codeRight ⟨28, ag, vv⟩ hxo w; rw [hri] at this; exact this)
  have z2 := (Below.refl w.heap.size w).alloc (Nat.le_refl _) (.cells #[.int .u8 0, .int .u8 0, .int .i64 0, .int .u64 0, .int .i64 0] 33)
  have Y2 := Lib.hid (heap_alloc_new w (.cells #[.int .u8 0, .int .u8 0, .int .i64 0, .int .u64 0, .int .i64 0] 33))
  have T2 := Lib.hid (hp_below ht z2)
  have R2 := Lib.hid (hr.below z2)
  have GB := Lib.hid (And.intro hr.bl.size (And.intro (hp_lt ht) (hp_lt hr.hf)))
  have F2 := Lib.hid (TFr.of (t := t) (f := f) z2)
  have HJ := Lib.hid (And.intro hj (And.intro hjl hll))
  have HOK := Lib.hid hok
  have HX := Lib.hid hx
  have hta : ∀ w : World, (Instr.typeAssert .nilIface 20 61 true).run Try.prog w = .ok (.tuple #[.pointer none, .bool false]) w := by intro w; kernel_rfl
  clear ht hr z2 hj hok hx hri hxo
  go_enter Try.func5, Try.ntmps5
  go_upto_region 1 with fail
  generalize World.alloc _ _ = w2 at Y2 T2 R2 F2 ⊢
  obtain ⟨r, hr⟩ : ∃ r, w.heap.size = r := ⟨_, rfl⟩
  have GR := Lib.hid (show W.heap.size ≤ r ∧ w.heap.size ≤ r by have := GB.out.1; omega)
  rw [hr] at Y2
  rw [hr]
  have ne4 : t ≠ r := by have := GB.out.2.1; omega
  have ne6 : r ≠ t := fun e => ne4 e.symm
  have ne8 : r ≠ f := by have := GB.out.2.2; omega
  clear hr
  have u3 : w2.cell? ⟨t, 3, none⟩ = some (.int .u8 0) := hp_cell T2.out 3
  have ul := hp_lt T2.out
  go_upto_region 5 with fail
  clear u3 ul
  have hin := prX_inss R2.out.hp HOK.out (by have := HJ.out; omega)
  have hx3 := xn_some hin hjl
  rw [HX.out] at hx3
  obtain ⟨_, a0, a1, a2⟩ := hx3
  rw [add_at, Nat.zero_add] at a0 a1 a2
  dsimp only at a0 a1 a2
  have la := World.block_lt_of_cell? w2 _ a0
  have hpc : w2.cell? ⟨f, 0, none⟩ = some (.int .i64 (j : Int)) := by rw [← HJ.out.1]; exact hp_cell R2.out.hf 0
  obtain ⟨pcs, hp1, _⟩ := R2.out.hp
  have c0 := cell_regrown (show w2.cell? ⟨t, 0, none⟩ = some (.pointer (some ⟨f, 0, none⟩)) from hp_cell T2.out 0)
  have c1' := cell_regrown (show w2.cell? ⟨t, 1, none⟩ = some (.slice (some ⟨p, 0, none⟩) l.length c) from hp_cell T2.out 1)
  have c2 := cell_regrown hpc
  have c3 := cell_regrown a0
  have c4 := cell_regrown a1
  have c5 := cell_regrown a2
  have g0 : ∀ (d : Nat) (os : Array Obj), t < (Sort.grow (redrawn w2 d) os).heap.size := fun d os => Nat.lt_of_lt_of_le (hp_lt T2.out) (below_regrown w2 d os).size
  have g1 : ∀ (d : Nat) (os : Array Obj), f < (Sort.grow (redrawn w2 d) os).heap.size := fun d os => Nat.lt_of_lt_of_le (hp_lt R2.out.hf) (below_regrown w2 d os).size
  have g2 : ∀ (d : Nat) (os : Array Obj), p < (Sort.grow (redrawn w2 d) os).heap.size := fun d os => Nat.lt_of_lt_of_le (hp_lt hp1) (below_regrown w2 d os).size
  have g3 : ∀ (d : Nat) (os : Array Obj), p < (Sort.grow (redrawn w2 d) os).heap.size := fun d os => Nat.lt_of_lt_of_le (hp_lt hp1) (below_regrown w2 d os).size
  have cR : ∀ (d : Nat) (os : Array Obj), Calls Try.prog 19 #[.agg #[.int .u8 28, .int .i64 ag, .int .u64 vv]] (Sort.grow (redrawn w2 d) os) fun e w'' => e = .returned (.bool true) ∧ ∃ p : Regrown, w'' = Sort.grow (redrawn w2 p.d) p.os := fun d os => Calls.regrown_of (HR.out _)
  have d1 : decide ((j : Int) < 0) = false := decide_eq_false (by omega)
  have d2 : decide ((j : Int) ≥ (l.length : Int)) = false := decide_eq_false (by omega)
  have d3 : decide ((l.length : Int) ≤ (j : Int)) = false := d2
  have d4 : decide (l.length ≤ j) = false := decide_eq_false (by omega)
  have d5 : (j : Int) < (l.length : Int) := by omega
  have d6 : (0 : Int) ≤ (j : Int) := by omega
  clear a0 a1 a2 la hpc hp1 hin
  refine wp_region_quiet_below (by kernel_rfl) (by kernel_rfl) ?_
  repeat (quiet_step ((go_at_call 19; exact cR _ _)))
  refine wpQuiet_nil ?_
  intro _ hw'
  obtain ⟨⟨dq, osq⟩, hw''⟩ := hw'
  subst hw''
  clear c0 c1' c2 c3 c4 c5 g0 g1 g2 g3 cR
  have hb3 := below_regrown w2 dq osq
  have T3 := Lib.hid (hp_below T2.out hb3)
  have R3 := Lib.hid (R2.out.below hb3)
  have Y3 := Lib.hid (hp_below Y2.out hb3)
  have F3 := Lib.hid (F2.out.trans (TFr.of hb3))
  clear hb3 T2 R2 Y2 F2
  generalize Sort.grow (redrawn w2 dq) osq = w3 at T3 R3 Y3 F3 ⊢
  go_upto_region 7 with fail
  have hin := prX_inss R3.out.hp HOK.out (by have := HJ.out; omega)
  have hx3 := xn_some hin hjl
  rw [HX.out] at hx3
  obtain ⟨_, a0, a1, a2⟩ := hx3
  rw [add_at, Nat.zero_add] at a0 a1 a2
  dsimp only at a0 a1 a2
  have la := World.block_lt_of_cell? w3 _ a0
  have hpc : w3.cell? ⟨f, 0, none⟩ = some (.int .i64 (j : Int)) := by rw [← HJ.out.1]; exact hp_cell R3.out.hf 0
  have u0 : w3.cell? ⟨t, 0, none⟩ = some (.pointer (some ⟨f, 0, none⟩)) := hp_cell T3.out 0
  have u1 : w3.cell? ⟨t, 1, none⟩ = some (.slice (some ⟨p, 0, none⟩) l.length c) := hp_cell T3.out 1
  have ul := hp_lt T3.out
  have fl := hp_lt R3.out.hf
  clear hin
  go_region
  have z4 := ((Below.refl w3.heap.size w3).alloc (Nat.le_refl _) (.cells #[.int .u8 28, .int .i64 ag, .int .u64 vv] 53)).drew
  have X4 := Lib.hid (hp_drt (heap_alloc_new w3 (.cells #[.int .u8 28, .int .i64 ag, .int .u64 vv] 53)))
  have T4 := Lib.hid (hp_below T3.out z4)
  have R4 := Lib.hid (R3.out.below z4)
  have Y4 := Lib.hid (hp_below Y3.out z4)
  have F4 := Lib.hid (F3.out.trans (TFr.of z4))
  clear z4 a0 a1 a2 la hpc u0 u1 ul fl T3 R3 Y3 F3
  generalize (w3.alloc _).drew = w4 at X4 T4 R4 Y4 F4 ⊢
  obtain ⟨g, hg⟩ : ∃ g, w3.heap.size = g := ⟨_, rfl⟩
  rw [hg] at X4 ⊢
  clear hg
  have x0 : w4.cell? ⟨g, 0, none⟩ = some (.int .u8 28) := hp_cell (X4.out) 0; have x1 : w4.cell? ⟨g, 1, none⟩ = some (.int .i64 ag) := hp_cell (X4.out) 1; have x2 : w4.cell? ⟨g, 2, none⟩ = some (.int .u64 vv) := hp_cell (X4.out) 2; have xl := hp_lt (X4.out)
  have u2 : w4.cell? ⟨t, 2, none⟩ = some (.nilIface) := hp_cell T4.out 2
  have ul := hp_lt T4.out
  have ne1 := ne4
  have ne2 := ne6
  go_wp2_with (go_at_call 22; refine (outside_28 W t f p l.length c .nilIface l s A1 c1 0 0 0 0 0 ag vv w4 T4.out R4.out).mono ?_; rintro x w5 ⟨rfl, ht3, hr3, hf3⟩; have T5 := Lib.hid ht3; have R5 := Lib.hid hr3; have F5 := Lib.hid (F4.out.trans hf3); have Y5 := Lib.hid (hf3.hp Y4.out ne6 ne8); have y0 : w5.cell? ⟨r, 0, none⟩ = some (.int .u8 0) := hp_cell (Y5.out) 0; have yz0 := hp_frozen (Y5.out) 0; have y1 : w5.cell? ⟨r, 1, none⟩ = some (.int .u8 0) := hp_cell (Y5.out) 1; have yz1 := hp_frozen (Y5.out) 1; have y2 : w5.cell? ⟨r, 2, none⟩ = some (.int .i64 0) := hp_cell (Y5.out) 2; have yz2 := hp_frozen (Y5.out) 2; have y3 : w5.cell? ⟨r, 3, none⟩ = some (.int .u64 0) := hp_cell (Y5.out) 3; have yz3 := hp_frozen (Y5.out) 3; have y4 : w5.cell? ⟨r, 4, none⟩ = some (.int .i64 0) := hp_cell (Y5.out) 4; have yz4 := hp_frozen (Y5.out) 4; have yl := hp_lt (Y5.out); clear ht3 hr3 hf3)
  refine bodyPost_ret (by simp [results, Try.results5, go_sem, y0, y1, y2, y3, y4, ne1, ne2]; try rfl) rfl ?_
  have c0 := hp_put (cs' := #[.int .u8 4, .int .u8 0, .int .i64 0, .int .u64 0, .int .i64 0]) Y5.out 0 (.int .u8 4) (by simp)
  have d0 := hp_far (p := ⟨r, 0, none⟩) T5.out ne4 (.int .u8 4)
  have e0 := R5.out.set Y5.out (by decide) (by decide) (by decide) GR.out.1 0 (.int .u8 4)
  have c1 := hp_put (cs' := #[.int .u8 4, .int .u8 0, .int .i64 0, .int .u64 0, .int .i64 0]) c0 1 (.int .u8 0) (by simp)
  have d1 := hp_far (p := ⟨r, 1, none⟩) d0 ne4 (.int .u8 0)
  have e1 := e0.set c0 (by decide) (by decide) (by decide) GR.out.1 1 (.int .u8 0)
  have c2 := hp_put (cs' := #[.int .u8 4, .int .u8 0, .int .i64 0, .int .u64 0, .int .i64 0]) c1 2 (.int .i64 0) (by simp)
  have d2 := hp_far (p := ⟨r, 2, none⟩) d1 ne4 (.int .i64 0)
  have e2 := e1.set c1 (by decide) (by decide) (by decide) GR.out.1 2 (.int .i64 0)
  have c3 := hp_put (cs' := #[.int .u8 4, .int .u8 0, .int .i64 0, .int .u64 0, .int .i64 0]) c2 3 (.int .u64 0) (by simp)
  have d3 := hp_far (p := ⟨r, 3, none⟩) d2 ne4 (.int .u64 0)
  have e3 := e2.set c2 (by decide) (by decide) (by decide) GR.out.1 3 (.int .u64 0)
  have c4 := hp_put (cs' := #[.int .u8 4, .int .u8 0, .int .i64 0, .int .u64 0, .int .i64 0]) c3 4 (.int .i64 0) (by simp)
  have d4 := hp_far (p := ⟨r, 4, none⟩) d3 ne4 (.int .i64 0)
  have e4 := e3.set c3 (by decide) (by decide) (by decide) GR.out.1 4 (.int .i64 0)
  exact ⟨rfl, d4, e4, (((((F5.out.new GR.out.2 _ _).new GR.out.2 _ _).new GR.out.2 _ _).new GR.out.2 _ _).new GR.out.2 _ _)⟩
set_option maxRecDepth 20000 in
set_option maxHeartbeats 8000000 in
theorem step_22 (W : World) (t f p c : Nat) (l : List Ins3) (s : St) (A1 : Option Addr) (c1 : Nat) (j : Nat) (hj : s.pc = (j : Int)) (hjl : j < l.length) (hll : l.length ≤ 64) (ag vv : Int) (hx : xn l j = ⟨22, ag, vv⟩) (hok : ∀ x ∈ l, x.ok) (hri : rightI ⟨22, ag, vv⟩ = true) (b : Nat) (q0 q1 q2 q3 q4 q5 q6 : Value) (w : World) (ht : w.heap[t]? = some (.cells (thC f p l.length c (.iface 61 (.pointer (some ⟨b, 0, none⟩))) 0 0 0 0 0) 56 (0, 0))) (hr : RsX W w t f p l s A1 c1) (hb : w.heap[b]? = some (.cells #[q0, q1, q2, q3, q4, q5, q6, .slice none 0 0] 67 (0, 0))) :
    Calls Try.prog 5 #[.pointer (some ⟨t, 0, none⟩)] w (TellPost W w t f p l.length c (.iface 61 (.pointer (some ⟨b, 0, none⟩))) l s A1 c1 2 6 0 0 0) := by
  have hxo : (Ins3.mk 22 ag vv).ok := by rw [← hx]; unfold xn; rw [List.getElem?_eq_getElem hjl]; exact hok _ (List.getElem_mem hjl)
  have HR := Lib.hid (show ∀ w : World, Calls Try.prog 19 #[.agg #[.int .u8 22, .int .i64 ag, .int .u64 vv]] w fun e w' => e = .returned (.bool true) ∧ Below w.heap.size w w' from fun w => by have := codeRight ⟨22, ag, vv⟩ hxo w; rw [hri] at this; exact this)
  have z2 := (Below.refl w.heap.size w).alloc (Nat.le_refl _) (.cells #[.int .u8 0, .int .u8 0, .int .i64 0, .int .u64 0, .int .i64 0] 33)
  have Y2 := Lib.hid (heap_alloc_new w (.cells #[.int .u8 0, .int .u8 0, .int .i64 0, .int .u64 0, .int .i64 0] 33))
  have T2 := Lib.hid (hp_below ht z2)
  have R2 := Lib.hid (hr.below z2)
  have GB := Lib.hid (And.intro hr.bl.size (And.intro (hp_lt ht) (hp_lt hr.hf)))
  have F2 := Lib.hid (TFr.of (t := t) (f := f) z2)
  have HJ := Lib.hid (And.intro hj (And.intro hjl hll))
  have HOK := Lib.hid hok
  have HX := Lib.hid hx
  have Z2 := Lib.hid (hp_below hb z2)
  have hta : ∀ w : World, (Instr.typeAssert (.iface 61 (.pointer (some ⟨b, 0, none⟩))) 20 61 true).run Try.prog w = .ok (.tuple #[.pointer (some ⟨b, 0, none⟩), .bool true]) w := by intro w; kernel_rfl
  clear ht hr z2 hj hok hx hri hxo hb
  go_enter Try.func5, Try.ntmps5
  go_upto_region 1 with fail
  generalize World.alloc _ _ = w2 at Y2 T2 R2 F2 Z2 ⊢
  obtain ⟨r, hr⟩ : ∃ r, w.heap.size = r := ⟨_, rfl⟩
  have GR := Lib.hid (show W.heap.size ≤ r ∧ w.heap.size ≤ r by have := GB.out.1; omega)
  rw [hr] at Y2
  rw [hr]
  have ne4 : t ≠ r := by have := GB.out.2.1; omega
  have ne6 : r ≠ t := fun e => ne4 e.symm
  have ne8 : r ≠ f := by have := GB.out.2.2; omega
  clear hr
  have u3 : w2.cell? ⟨t, 3, none⟩ = some (.int .u8 0) := hp_cell T2.out 3
  have ul := hp_lt T2.out
  go_upto_region 5 with fail
  clear u3 ul
  have hin := prX_inss R2.out.hp HOK.out (by have := HJ.out; omega)
  have hx3 := xn_some hin hjl
  rw [HX.out] at hx3
  obtain ⟨_, a0, a1, a2⟩ := hx3
  rw [add_at, Nat.zero_add] at a0 a1 a2
  dsimp only at a0 a1 a2
  have la := World.block_lt_of_cell? w2 _ a0
  have hpc : w2.cell? ⟨f, 0, none⟩ = some (.int .i64 (j : Int)) := by rw [← HJ.out.1]; exact hp_cell R2.out.hf 0
  obtain ⟨pcs, hp1, _⟩ := R2.out.hp
  have c0 := cell_regrown (show w2.cell? ⟨t, 0, none⟩ = some (.pointer (some ⟨f, 0, none⟩)) from hp_cell T2.out 0)
  have c1' := cell_regrown (show w2.cell? ⟨t, 1, none⟩ = some (.slice (some ⟨p, 0, none⟩) l.length c) from hp_cell T2.out 1)
  have c2 := cell_regrown hpc
  have c3 := cell_regrown a0
  have c4 := cell_regrown a1
  have c5 := cell_regrown a2
  have g0 : ∀ (d : Nat) (os : Array Obj), t < (Sort.grow (redrawn w2 d) os).heap.size := fun d os => Nat.lt_of_lt_of_le (hp_lt T2.out) (below_regrown w2 d os).size
  have g1 : ∀ (d : Nat) (os : Array Obj), f < (Sort.grow (redrawn w2 d) os).heap.size := fun d os => Nat.lt_of_lt_of_le (hp_lt R2.out.hf) (below_regrown w2 d os).size
  have g2 : ∀ (d : Nat) (os : Array Obj), p < (Sort.grow (redrawn w2 d) os).heap.size := fun d os => Nat.lt_of_lt_of_le (hp_lt hp1) (below_regrown w2 d os).size
  have g3 : ∀ (d : Nat) (os : Array Obj), p < (Sort.grow (redrawn w2 d) os).heap.size := fun d os => Nat.lt_of_lt_of_le (hp_lt hp1) (below_regrown w2 d os).size
  have cR : ∀ (d : Nat) (os : Array Obj), Calls Try.prog 19 #[.agg #[.int .u8 22, .int .i64 ag, .int .u64 vv]] (Sort.grow (redrawn w2 d) os) fun e w'' => e = .returned (.bool true) ∧ ∃ p : Regrown, w'' = Sort.grow (redrawn w2 p.d) p.os := fun d os => Calls.regrown_of (HR.out _)
  have d1 : decide ((j : Int) < 0) = false := decide_eq_false (by omega)
  have d2 : decide ((j : Int) ≥ (l.length : Int)) = false := decide_eq_false (by omega)
  have d3 : decide ((l.length : Int) ≤ (j : Int)) = false := d2
  have d4 : decide (l.length ≤ j) = false := decide_eq_false (by omega)
  have d5 : (j : Int) < (l.length : Int) := by omega
  have d6 : (0 : Int) ≤ (j : Int) := by omega
  clear a0 a1 a2 la hpc hp1 hin
  refine wp_region_quiet_below (by kernel_rfl) (by kernel_rfl) ?_
  repeat (quiet_step ((go_at_call 19; exact cR _ _)))
  refine wpQuiet_nil ?_
  intro _ hw'
  obtain ⟨⟨dq, osq⟩, hw''⟩ := hw'
  subst hw''
  clear c0 c1' c2 c3 c4 c5 g0 g1 g2 g3 cR
  have hb3 := below_regrown w2 dq osq
  have T3 := Lib.hid (hp_below T2.out hb3)
  have R3 := Lib.hid (R2.out.below hb3)
  have Y3 := Lib.hid (hp_below Y2.out hb3)
  have F3 := Lib.hid (F2.out.trans (TFr.of hb3))
  have Z3 := Lib.hid (hp_below Z2.out hb3)
  clear hb3 T2 R2 Y2 F2 Z2
  generalize Sort.grow (redrawn w2 dq) osq = w3 at T3 R3 Y3 F3 Z3 ⊢
  go_upto_region 7 with fail
  have hin := prX_inss R3.out.hp HOK.out (by have := HJ.out; omega)
  have hx3 := xn_some hin hjl
  rw [HX.out] at hx3
  obtain ⟨_, a0, a1, a2⟩ := hx3
  rw [add_at, Nat.zero_add] at a0 a1 a2
  dsimp only at a0 a1 a2
  have la := World.block_lt_of_cell? w3 _ a0
  have hpc : w3.cell? ⟨f, 0, none⟩ = some (.int .i64 (j : Int)) := by rw [← HJ.out.1]; exact hp_cell R3.out.hf 0
  have u0 : w3.cell? ⟨t, 0, none⟩ = some (.pointer (some ⟨f, 0, none⟩)) := hp_cell T3.out 0
  have u1 : w3.cell? ⟨t, 1, none⟩ = some (.slice (some ⟨p, 0, none⟩) l.length c) := hp_cell T3.out 1
  have ul := hp_lt T3.out
  have fl := hp_lt R3.out.hf
  clear hin
  go_region
  have z4 := ((Below.refl w3.heap.size w3).alloc (Nat.le_refl _) (.cells #[.int .u8 22, .int .i64 ag, .int .u64 vv] 53)).drew
  have X4 := Lib.hid (hp_drt (heap_alloc_new w3 (.cells #[.int .u8 22, .int .i64 ag, .int .u64 vv] 53)))
  have T4 := Lib.hid (hp_below T3.out z4)
  have R4 := Lib.hid (R3.out.below z4)
  have Y4 := Lib.hid (hp_below Y3.out z4)
  have F4 := Lib.hid (F3.out.trans (TFr.of z4))
  have Z4 := Lib.hid (hp_below Z3.out z4)
  clear z4 a0 a1 a2 la hpc u0 u1 ul fl T3 R3 Y3 F3 Z3
  generalize (w3.alloc _).drew = w4 at X4 T4 R4 Y4 F4 Z4 ⊢
  obtain ⟨g, hg⟩ : ∃ g, w3.heap.size = g := ⟨_, rfl⟩
  rw [hg] at X4 ⊢
  clear hg
  have x0 : w4.cell? ⟨g, 0, none⟩ = some (.int .u8 22) := hp_cell (X4.out) 0; have x1 : w4.cell? ⟨g, 1, none⟩ = some (.int .i64 ag) := hp_cell (X4.out) 1; have x2 : w4.cell? ⟨g, 2, none⟩ = some (.int .u64 vv) := hp_cell (X4.out) 2; have xl := hp_lt (X4.out)
  have u2 : w4.cell? ⟨t, 2, none⟩ = some ((.iface 61 (.pointer (some ⟨b, 0, none⟩)))) := hp_cell T4.out 2
  have ul := hp_lt T4.out
  have ne1 := ne4
  have ne2 := ne6
  go_wp2_with (go_at_call 21; refine (inside_22 W t f p l.length c (.iface 61 (.pointer (some ⟨b, 0, none⟩))) l s A1 c1 0 0 0 0 0 ag vv b q0 q1 q2 q3 q4 q5 q6 w4 T4.out R4.out Z4.out).mono ?_; rintro x w5 ⟨rfl, ht3, hr3, hf3⟩; have T5 := Lib.hid ht3; have R5 := Lib.hid hr3; have F5 := Lib.hid (F4.out.trans hf3); have Y5 := Lib.hid (hf3.hp Y4.out ne6 ne8); have y0 : w5.cell? ⟨r, 0, none⟩ = some (.int .u8 0) := hp_cell (Y5.out) 0; have yz0 := hp_frozen (Y5.out) 0; have y1 : w5.cell? ⟨r, 1, none⟩ = some (.int .u8 0) := hp_cell (Y5.out) 1; have yz1 := hp_frozen (Y5.out) 1; have y2 : w5.cell? ⟨r, 2, none⟩ = some (.int .i64 0) := hp_cell (Y5.out) 2; have yz2 := hp_frozen (Y5.out) 2; have y3 : w5.cell? ⟨r, 3, none⟩ = some (.int .u64 0) := hp_cell (Y5.out) 3; have yz3 := hp_frozen (Y5.out) 3; have y4 : w5.cell? ⟨r, 4, none⟩ = some (.int .i64 0) := hp_cell (Y5.out) 4; have yz4 := hp_frozen (Y5.out) 4; have yl := hp_lt (Y5.out); clear ht3 hr3 hf3)
  refine bodyPost_ret (by simp [results, Try.results5, go_sem, y0, y1, y2, y3, y4, ne1, ne2]; try rfl) rfl ?_
  have c0 := hp_put (cs' := #[.int .u8 2, .int .u8 0, .int .i64 0, .int .u64 0, .int .i64 0]) Y5.out 0 (.int .u8 2) (by simp)
  have d0 := hp_far (p := ⟨r, 0, none⟩) T5.out ne4 (.int .u8 2)
  have e0 := R5.out.set Y5.out (by decide) (by decide) (by decide) GR.out.1 0 (.int .u8 2)
  have c1 := hp_put (cs' := #[.int .u8 2, .int .u8 6, .int .i64 0, .int .u64 0, .int .i64 0]) c0 1 (.int .u8 6) (by simp)
  have d1 := hp_far (p := ⟨r, 1, none⟩) d0 ne4 (.int .u8 6)
  have e1 := e0.set c0 (by decide) (by decide) (by decide) GR.out.1 1 (.int .u8 6)
  have c2 := hp_put (cs' := #[.int .u8 2, .int .u8 6, .int .i64 0, .int .u64 0, .int .i64 0]) c1 2 (.int .i64 0) (by simp)
  have d2 := hp_far (p := ⟨r, 2, none⟩) d1 ne4 (.int .i64 0)
  have e2 := e1.set c1 (by decide) (by decide) (by decide) GR.out.1 2 (.int .i64 0)
  have c3 := hp_put (cs' := #[.int .u8 2, .int .u8 6, .int .i64 0, .int .u64 0, .int .i64 0]) c2 3 (.int .u64 0) (by simp)
  have d3 := hp_far (p := ⟨r, 3, none⟩) d2 ne4 (.int .u64 0)
  have e3 := e2.set c2 (by decide) (by decide) (by decide) GR.out.1 3 (.int .u64 0)
  have c4 := hp_put (cs' := #[.int .u8 2, .int .u8 6, .int .i64 0, .int .u64 0, .int .i64 0]) c3 4 (.int .i64 0) (by simp)
  have d4 := hp_far (p := ⟨r, 4, none⟩) d3 ne4 (.int .i64 0)
  have e4 := e3.set c3 (by decide) (by decide) (by decide) GR.out.1 4 (.int .i64 0)
  exact ⟨rfl, d4, e4, (((((F5.out.new GR.out.2 _ _).new GR.out.2 _ _).new GR.out.2 _ _).new GR.out.2 _ _).new GR.out.2 _ _)⟩
set_option maxRecDepth 20000 in
set_option maxHeartbeats 8000000 in
theorem step_4 (W : World) (t f p c : Nat) (l : List Ins3) (s : St) (A1 : Option Addr) (c1 : Nat) (j : Nat) (hj : s.pc = (j : Int)) (hjl : j < l.length) (hll : l.length ≤ 64) (ag vv : Int) (hx : xn l j = ⟨4, ag, vv⟩) (hok : ∀ x ∈ l, x.ok) (hri : rightI ⟨4, ag, vv⟩ = true) (b : Nat) (q0 q1 q2 q3 q4 q5 q6 : Value) (hns : s.stk.length ≤ 11) (w : World) (ht : w.heap[t]? = some (.cells (thC f p l.length c (.iface 61 (.pointer (some ⟨b, 0, none⟩))) 0 0 0 0 0) 56 (0, 0))) (hr : RsX W w t f p l s A1 c1) (hb : w.heap[b]? = some (.cells #[q0, q1, q2, q3, q4, q5, q6, .slice none 0 0] 67 (0, 0))) :
    Calls Try.prog 5 #[.pointer (some ⟨t, 0, none⟩)] w (fun x w' => ∃ A2 c2, TellPost W w t f p l.length c (.iface 61 (.pointer (some ⟨b, 0, none⟩))) l s A2 c2 2 1 ag 0 0 x w') := by
  have hxo : (Ins3.mk 4 ag vv).ok := by rw [← hx]; unfold xn; rw [List.getElem?_eq_getElem hjl]; exact hok _ (List.getElem_mem hjl)
  have HR := Lib.hid (show ∀ w : World, Calls Try.prog 19 #[.agg #[.int .u8 4, .int .i64 ag, .int .u64 vv]] w fun e w' => e = .returned (.bool true) ∧ Below w.heap.size w w' from fun w => by have := codeRight ⟨4, ag, vv⟩ hxo w; rw [hri] at this; exact this)
  have z2 := (Below.refl w.heap.size w).alloc (Nat.le_refl _) (.cells #[.int .u8 0, .int .u8 0, .int .i64 0, .int .u64 0, .int .i64 0] 33)
  have Y2 := Lib.hid (heap_alloc_new w (.cells #[.int .u8 0, .int .u8 0, .int .i64 0, .int .u64 0, .int .i64 0] 33))
  have T2 := Lib.hid (hp_below ht z2)
  have R2 := Lib.hid (hr.below z2)
  have GB := Lib.hid (And.intro hr.bl.size (And.intro (hp_lt ht) (hp_lt hr.hf)))
  have F2 := Lib.hid (TFr.of (t := t) (f := f) z2)
  have HJ := Lib.hid (And.intro hj (And.intro hjl hll))
  have HOK := Lib.hid hok
  have HX := Lib.hid hx
  have Z2 := Lib.hid (hp_below hb z2)
  have hta : ∀ w : World, (Instr.typeAssert (.iface 61 (.pointer (some ⟨b, 0, none⟩))) 20 61 true).run Try.prog w = .ok (.tuple #[.pointer (some ⟨b, 0, none⟩), .bool true]) w := by intro w; kernel_rfl
  clear ht hr z2 hj hok hx hri hxo hb
  go_enter Try.func5, Try.ntmps5
  go_upto_region 1 with fail
  generalize World.alloc _ _ = w2 at Y2 T2 R2 F2 Z2 ⊢
  obtain ⟨r, hr⟩ : ∃ r, w.heap.size = r := ⟨_, rfl⟩
  have GR := Lib.hid (show W.heap.size ≤ r ∧ w.heap.size ≤ r by have := GB.out.1; omega)
  rw [hr] at Y2
  rw [hr]
  have ne4 : t ≠ r := by have := GB.out.2.1; omega
  have ne6 : r ≠ t := fun e => ne4 e.symm
  have ne8 : r ≠ f := by have := GB.out.2.2; omega
  clear hr
  have u3 : w2.cell? ⟨t, 3, none⟩ = some (.int .u8 0) := hp_cell T2.out 3
  have ul := hp_lt T2.out
  go_upto_region 5 with fail
  clear u3 ul
  have hin := prX_inss R2.out.hp HOK.out (by have := HJ.out; omega)
  have hx3 := xn_some hin hjl
  rw [HX.out] at hx3
  obtain ⟨_, a0, a1, a2⟩ := hx3
  rw [add_at, Nat.zero_add] at a0 a1 a2
  dsimp only at a0 a1 a2
  have la := World.block_lt_of_cell? w2 _ a0
  have hpc : w2.cell? ⟨f, 0, none⟩ = some (.int .i64 (j : Int)) := by rw [← HJ.out.1]; exact hp_cell R2.out.hf 0
  obtain ⟨pcs, hp1, _⟩ := R2.out.hp
  have c0 := cell_regrown (show w2.cell? ⟨t, 0, none⟩ = some (.pointer (some ⟨f, 0, none⟩)) from hp_cell T2.out 0)
  have c1' := cell_regrown (show w2.cell? ⟨t, 1, none⟩ = some (.slice (some ⟨p, 0, none⟩) l.length c) from hp_cell T2.out 1)
  have c2 := cell_regrown hpc
  have c3 := cell_regrown a0
  have c4 := cell_regrown a1
  have c5 := cell_regrown a2
  have g0 : ∀ (d : Nat) (os : Array Obj), t < (Sort.grow (redrawn w2 d) os).heap.size := fun d os => Nat.lt_of_lt_of_le (hp_lt T2.out) (below_regrown w2 d os).size
  have g1 : ∀ (d : Nat) (os : Array Obj), f < (Sort.grow (redrawn w2 d) os).heap.size := fun d os => Nat.lt_of_lt_of_le (hp_lt R2.out.hf) (below_regrown w2 d os).size
  have g2 : ∀ (d : Nat) (os : Array Obj), p < (Sort.grow (redrawn w2 d) os).heap.size := fun d os => Nat.lt_of_lt_of_le (hp_lt hp1) (below_regrown w2 d os).size
  have g3 : ∀ (d : Nat) (os : Array Obj), p < (Sort.grow (redrawn w2 d) os).heap.size := fun d os => Nat.lt_of_lt_of_le (hp_lt hp1) (below_regrown w2 d os).size
  have cR : ∀ (d : Nat) (os : Array Obj), Calls Try.prog 19 #[.agg #[.int .u8 4, .int .i64 ag, .int .u64 vv]] (Sort.grow (redrawn w2 d) os) fun e w'' => e = .returned (.bool true) ∧ ∃ p : Regrown, w'' = Sort.grow (redrawn w2 p.d) p.os := fun d os => Calls.regrown_of (HR.out _)
  have d1 : decide ((j : Int) < 0) = false := decide_eq_false (by omega)
  have d2 : decide ((j : Int) ≥ (l.length : Int)) = false := decide_eq_false (by omega)
  have d3 : decide ((l.length : Int) ≤ (j : Int)) = false := d2
  have d4 : decide (l.length ≤ j) = false := decide_eq_false (by omega)
  have d5 : (j : Int) < (l.length : Int) := by omega
  have d6 : (0 : Int) ≤ (j : Int) := by omega
  clear a0 a1 a2 la hpc hp1 hin
  refine wp_region_quiet_below (by kernel_rfl) (by kernel_rfl) ?_
  repeat (quiet_step ((go_at_call 19; exact cR _ _)))
  refine wpQuiet_nil ?_
  intro _ hw'
  obtain ⟨⟨dq, osq⟩, hw''⟩ := hw'
  subst hw''
  clear c0 c1' c2 c3 c4 c5 g0 g1 g2 g3 cR
  have hb3 := below_regrown w2 dq osq
  have T3 := Lib.hid (hp_below T2.out hb3)
  have R3 := Lib.hid (R2.out.below hb3)
  have Y3 := Lib.hid (hp_below Y2.out hb3)
  have F3 := Lib.hid (F2.out.trans (TFr.of hb3))
  have Z3 := Lib.hid (hp_below Z2.out hb3)
  clear hb3 T2 R2 Y2 F2 Z2
  generalize Sort.grow (redrawn w2 dq) osq = w3 at T3 R3 Y3 F3 Z3 ⊢
  go_upto_region 7 with fail
  have hin := prX_inss R3.out.hp HOK.out (by have := HJ.out; omega)
  have hx3 := xn_some hin hjl
  rw [HX.out] at hx3
  obtain ⟨_, a0, a1, a2⟩ := hx3
  rw [add_at, Nat.zero_add] at a0 a1 a2
  dsimp only at a0 a1 a2
  have la := World.block_lt_of_cell? w3 _ a0
  have hpc : w3.cell? ⟨f, 0, none⟩ = some (.int .i64 (j : Int)) := by rw [← HJ.out.1]; exact hp_cell R3.out.hf 0
  have u0 : w3.cell? ⟨t, 0, none⟩ = some (.pointer (some ⟨f, 0, none⟩)) := hp_cell T3.out 0
  have u1 : w3.cell? ⟨t, 1, none⟩ = some (.slice (some ⟨p, 0, none⟩) l.length c) := hp_cell T3.out 1
  have ul := hp_lt T3.out
  have fl := hp_lt R3.out.hf
  clear hin
  go_region
  have z4 := ((Below.refl w3.heap.size w3).alloc (Nat.le_refl _) (.cells #[.int .u8 4, .int .i64 ag, .int .u64 vv] 53)).drew
  have X4 := Lib.hid (hp_drt (heap_alloc_new w3 (.cells #[.int .u8 4, .int .i64 ag, .int .u64 vv] 53)))
  have T4 := Lib.hid (hp_below T3.out z4)
  have R4 := Lib.hid (R3.out.below z4)
  have Y4 := Lib.hid (hp_below Y3.out z4)
  have F4 := Lib.hid (F3.out.trans (TFr.of z4))
  have Z4 := Lib.hid (hp_below Z3.out z4)
  clear z4 a0 a1 a2 la hpc u0 u1 ul fl T3 R3 Y3 F3 Z3
  generalize (w3.alloc _).drew = w4 at X4 T4 R4 Y4 F4 Z4 ⊢
  obtain ⟨g, hg⟩ : ∃ g, w3.heap.size = g := ⟨_, rfl⟩
  rw [hg] at X4 ⊢
  clear hg
  have x0 : w4.cell? ⟨g, 0, none⟩ = some (.int .u8 4) := hp_cell (X4.out) 0; have x1 : w4.cell? ⟨g, 1, none⟩ = some (.int .i64 ag) := hp_cell (X4.out) 1; have x2 : w4.cell? ⟨g, 2, none⟩ = some (.int .u64 vv) := hp_cell (X4.out) 2; have xl := hp_lt (X4.out)
  have u2 : w4.cell? ⟨t, 2, none⟩ = some ((.iface 61 (.pointer (some ⟨b, 0, none⟩)))) := hp_cell T4.out 2
  have ul := hp_lt T4.out
  have ne1 := ne4
  have ne2 := ne6
  go_wp2_with (go_at_call 21; refine (inside_4 W t f p l.length c (.iface 61 (.pointer (some ⟨b, 0, none⟩))) l s A1 c1 0 0 0 0 0 ag vv hns b q0 q1 q2 q3 q4 q5 q6 w4 T4.out R4.out Z4.out).mono ?_; rintro x w5 ⟨Aq, cq, rfl, ht3, hr3, hf3⟩; have T5 := Lib.hid ht3; have R5 := Lib.hid hr3; have F5 := Lib.hid (F4.out.trans hf3); have Y5 := Lib.hid (hf3.hp Y4.out ne6 ne8); have y0 : w5.cell? ⟨r, 0, none⟩ = some (.int .u8 0) := hp_cell (Y5.out) 0; have yz0 := hp_frozen (Y5.out) 0; have y1 : w5.cell? ⟨r, 1, none⟩ = some (.int .u8 0) := hp_cell (Y5.out) 1; have yz1 := hp_frozen (Y5.out) 1; have y2 : w5.cell? ⟨r, 2, none⟩ = some (.int .i64 0) := hp_cell (Y5.out) 2; have yz2 := hp_frozen (Y5.out) 2; have y3 : w5.cell? ⟨r, 3, none⟩ = some (.int .u64 0) := hp_cell (Y5.out) 3; have yz3 := hp_frozen (Y5.out) 3; have y4 : w5.cell? ⟨r, 4, none⟩ = some (.int .i64 0) := hp_cell (Y5.out) 4; have yz4 := hp_frozen (Y5.out) 4; have yl := hp_lt (Y5.out); clear ht3 hr3 hf3)
  refine bodyPost_ret (by simp [results, Try.results5, go_sem, y0, y1, y2, y3, y4, ne1, ne2]; try rfl) rfl ?_
  have c0 := hp_put (cs' := #[.int .u8 2, .int .u8 0, .int .i64 0, .int .u64 0, .int .i64 0]) Y5.out 0 (.int .u8 2) (by simp)
  have d0 := hp_far (p := ⟨r, 0, none⟩) T5.out ne4 (.int .u8 2)
  have e0 := R5.out.set Y5.out (by decide) (by decide) (by decide) GR.out.1 0 (.int .u8 2)
  have c1 := hp_put (cs' := #[.int .u8 2, .int .u8 1, .int .i64 0, .int .u64 0, .int .i64 0]) c0 1 (.int .u8 1) (by simp)
  have d1 := hp_far (p := ⟨r, 1, none⟩) d0 ne4 (.int .u8 1)
  have e1 := e0.set c0 (by decide) (by decide) (by decide) GR.out.1 1 (.int .u8 1)
  have c2 := hp_put (cs' := #[.int .u8 2, .int .u8 1, .int .i64 ag, .int .u64 0, .int .i64 0]) c1 2 (.int .i64 ag) (by simp)
  have d2 := hp_far (p := ⟨r, 2, none⟩) d1 ne4 (.int .i64 ag)
  have e2 := e1.set c1 (by decide) (by decide) (by decide) GR.out.1 2 (.int .i64 ag)
  have c3 := hp_put (cs' := #[.int .u8 2, .int .u8 1, .int .i64 ag, .int .u64 0, .int .i64 0]) c2 3 (.int .u64 0) (by simp)
  have d3 := hp_far (p := ⟨r, 3, none⟩) d2 ne4 (.int .u64 0)
  have e3 := e2.set c2 (by decide) (by decide) (by decide) GR.out.1 3 (.int .u64 0)
  have c4 := hp_put (cs' := #[.int .u8 2, .int .u8 1, .int .i64 ag, .int .u64 0, .int .i64 0]) c3 4 (.int .i64 0) (by simp)
  have d4 := hp_far (p := ⟨r, 4, none⟩) d3 ne4 (.int .i64 0)
  have e4 := e3.set c3 (by decide) (by decide) (by decide) GR.out.1 4 (.int .i64 0)
  exact ⟨Aq, cq, rfl, d4, e4, (((((F5.out.new GR.out.2 _ _).new GR.out.2 _ _).new GR.out.2 _ _).new GR.out.2 _ _).new GR.out.2 _ _)⟩
end Go.Proofs.Ytdkcmnnhjnapiaa
