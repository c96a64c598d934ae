
/-
  A thread: a variable that is read; New.
-/
import Derived.Test.YtdkcmnnhjnapiaaTh2
namespace Go.Proofs.Ytdkcmnnhjnapiaa
open Go.RowKit Go.ChangeShapes Go.WideShapes
set_option linter.unusedSimpArgs false
set_option linter.unusedVariables false

section
variable {W w w1 : World} {t f p : Nat} {l : List Ins3} {s : St} {A1 : Option Addr} {c1 : Nat}
theorem RsX.stk (h : RsX W w t f p l s A1 c1) {A2 : Option Addr} {c2 : Nat} {l2 : List Int} (hr : RowAt w 0 A2 c2 l2) : RsX W (w.setCell ⟨f, 1, none⟩ (.slice A2 l2.length c2)) t f p l { s with stk := l2 } A2 c2 := by
  obtain ⟨ps, q1, q2⟩ := h.hp
  exact ⟨hp_put h.hf 1 _ (by simp [stC]), ⟨ps, hp_far q1 (hp_ne q1 h.hf (by decide)) _, q2⟩, row_far hr h.hf (by decide) 1 _, bl_new h.bl h.bf _, h.bt, h.bf⟩
theorem RsX.pc (h : RsX W w t f p l s A1 c1) (n : Int) : RsX W (w.setCell ⟨f, 0, none⟩ (.int .i64 n)) t f p l { s with pc := n } A1 c1 := by
  obtain ⟨ps, q1, q2⟩ := h.hp
  exact ⟨hp_put h.hf 0 _ (by simp [stC]), ⟨ps, hp_far q1 (hp_ne q1 h.hf (by decide)) _, q2⟩, row_far h.row h.hf (by decide) 0 _, bl_new h.bl h.bf _, h.bt, h.bf⟩
theorem hp_drt {g : Nat} {o : Obj} (h : w.heap[g]? = some o) : w.drew.heap[g]? = some o := h
theorem RsX.drew (h : RsX W w t f p l s A1 c1) : RsX W w.drew t f p l s A1 c1 := h.below (Below.refl _ _).drew
end
set_option maxRecDepth 20000 in
set_option maxHeartbeats 8000000 in
theorem variable_4 (W : World) (t f p n c : Nat) (iv : Value) (l : List Ins3) (s : St) (A1 : Option Addr) (c1 : Nat) (k0 ak0 tv0 v0 e0 ag vv : Int) (hn : s.stk.length ≤ 11) (w : World) (ht : w.heap[t]? = some (.cells (thC f p n c iv k0 ak0 tv0 v0 e0) 56 (0, 0))) (hr : RsX W w t f p l s A1 c1) :
    Calls Try.prog 35 #[.pointer (some ⟨t, 0, none⟩), .agg #[.int .u8 4, .int .i64 ag, .int .u64 vv]] w (fun x w' => ∃ A2 c2, TellPost W w t f p n c iv l s A2 c2 2 1 ag 0 0 x w') := by
  have HE := Lib.hid (show ∀ w : World, Calls Try.prog 39 #[.int .u8 4] w fun e w' => e = .returned (.tuple #[.int .i64 0, .int .i64 1]) ∧ Below w.heap.size w w' from fun w => effect_any 4 (by decide) (by decide) w)
  obtain ⟨m, hm⟩ : ∃ m, s.stk.length = m := ⟨_, rfl⟩
  have HM := Lib.hid (And.intro hm hn)
  have dd1 : decide ((m : Int) < 0) = false := decide_eq_false (by omega)
  have dd2 : decide ((m : Int) > 11) = false := decide_eq_false (by omega)
  have dd3 : decide ((11 : Int) < (m : Int)) = false := dd2
  have dd4 : decide (11 < m) = false := decide_eq_false (by omega)
  have dd5 : wrap64 (m : Int) = (m : Int) := by unfold wrap64; omega
  obtain ⟨pz, hpz⟩ : ∃ pz : Int, pz = 0 := ⟨0, rfl⟩
  have hro := hr.row
  have z1 := (Below.refl w.heap.size w).alloc (Nat.le_refl _) (.cells #[.int .u8 4, .int .i64 ag, .int .u64 vv] 53)
  have z2 := z1.alloc z1.size (.cells #[.int .u8 0, .int .u8 0, .int .i64 0, .int .u64 0, .int .i64 0] 33)
  have X2 := Lib.hid (hp_alloc (heap_alloc_new w (.cells #[.int .u8 4, .int .i64 ag, .int .u64 vv] 53)) (.cells #[.int .u8 0, .int .u8 0, .int .i64 0, .int .u64 0, .int .i64 0] 33))
  have Y2 := Lib.hid (show ((w.alloc (.cells #[.int .u8 4, .int .i64 ag, .int .u64 vv] 53)).alloc (.cells #[.int .u8 0, .int .u8 0, .int .i64 0, .int .u64 0, .int .i64 0] 33)).heap[w.heap.size + 1]? = some (.cells #[.int .u8 0, .int .u8 0, .int .i64 0, .int .u64 0, .int .i64 0] 33 (0, 0)) from (congrArg _ (by simp)).trans (heap_alloc_new (w.alloc (.cells #[.int .u8 4, .int .i64 ag, .int .u64 vv] 53)) (.cells #[.int .u8 0, .int .u8 0, .int .i64 0, .int .u64 0, .int .i64 0] 33)))
  have T2 := Lib.hid (hp_below ht z2)
  have R2 := Lib.hid (hr.below z2)
  have GB := Lib.hid (And.intro hr.bl.size (And.intro (hp_lt ht) (hp_lt hr.hf)))
  have F2 := Lib.hid (TFr.of (t := t) (f := f) z2)
  clear ht hr z1 z2 hm hn hro hpz
  go_enter Try.func35, Try.ntmps35
  go_upto_region 1 with fail
  generalize World.alloc _ _ = w2 at X2 Y2 T2 R2 F2 ⊢
  obtain ⟨g, hg⟩ : ∃ g, w.heap.size = g := ⟨_, rfl⟩
  obtain ⟨r, hr⟩ : ∃ r, w.heap.size + 1 = r := ⟨_, rfl⟩
  have GR := Lib.hid (show W.heap.size ≤ r ∧ w.heap.size ≤ r ∧ w.heap.size ≤ g ∧ W.heap.size ≤ g by have := GB.out.1; omega)
  rw [hg] at X2 GB
  rw [hr] at Y2
  rw [hr, hg]
  have ne1 : g ≠ r := by omega
  have ne2 : r ≠ g := by omega
  have ne3 : t ≠ g := by have := GB.out.2.1; omega
  have ne4 : t ≠ r := by have := GB.out.2.1; omega
  have ne5 : g ≠ t := fun e => ne3 e.symm
  have ne6 : r ≠ t := fun e => ne4 e.symm
  have ne7 : g ≠ f := by have := GB.out.2.2; omega
  have ne8 : r ≠ f := by have := GB.out.2.2; omega
  clear hg hr
  have x0 : w2.cell? ⟨g, 0, none⟩ = some (.int .u8 4) := hp_cell (X2.out) 0; have x1 : w2.cell? ⟨g, 1, none⟩ = some (.int .i64 ag) := hp_cell (X2.out) 1; have x2 : w2.cell? ⟨g, 2, none⟩ = some (.int .u64 vv) := hp_cell (X2.out) 2; have xl := hp_lt (X2.out)
  go_upto_region 2 with (go_at_call 39; refine (HE.out _).mono ?_; rintro e w3 ⟨rfl, hb3⟩; have T3 := Lib.hid (hp_below T2.out hb3); have R3 := Lib.hid (R2.out.below hb3); have X3 := Lib.hid (hp_below X2.out hb3); have Y3 := Lib.hid (hp_below Y2.out hb3); have F3 := Lib.hid (F2.out.trans (TFr.of hb3)); clear hb3)
  clear x0 x1 x2 xl T2 R2 X2 Y2 F2
  have u0 : w3.cell? ⟨t, 0, none⟩ = some (.pointer (some ⟨f, 0, none⟩)) := hp_cell T3.out 0; have ul := hp_lt T3.out; have f1 : w3.cell? ⟨f, 1, none⟩ = some (.slice A1 s.stk.length c1) := hp_cell R3.out.hf 1; have fz1 := hp_frozen R3.out.hf 1; have fl := hp_lt R3.out.hf
  rw [HM.out.1] at f1
  have x1 : w3.cell? ⟨g, 1, none⟩ = some (.int .i64 ag) := hp_cell X3.out 1
  have xl := hp_lt X3.out
  go_upto_region 6 with fail
  have z4 := (Below.refl w3.heap.size w3).alloc (Nat.le_refl _) (.cells #[.int .u8 1, .int .i64 ag, .int .u64 0] 30)
  have K4 := Lib.hid (heap_alloc_new w3 (.cells #[.int .u8 1, .int .i64 ag, .int .u64 0] 30))
  have T4 := Lib.hid (hp_below T3.out z4)
  have R4 := Lib.hid (R3.out.below z4)
  have X4 := Lib.hid (hp_below X3.out z4)
  have Y4 := Lib.hid (hp_below Y3.out z4)
  have F4 := Lib.hid (F3.out.trans (TFr.of z4))
  have G4 := Lib.hid (And.intro (hp_lt T3.out) (And.intro (hp_lt R3.out.hf) (hp_lt Y3.out)))
  clear z4 u0 ul f1 fz1 fl x1 xl T3 R3 X3 Y3 F3
  generalize World.alloc _ _ = w4 at K4 T4 R4 X4 Y4 F4 ⊢
  obtain ⟨ka, hka⟩ : ∃ x, w3.heap.size = x := ⟨_, rfl⟩
  rw [hka] at K4 G4 ⊢
  clear hka
  have u0 : w4.cell? ⟨t, 0, none⟩ = some (.pointer (some ⟨f, 0, none⟩)) := hp_cell T4.out 0; have ul := hp_lt T4.out; have f1 : w4.cell? ⟨f, 1, none⟩ = some (.slice A1 s.stk.length c1) := hp_cell R4.out.hf 1; have fz1 := hp_frozen R4.out.hf 1; have fl := hp_lt R4.out.hf
  rw [HM.out.1] at f1
  have HCL := Lib.hid (show Calls Try.prog 38 #[.slice A1 m c1] w4 (CloneRow s.stk w4) from by have := clone_src A1 c1 s.stk w4 (Src.row R4.out.row (by have := HM.out; omega)); rw [HM.out.1] at this; exact this)
  unfold CloneRow at HCL
  rw [HM.out.1] at HCL
  go_upto_region 7 with (go_at_call 38; refine HCL.out.mono ?_; rintro e w5 ⟨Aq, cq, rfl, hr5, hb5⟩; have T5 := Lib.hid (hp_below T4.out hb5); have R5 := Lib.hid (R4.out.below hb5); have X5 := Lib.hid (hp_below X4.out hb5); have Y5 := Lib.hid (hp_below Y4.out hb5); have K5 := Lib.hid (hp_below K4.out hb5); have F5 := Lib.hid (F4.out.trans (TFr.of hb5)); have P5 := Lib.hid (row_base hr5 (Nat.zero_le _)); clear hr5 hb5)
  clear u0 ul f1 fz1 fl T4 R4 X4 Y4 K4 F4
  have u0 : w5.cell? ⟨t, 0, none⟩ = some (.pointer (some ⟨f, 0, none⟩)) := hp_cell T5.out 0; have ul := hp_lt T5.out; have f1 : w5.cell? ⟨f, 1, none⟩ = some (.slice A1 s.stk.length c1) := hp_cell R5.out.hf 1; have fz1 := hp_frozen R5.out.hf 1; have fl := hp_lt R5.out.hf
  have x0 : w5.cell? ⟨g, 0, none⟩ = some (.int .u8 4) := hp_cell X5.out 0
  have xl := hp_lt X5.out
  have m1 : m ≤ cq := by have := (row_cap P5.out).1; have := HM.out; omega
  go_upto_region 16 with fail
  go_region
  have hst := R5.out.stk P5.out
  rw [HM.out.1] at hst
  have T6 := Lib.hid (show (w5.setCell ⟨f, 1, none⟩ (.slice Aq m cq)).drew.heap[t]? = some (.cells (thC f p n c iv k0 ak0 tv0 v0 e0) 56 (0, 0)) from hp_drt (hp_far T5.out (hp_ne T5.out R5.out.hf (by decide)) _))
  have R6 := Lib.hid hst.drew
  have Y6 := Lib.hid (show (w5.setCell ⟨f, 1, none⟩ (.slice Aq m cq)).drew.heap[r]? = some (.cells #[.int .u8 0, .int .u8 0, .int .i64 0, .int .u64 0, .int .i64 0] 33 (0, 0)) from hp_drt (hp_far Y5.out ne8 _))
  have K6 := Lib.hid (show (w5.setCell ⟨f, 1, none⟩ (.slice Aq m cq)).drew.heap[ka]? = some (.cells #[.int .u8 1, .int .i64 ag, .int .u64 0] 30 (0, 0)) from hp_drt (hp_far K5.out (fun e => Nat.ne_of_lt G4.out.2.1 e.symm) _))
  have F6 := Lib.hid ((F5.out.trans (TFr.setF w5 1 (.slice Aq m cq))).trans (TFr.of (Below.refl _ _).drew))
  clear hst u0 ul f1 fz1 fl x0 xl m1 T5 R5 X5 Y5 K5 F5
  generalize (w5.setCell ⟨f, 1, none⟩ (.slice Aq m cq)).drew = w6 at T6 R6 Y6 K6 F6 ⊢
  have kk0 : w6.cell? ⟨ka, 0, none⟩ = some (.int .u8 1) := hp_cell (K6.out) 0; have kk1 : w6.cell? ⟨ka, 1, none⟩ = some (.int .i64 ag) := hp_cell (K6.out) 1; have kk2 : w6.cell? ⟨ka, 2, none⟩ = some (.int .u64 0) := hp_cell (K6.out) 2; have kkl := hp_lt (K6.out)
  go_wp2_with (go_at_call 36; refine (ask_any W t f p n c iv l _ Aq cq k0 ak0 tv0 v0 e0 1 ag 0 w6 T6.out R6.out).mono ?_; rintro x w7 ⟨rfl, ht3, hr3, hf3⟩; have T7 := Lib.hid ht3; have R7 := Lib.hid hr3; have F7 := Lib.hid (F6.out.trans hf3); have Y7 := Lib.hid (hf3.hp Y6.out ne6 ne8); have y0 : w7.cell? ⟨r, 0, none⟩ = some (.int .u8 0) := hp_cell (Y7.out) 0; have yz0 := hp_frozen (Y7.out) 0; have y1 : w7.cell? ⟨r, 1, none⟩ = some (.int .u8 0) := hp_cell (Y7.out) 1; have yz1 := hp_frozen (Y7.out) 1; have y2 : w7.cell? ⟨r, 2, none⟩ = some (.int .i64 0) := hp_cell (Y7.out) 2; have yz2 := hp_frozen (Y7.out) 2; have y3 : w7.cell? ⟨r, 3, none⟩ = some (.int .u64 0) := hp_cell (Y7.out) 3; have yz3 := hp_frozen (Y7.out) 3; have y4 : w7.cell? ⟨r, 4, none⟩ = some (.int .i64 0) := hp_cell (Y7.out) 4; have yz4 := hp_frozen (Y7.out) 4; have yl := hp_lt (Y7.out); clear ht3 hr3 hf3)
  refine bodyPost_ret (by simp [results, Try.results35, go_sem, y0, y1, y2, y3, y4, ne1, ne2]; try rfl) rfl ?_
  have c0 := hp_put (cs' := #[.int .u8 2, .int .u8 0, .int .i64 0, .int .u64 0, .int .i64 0]) Y7.out 0 (.int .u8 2) (by simp)
  have d0 := hp_far (p := ⟨r, 0, none⟩) T7.out ne4 (.int .u8 2)
  have e0 := R7.out.set Y7.out (by decide) (by decide) (by decide) GR.out.1 0 (.int .u8 2)
  have c1 := hp_put (cs' := #[.int .u8 2, .int .u8 1, .int .i64 0, .int .u64 0, .int .i64 0]) c0 1 (.int .u8 1) (by simp)
  have d1 := hp_far (p := ⟨r, 1, none⟩) d0 ne4 (.int .u8 1)
  have e1 := e0.set c0 (by decide) (by decide) (by decide) GR.out.1 1 (.int .u8 1)
  have c2 := hp_put (cs' := #[.int .u8 2, .int .u8 1, .int .i64 ag, .int .u64 0, .int .i64 0]) c1 2 (.int .i64 ag) (by simp)
  have d2 := hp_far (p := ⟨r, 2, none⟩) d1 ne4 (.int .i64 ag)
  have e2 := e1.set c1 (by decide) (by decide) (by decide) GR.out.1 2 (.int .i64 ag)
  have c3 := hp_put (cs' := #[.int .u8 2, .int .u8 1, .int .i64 ag, .int .u64 0, .int .i64 0]) c2 3 (.int .u64 0) (by simp)
  have d3 := hp_far (p := ⟨r, 3, none⟩) d2 ne4 (.int .u64 0)
  have e3 := e2.set c2 (by decide) (by decide) (by decide) GR.out.1 3 (.int .u64 0)
  have c4 := hp_put (cs' := #[.int .u8 2, .int .u8 1, .int .i64 ag, .int .u64 0, .int .i64 0]) c3 4 (.int .i64 0) (by simp)
  have d4 := hp_far (p := ⟨r, 4, none⟩) d3 ne4 (.int .i64 0)
  have e4 := e3.set c3 (by decide) (by decide) (by decide) GR.out.1 4 (.int .i64 0)
  exact ⟨Aq, cq, rfl, d4, e4, (((((F7.out.new GR.out.2.1 _ _).new GR.out.2.1 _ _).new GR.out.2.1 _ _).new GR.out.2.1 _ _).new GR.out.2.1 _ _)⟩

end Go.Proofs.Ytdkcmnnhjnapiaa
