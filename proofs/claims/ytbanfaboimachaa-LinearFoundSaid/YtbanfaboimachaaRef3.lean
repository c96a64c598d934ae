
/-
  The reference's object: a queue's calls.
-/
import Derived.Test.YtbanfaboimachaaObj5
import Derived.Test.YtbanfaboimachaaObj2
import Derived.Test.YtbanfaboimachaaObj3
import Derived.Test.YtbanfaboimachaaObj4
import Derived.Maps.AppendAt
import Derived.Test.YtbanfaboimachaaRef2
namespace Go.Proofs.Ytbanfaboimachaa
open Go.RowKit
set_option linter.unusedSimpArgs false
set_option linter.unusedVariables false
variable {ok : Nat → Prop}

variable {r : Nat} {size owner n gen : Int} {l : List Int}
set_option maxHeartbeats 3200000 in
set_option maxRecDepth 100000 in
theorem rDo_3_take1 (x : Int) (xs : List Int) (who v : Int) (hv : W64 v) (w : World) (H : RIn ok w r 3 size owner n gen (x :: xs)) (h2 : decide (who < 0) = false) (h3 : decide (4 ≤ who) = false) (h4 : fitsB 6 v = true)  :
    Calls Try.prog 37 #[.pointer (some ⟨r, 0, none⟩), callV 6 who v] w fun e w' => e = .returned (ansV (x, false, 0)) ∧ RIn ok w' r 3 size owner n gen xs ∧ w.grownBy w' (some r) := by
  have tk : quTk 6 = true := rfl
  have HH := Lib.hid H
  obtain ⟨hf, h0, A, cc, hh, q1, q2, q3⟩ := H
  have hl := hp_lt hh
  have h0l := h0.1
  simp only [RCells] at hh
  have HA := Lib.hid hh
  have HF := Lib.hid hf
  have H0 := Lib.hid h0
  have HQ := Lib.hid (show (x :: xs).length ≤ cc ∧ (A = none → cc = 0) ∧ ValsAt ok w A (x :: xs) from ⟨q1, q2, q3⟩)
  clear hf h0 hh q1 q2 q3
  obtain ⟨g, o, cells, rfl, hg, hcs⟩ : ∃ g o cells, A = some ⟨g, o, none⟩ ∧ w.heap[g]? = some (.cells cells 37 (0, 0)) ∧ cells[o]? = some (.int .u64 x) := by
    obtain ⟨_, h | ⟨g, o, cells, hA, hg, hc, _⟩⟩ := HQ.out.2.2
    · cases h.2
    · exact ⟨g, o, cells, hA, hg, hc 0 x rfl⟩
  have q1 : xs.length + 1 ≤ cc := HQ.out.1
  obtain ⟨o', hb'⟩ : ∃ o', (if cc = 1 then (⟨g, o, none⟩ : Addr) else ⟨g, o + 1, none⟩) = ⟨g, o', none⟩ := by
    by_cases h : cc = 1
    · exact ⟨o, if_pos h⟩
    · exact ⟨o + 1, if_neg h⟩
  have hsl := slice_from1 g o xs.length cc (by omega)
  have VT := vals_tail cc q1 HQ.out.2.2
  simp only [hb'] at hsl VT
  have VT := Lib.hid VT
  have HGC := Lib.hid hg
  have HCS := Lib.hid hcs
  clear hb' hg hcs
  have e0 : decide (0 < xs.length + 1) = true := decide_eq_true (by omega)
  have e1 : (((xs.length : Int) + 1) == 0) = false := by simp; omega
  have l4 : xs.length + 1 ≤ 4 := h0l
  unfold callV
  go_enter Try.func37, Try.ntmps37
  go_wp2_with (first | (go_at_call 41; refine (rTakes_3 6 _ (RIn_alloc (RIn_alloc HH.out _) _)).mono ?_; rintro e w' ⟨rfl, rfl⟩) | (go_at_call 42; refine (refFits_any 6 who v hv _).mono ?_; rintro e w1 ⟨rfl, hb⟩; have hh1 := hp_below (hp_alloc (hp_alloc HA.out _) _) hb; have hx : w1.heap[w.heap.size]? = some (.cells #[.int .u8 6, .int .i64 who, .int .u64 v] 39 (0, 0)) := hp_below (hp_alloc (heap_alloc_new w _) _) hb; have hy : w1.heap[w.heap.size + 1]? = some (.cells #[.int .u64 0, .bool false, .int .i64 0] 83 (0, 0)) := hp_below ((congrArg _ (by simp)).trans (heap_alloc_new (w.alloc _) _)) hb; have HG := Lib.hid (gb_trans (gb_alloc (gb_alloc (gb_refl w (some r)) _) _) (gb_below hb)); have r1 : w1.cell? ⟨r, 1, none⟩ = some (.int .i64 size) := hp_cell hh1 1; have r2 : w1.cell? ⟨r, 2, none⟩ = some (.int .i64 owner) := hp_cell hh1 2; have r3 : w1.cell? ⟨r, 3, none⟩ = some (.int .i64 n) := hp_cell hh1 3; have r4 : w1.cell? ⟨r, 4, none⟩ = some (.int .i64 gen) := hp_cell hh1 4; have r5 : w1.cell? ⟨r, 5, none⟩ = some (.slice (some ⟨g, o, none⟩) (x :: xs).length cc) := hp_cell hh1 5; have g2 := hp_frozen hh1 2; have g3 := hp_frozen hh1 3; have g4 := hp_frozen hh1 4; have g5 := hp_frozen hh1 5; have x0 : w1.cell? ⟨w.heap.size, 0, none⟩ = some (.int .u8 6) := hp_cell hx 0; have x1 : w1.cell? ⟨w.heap.size, 1, none⟩ = some (.int .i64 who) := hp_cell hx 1; have x2 : w1.cell? ⟨w.heap.size, 2, none⟩ = some (.int .u64 v) := hp_cell hx 2; have y0 : w1.cell? ⟨w.heap.size + 1, 0, none⟩ = some (.int .u64 0) := hp_cell hy 0; have y1 : w1.cell? ⟨w.heap.size + 1, 1, none⟩ = some (.bool false) := hp_cell hy 1; have y2 : w1.cell? ⟨w.heap.size + 1, 2, none⟩ = some (.int .i64 0) := hp_cell hy 2; have z0 := hp_frozen hy 0; have z1 := hp_frozen hy 1; have z2 := hp_frozen hy 2; have l1 := hp_lt hh1; have l2 := hp_lt hx; have l3 := hp_lt hy; have HA1 := Lib.hid hh1; have HY := Lib.hid hy; have HX := Lib.hid hx; have HB := Lib.hid hb; have cx : w1.cell? ⟨g, o, none⟩ = some (.int .u64 x) := (hp_cell (hp_below (hp_alloc (hp_alloc HGC.out _) _) hb) o).trans HCS.out; have lg := hp_lt (hp_below (hp_alloc (hp_alloc HGC.out _) _) hb); clear hh1 hx hy hb) | (go_at_call 43; refine (refInt_any _ _).mono ?_; rintro e w' ⟨rfl, rfl⟩) | (go_at_call 44; refine (refLess_any v (intV gen) hv (intV_w64 _) _).mono ?_; rintro e w' ⟨rfl, rfl⟩))
  refine bodyPost_ret (by simp [results, Try.results37, go_sem, *]; try rfl) rfl ?_
  refine (fun G => ⟨rfl, RIn_mk ⟨by have := H0.out.1; simp only [List.length_cons] at this; omega, fun _ => H0.out.2 trivial⟩ (l := (x :: xs)) (by simp only [RCells]; exact HA.out) (by simp only [RCells]; (repeat (with_reducible first | apply hp_alloc | apply hp_drewN | apply hp_put62 | apply hp_put63 | apply hp_put64 | apply hp_put65 | (refine hp_far ?_ (by simp; omega) _))); exact HA1.out) (by omega) (fun h => by cases h) VT.out G HF.out, G⟩) ?_
  (repeat (with_reducible first | apply gb_alloc | apply gb_drewN | apply gb_set | (refine gb_new ?_ (by simp) _))); exact HG.out
set_option maxHeartbeats 3200000 in
set_option maxRecDepth 100000 in
theorem rDo_3_take0 (who v : Int) (hv : W64 v) (w : World) (H : RIn ok w r 3 size owner n gen ([] : List Int)) (h2 : decide (who < 0) = false) (h3 : decide (4 ≤ who) = false) (h4 : fitsB 6 v = true)  :
    Calls Try.prog 37 #[.pointer (some ⟨r, 0, none⟩), callV 6 who v] w fun e w' => e = .returned (ansV aBlocks) ∧ RIn ok w' r 3 size owner n gen [] ∧ w.grownBy w' (some r) := by
  have tk : quTk 6 = true := rfl
  have HH := Lib.hid H
  obtain ⟨hf, h0, A, cc, hh, q1, q2, q3⟩ := H
  have hl := hp_lt hh
  have h0l := h0.1
  simp only [RCells] at hh
  have HA := Lib.hid hh
  have HF := Lib.hid hf
  have H0 := Lib.hid h0
  have HQ := Lib.hid (show ([] : List Int).length ≤ cc ∧ (A = none → cc = 0) ∧ ValsAt ok w A ([] : List Int) from ⟨q1, q2, q3⟩)
  clear hf h0 hh q1 q2 q3
  unfold callV
  go_enter Try.func37, Try.ntmps37
  go_wp2_with (first | (go_at_call 41; refine (rTakes_3 6 _ (RIn_alloc (RIn_alloc HH.out _) _)).mono ?_; rintro e w' ⟨rfl, rfl⟩) | (go_at_call 42; refine (refFits_any 6 who v hv _).mono ?_; rintro e w1 ⟨rfl, hb⟩; have hh1 := hp_below (hp_alloc (hp_alloc HA.out _) _) hb; have hx : w1.heap[w.heap.size]? = some (.cells #[.int .u8 6, .int .i64 who, .int .u64 v] 39 (0, 0)) := hp_below (hp_alloc (heap_alloc_new w _) _) hb; have hy : w1.heap[w.heap.size + 1]? = some (.cells #[.int .u64 0, .bool false, .int .i64 0] 83 (0, 0)) := hp_below ((congrArg _ (by simp)).trans (heap_alloc_new (w.alloc _) _)) hb; have HG := Lib.hid (gb_trans (gb_alloc (gb_alloc (gb_refl w (some r)) _) _) (gb_below hb)); have r1 : w1.cell? ⟨r, 1, none⟩ = some (.int .i64 size) := hp_cell hh1 1; have r2 : w1.cell? ⟨r, 2, none⟩ = some (.int .i64 owner) := hp_cell hh1 2; have r3 : w1.cell? ⟨r, 3, none⟩ = some (.int .i64 n) := hp_cell hh1 3; have r4 : w1.cell? ⟨r, 4, none⟩ = some (.int .i64 gen) := hp_cell hh1 4; have r5 : w1.cell? ⟨r, 5, none⟩ = some (.slice A ([] : List Int).length cc) := hp_cell hh1 5; have g2 := hp_frozen hh1 2; have g3 := hp_frozen hh1 3; have g4 := hp_frozen hh1 4; have g5 := hp_frozen hh1 5; have x0 : w1.cell? ⟨w.heap.size, 0, none⟩ = some (.int .u8 6) := hp_cell hx 0; have x1 : w1.cell? ⟨w.heap.size, 1, none⟩ = some (.int .i64 who) := hp_cell hx 1; have x2 : w1.cell? ⟨w.heap.size, 2, none⟩ = some (.int .u64 v) := hp_cell hx 2; have y0 : w1.cell? ⟨w.heap.size + 1, 0, none⟩ = some (.int .u64 0) := hp_cell hy 0; have y1 : w1.cell? ⟨w.heap.size + 1, 1, none⟩ = some (.bool false) := hp_cell hy 1; have y2 : w1.cell? ⟨w.heap.size + 1, 2, none⟩ = some (.int .i64 0) := hp_cell hy 2; have z0 := hp_frozen hy 0; have z1 := hp_frozen hy 1; have z2 := hp_frozen hy 2; have l1 := hp_lt hh1; have l2 := hp_lt hx; have l3 := hp_lt hy; have HA1 := Lib.hid hh1; have HY := Lib.hid hy; have HX := Lib.hid hx; have HB := Lib.hid hb; clear hh1 hx hy hb) | (go_at_call 43; refine (refInt_any _ _).mono ?_; rintro e w' ⟨rfl, rfl⟩) | (go_at_call 44; refine (refLess_any v (intV gen) hv (intV_w64 _) _).mono ?_; rintro e w' ⟨rfl, rfl⟩))
  refine bodyPost_ret (by simp [results, Try.results37, go_sem, *]; try rfl) rfl ?_
  refine (fun G => ⟨rfl, RIn_mk ⟨H0.out.1, fun _ => H0.out.2 trivial⟩ (l := ([] : List Int)) (by simp only [RCells]; exact HA.out) (by simp only [RCells]; (repeat (with_reducible first | apply hp_alloc | apply hp_drewN | apply hp_put62 | apply hp_put63 | apply hp_put64 | apply hp_put65 | (refine hp_far ?_ (by simp; omega) _))); exact HA1.out) HQ.out.1 HQ.out.2.1 HQ.out.2.2 G HF.out, G⟩) ?_
  (repeat (with_reducible first | apply gb_alloc | apply gb_drewN | apply gb_set | (refine gb_new ?_ (by simp) _))); exact HG.out
set_option maxHeartbeats 3200000 in
set_option maxRecDepth 100000 in
theorem rDo_3_enter0 (who v : Int) (hv : W64 v) (w : World) (H : RIn ok w r 3 size owner n gen l) (h2 : decide (who < 0) = false) (h3 : decide (4 ≤ who) = false) (h4 : fitsB 5 v = true) (p1 : decide (size ≤ (l.length : Int)) = true) :
    Calls Try.prog 37 #[.pointer (some ⟨r, 0, none⟩), callV 5 who v] w fun e w' => e = .returned (ansV aBlocks) ∧ RIn ok w' r 3 size owner n gen l ∧ w.grownBy w' (some r) := by
  have tk : quTk 5 = true := rfl
  have HH := Lib.hid H
  obtain ⟨hf, h0, A, cc, hh, q1, q2, q3⟩ := H
  have hl := hp_lt hh
  have h0l := h0.1
  simp only [RCells] at hh
  have HA := Lib.hid hh
  have HF := Lib.hid hf
  have H0 := Lib.hid h0
  have HQ := Lib.hid (show l.length ≤ cc ∧ (A = none → cc = 0) ∧ ValsAt ok w A l from ⟨q1, q2, q3⟩)
  clear hf h0 hh q1 q2 q3
  unfold callV
  go_enter Try.func37, Try.ntmps37
  go_wp2_with (first | (go_at_call 41; refine (rTakes_3 5 _ (RIn_alloc (RIn_alloc HH.out _) _)).mono ?_; rintro e w' ⟨rfl, rfl⟩) | (go_at_call 42; refine (refFits_any 5 who v hv _).mono ?_; rintro e w1 ⟨rfl, hb⟩; have hh1 := hp_below (hp_alloc (hp_alloc HA.out _) _) hb; have hx : w1.heap[w.heap.size]? = some (.cells #[.int .u8 5, .int .i64 who, .int .u64 v] 39 (0, 0)) := hp_below (hp_alloc (heap_alloc_new w _) _) hb; have hy : w1.heap[w.heap.size + 1]? = some (.cells #[.int .u64 0, .bool false, .int .i64 0] 83 (0, 0)) := hp_below ((congrArg _ (by simp)).trans (heap_alloc_new (w.alloc _) _)) hb; have HG := Lib.hid (gb_trans (gb_alloc (gb_alloc (gb_refl w (some r)) _) _) (gb_below hb)); have r1 : w1.cell? ⟨r, 1, none⟩ = some (.int .i64 size) := hp_cell hh1 1; have r2 : w1.cell? ⟨r, 2, none⟩ = some (.int .i64 owner) := hp_cell hh1 2; have r3 : w1.cell? ⟨r, 3, none⟩ = some (.int .i64 n) := hp_cell hh1 3; have r4 : w1.cell? ⟨r, 4, none⟩ = some (.int .i64 gen) := hp_cell hh1 4; have r5 : w1.cell? ⟨r, 5, none⟩ = some (.slice A l.length cc) := hp_cell hh1 5; have g2 := hp_frozen hh1 2; have g3 := hp_frozen hh1 3; have g4 := hp_frozen hh1 4; have g5 := hp_frozen hh1 5; have x0 : w1.cell? ⟨w.heap.size, 0, none⟩ = some (.int .u8 5) := hp_cell hx 0; have x1 : w1.cell? ⟨w.heap.size, 1, none⟩ = some (.int .i64 who) := hp_cell hx 1; have x2 : w1.cell? ⟨w.heap.size, 2, none⟩ = some (.int .u64 v) := hp_cell hx 2; have y0 : w1.cell? ⟨w.heap.size + 1, 0, none⟩ = some (.int .u64 0) := hp_cell hy 0; have y1 : w1.cell? ⟨w.heap.size + 1, 1, none⟩ = some (.bool false) := hp_cell hy 1; have y2 : w1.cell? ⟨w.heap.size + 1, 2, none⟩ = some (.int .i64 0) := hp_cell hy 2; have z0 := hp_frozen hy 0; have z1 := hp_frozen hy 1; have z2 := hp_frozen hy 2; have l1 := hp_lt hh1; have l2 := hp_lt hx; have l3 := hp_lt hy; have HA1 := Lib.hid hh1; have HY := Lib.hid hy; have HX := Lib.hid hx; have HB := Lib.hid hb; clear hh1 hx hy hb) | (go_at_call 43; refine (refInt_any _ _).mono ?_; rintro e w' ⟨rfl, rfl⟩) | (go_at_call 44; refine (refLess_any v (intV gen) hv (intV_w64 _) _).mono ?_; rintro e w' ⟨rfl, rfl⟩))
  go_quiet (fail)
  go_wp2_with (first | (go_at_call 43; refine (refInt_any _ _).mono ?_; rintro e w' ⟨rfl, rfl⟩) | (go_at_call 44; refine (refLess_any v (intV gen) hv (intV_w64 _) _).mono ?_; rintro e w' ⟨rfl, rfl⟩))
  refine bodyPost_ret (by simp [results, Try.results37, go_sem, *]; try rfl) rfl ?_
  refine (fun G => ⟨rfl, RIn_mk ⟨H0.out.1, fun _ => H0.out.2 trivial⟩ (l := l) (by simp only [RCells]; exact HA.out) (by simp only [RCells]; (repeat (with_reducible first | apply hp_alloc | apply hp_drewN | apply hp_put62 | apply hp_put63 | apply hp_put64 | apply hp_put65 | (refine hp_far ?_ (by simp; omega) _))); exact HA1.out) HQ.out.1 HQ.out.2.1 HQ.out.2.2 G HF.out, G⟩) ?_
  (repeat (with_reducible first | apply gb_alloc | apply gb_drewN | apply gb_set | (refine gb_new ?_ (by simp) _))); exact HG.out

end Go.Proofs.Ytbanfaboimachaa
