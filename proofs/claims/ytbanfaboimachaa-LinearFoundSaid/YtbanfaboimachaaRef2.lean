
/-
  The reference's object: its calls, each answered as the thing's own.
-/
import Derived.Test.YtbanfaboimachaaObj5
import Derived.Test.YtbanfaboimachaaObj2
import Derived.Test.YtbanfaboimachaaObj3
import Derived.Test.YtbanfaboimachaaObj4
import Derived.Maps.AppendAt
import Derived.Test.YtbanfaboimachaaRef1
import Derived.Deep.RegionHeld3
import Derived.Deep.RegionLawGrows
namespace Go.Proofs.Ytbanfaboimachaa
open Go.RowKit
set_option linter.unusedSimpArgs false
set_option linter.unusedVariables false
variable {ok : Nat → Prop}

variable {r : Nat} {size owner n gen : Int} {l : List Int}
theorem hp_put60 {w : World} {g : Nat} {t : TypeId} {a b c d e f : Value} (h : w.heap[g]? = some (.cells #[a, b, c, d, e, f] t (0, 0))) (u : Value) : (w.setCell ⟨g, 0, none⟩ u).heap[g]? = some (.cells #[u, b, c, d, e, f] t (0, 0)) := hp_put h 0 u rfl
theorem hp_put61 {w : World} {g : Nat} {t : TypeId} {a b c d e f : Value} (h : w.heap[g]? = some (.cells #[a, b, c, d, e, f] t (0, 0))) (u : Value) : (w.setCell ⟨g, 1, none⟩ u).heap[g]? = some (.cells #[a, u, c, d, e, f] t (0, 0)) := hp_put h 1 u rfl
theorem hp_put62 {w : World} {g : Nat} {t : TypeId} {a b c d e f : Value} (h : w.heap[g]? = some (.cells #[a, b, c, d, e, f] t (0, 0))) (u : Value) : (w.setCell ⟨g, 2, none⟩ u).heap[g]? = some (.cells #[a, b, u, d, e, f] t (0, 0)) := hp_put h 2 u rfl
theorem hp_put63 {w : World} {g : Nat} {t : TypeId} {a b c d e f : Value} (h : w.heap[g]? = some (.cells #[a, b, c, d, e, f] t (0, 0))) (u : Value) : (w.setCell ⟨g, 3, none⟩ u).heap[g]? = some (.cells #[a, b, c, u, e, f] t (0, 0)) := hp_put h 3 u rfl
theorem hp_put64 {w : World} {g : Nat} {t : TypeId} {a b c d e f : Value} (h : w.heap[g]? = some (.cells #[a, b, c, d, e, f] t (0, 0))) (u : Value) : (w.setCell ⟨g, 4, none⟩ u).heap[g]? = some (.cells #[a, b, c, d, u, f] t (0, 0)) := hp_put h 4 u rfl
theorem hp_put65 {w : World} {g : Nat} {t : TypeId} {a b c d e f : Value} (h : w.heap[g]? = some (.cells #[a, b, c, d, e, f] t (0, 0))) (u : Value) : (w.setCell ⟨g, 5, none⟩ u).heap[g]? = some (.cells #[a, b, c, d, e, u] t (0, 0)) := hp_put h 5 u rfl
set_option maxHeartbeats 3200000 in
set_option maxRecDepth 100000 in
theorem rDo_1_lock0 (who v : Int) (hv : W64 v) (w : World) (H : RIn ok w r 1 size owner n gen l) (h2 : decide (who < 0) = false) (h3 : decide (4 ≤ who) = false) (h4 : fitsB 1 v = true) (p1 : decide (0 ≤ owner) = true) :
    Calls Try.prog 37 #[.pointer (some ⟨r, 0, none⟩), callV 1 who v] w fun e w' => e = .returned (ansV aBlocks) ∧ RIn ok w' r 1 size owner n gen l ∧ w.grownBy w' (some r) := by
  have tk : muTk 1 = true := rfl
  have HH := Lib.hid H
  obtain ⟨hf, h0, A, cc, hh, q1, q2, q3⟩ := H
  have hl := hp_lt hh
  have h0l := h0.1
  simp only [RCells] at hh
  have HA := Lib.hid hh
  have HF := Lib.hid hf
  have H0 := Lib.hid h0
  have HQ := Lib.hid (show l.length ≤ cc ∧ (A = none → cc = 0) ∧ ValsAt ok w A l from ⟨q1, q2, q3⟩)
  clear hf h0 hh q1 q2 q3
  unfold callV
  go_enter Try.func37, Try.ntmps37
  go_wp2_with (first | (go_at_call 41; refine (rTakes_1 1 _ (RIn_alloc (RIn_alloc HH.out _) _)).mono ?_; rintro e w' ⟨rfl, rfl⟩) | (go_at_call 42; refine (refFits_any 1 who v hv _).mono ?_; rintro e w1 ⟨rfl, hb⟩; have hh1 := hp_below (hp_alloc (hp_alloc HA.out _) _) hb; have hx : w1.heap[w.heap.size]? = some (.cells #[.int .u8 1, .int .i64 who, .int .u64 v] 39 (0, 0)) := hp_below (hp_alloc (heap_alloc_new w _) _) hb; have hy : w1.heap[w.heap.size + 1]? = some (.cells #[.int .u64 0, .bool false, .int .i64 0] 83 (0, 0)) := hp_below ((congrArg _ (by simp)).trans (heap_alloc_new (w.alloc _) _)) hb; have HG := Lib.hid (gb_trans (gb_alloc (gb_alloc (gb_refl w (some r)) _) _) (gb_below hb)); have r1 : w1.cell? ⟨r, 1, none⟩ = some (.int .i64 size) := hp_cell hh1 1; have r2 : w1.cell? ⟨r, 2, none⟩ = some (.int .i64 owner) := hp_cell hh1 2; have r3 : w1.cell? ⟨r, 3, none⟩ = some (.int .i64 n) := hp_cell hh1 3; have r4 : w1.cell? ⟨r, 4, none⟩ = some (.int .i64 gen) := hp_cell hh1 4; have r5 : w1.cell? ⟨r, 5, none⟩ = some (.slice A l.length cc) := hp_cell hh1 5; have g2 := hp_frozen hh1 2; have g3 := hp_frozen hh1 3; have g4 := hp_frozen hh1 4; have g5 := hp_frozen hh1 5; have x0 : w1.cell? ⟨w.heap.size, 0, none⟩ = some (.int .u8 1) := hp_cell hx 0; have x1 : w1.cell? ⟨w.heap.size, 1, none⟩ = some (.int .i64 who) := hp_cell hx 1; have x2 : w1.cell? ⟨w.heap.size, 2, none⟩ = some (.int .u64 v) := hp_cell hx 2; have y0 : w1.cell? ⟨w.heap.size + 1, 0, none⟩ = some (.int .u64 0) := hp_cell hy 0; have y1 : w1.cell? ⟨w.heap.size + 1, 1, none⟩ = some (.bool false) := hp_cell hy 1; have y2 : w1.cell? ⟨w.heap.size + 1, 2, none⟩ = some (.int .i64 0) := hp_cell hy 2; have z0 := hp_frozen hy 0; have z1 := hp_frozen hy 1; have z2 := hp_frozen hy 2; have l1 := hp_lt hh1; have l2 := hp_lt hx; have l3 := hp_lt hy; have HA1 := Lib.hid hh1; have HY := Lib.hid hy; have HX := Lib.hid hx; have HB := Lib.hid hb; clear hh1 hx hy hb) | (go_at_call 43; refine (refInt_any _ _).mono ?_; rintro e w' ⟨rfl, rfl⟩) | (go_at_call 44; refine (refLess_any v (intV gen) hv (intV_w64 _) _).mono ?_; rintro e w' ⟨rfl, rfl⟩))
  refine bodyPost_ret (by simp [results, Try.results37, go_sem, *]; try rfl) rfl ?_
  refine (fun G => ⟨rfl, RIn_mk H0.out (l := l) (by simp only [RCells]; exact HA.out) (by simp only [RCells]; (repeat (with_reducible first | apply hp_alloc | apply hp_drewN | apply hp_put62 | apply hp_put63 | apply hp_put64 | apply hp_put65 | (refine hp_far ?_ (by simp; omega) _))); exact HA1.out) HQ.out.1 HQ.out.2.1 HQ.out.2.2 G HF.out, G⟩) ?_
  (repeat (with_reducible first | apply gb_alloc | apply gb_drewN | apply gb_set | (refine gb_new ?_ (by simp) _))); exact HG.out
set_option maxHeartbeats 3200000 in
set_option maxRecDepth 100000 in
theorem rDo_1_lock1 (who v : Int) (hv : W64 v) (w : World) (H : RIn ok w r 1 size owner n gen l) (h2 : decide (who < 0) = false) (h3 : decide (4 ≤ who) = false) (h4 : fitsB 1 v = true) (p1 : decide (0 ≤ owner) = false) :
    Calls Try.prog 37 #[.pointer (some ⟨r, 0, none⟩), callV 1 who v] w fun e w' => e = .returned (ansV aOne) ∧ RIn ok w' r 1 size who n gen l ∧ w.grownBy w' (some r) := by
  have tk : muTk 1 = true := rfl
  have HH := Lib.hid H
  obtain ⟨hf, h0, A, cc, hh, q1, q2, q3⟩ := H
  have hl := hp_lt hh
  have h0l := h0.1
  simp only [RCells] at hh
  have HA := Lib.hid hh
  have HF := Lib.hid hf
  have H0 := Lib.hid h0
  have HQ := Lib.hid (show l.length ≤ cc ∧ (A = none → cc = 0) ∧ ValsAt ok w A l from ⟨q1, q2, q3⟩)
  clear hf h0 hh q1 q2 q3
  unfold callV
  go_enter Try.func37, Try.ntmps37
  go_wp2_with (first | (go_at_call 41; refine (rTakes_1 1 _ (RIn_alloc (RIn_alloc HH.out _) _)).mono ?_; rintro e w' ⟨rfl, rfl⟩) | (go_at_call 42; refine (refFits_any 1 who v hv _).mono ?_; rintro e w1 ⟨rfl, hb⟩; have hh1 := hp_below (hp_alloc (hp_alloc HA.out _) _) hb; have hx : w1.heap[w.heap.size]? = some (.cells #[.int .u8 1, .int .i64 who, .int .u64 v] 39 (0, 0)) := hp_below (hp_alloc (heap_alloc_new w _) _) hb; have hy : w1.heap[w.heap.size + 1]? = some (.cells #[.int .u64 0, .bool false, .int .i64 0] 83 (0, 0)) := hp_below ((congrArg _ (by simp)).trans (heap_alloc_new (w.alloc _) _)) hb; have HG := Lib.hid (gb_trans (gb_alloc (gb_alloc (gb_refl w (some r)) _) _) (gb_below hb)); have r1 : w1.cell? ⟨r, 1, none⟩ = some (.int .i64 size) := hp_cell hh1 1; have r2 : w1.cell? ⟨r, 2, none⟩ = some (.int .i64 owner) := hp_cell hh1 2; have r3 : w1.cell? ⟨r, 3, none⟩ = some (.int .i64 n) := hp_cell hh1 3; have r4 : w1.cell? ⟨r, 4, none⟩ = some (.int .i64 gen) := hp_cell hh1 4; have r5 : w1.cell? ⟨r, 5, none⟩ = some (.slice A l.length cc) := hp_cell hh1 5; have g2 := hp_frozen hh1 2; have g3 := hp_frozen hh1 3; have g4 := hp_frozen hh1 4; have g5 := hp_frozen hh1 5; have x0 : w1.cell? ⟨w.heap.size, 0, none⟩ = some (.int .u8 1) := hp_cell hx 0; have x1 : w1.cell? ⟨w.heap.size, 1, none⟩ = some (.int .i64 who) := hp_cell hx 1; have x2 : w1.cell? ⟨w.heap.size, 2, none⟩ = some (.int .u64 v) := hp_cell hx 2; have y0 : w1.cell? ⟨w.heap.size + 1, 0, none⟩ = some (.int .u64 0) := hp_cell hy 0; have y1 : w1.cell? ⟨w.heap.size + 1, 1, none⟩ = some (.bool false) := hp_cell hy 1; have y2 : w1.cell? ⟨w.heap.size + 1, 2, none⟩ = some (.int .i64 0) := hp_cell hy 2; have z0 := hp_frozen hy 0; have z1 := hp_frozen hy 1; have z2 := hp_frozen hy 2; have l1 := hp_lt hh1; have l2 := hp_lt hx; have l3 := hp_lt hy; have HA1 := Lib.hid hh1; have HY := Lib.hid hy; have HX := Lib.hid hx; have HB := Lib.hid hb; clear hh1 hx hy hb) | (go_at_call 43; refine (refInt_any _ _).mono ?_; rintro e w' ⟨rfl, rfl⟩) | (go_at_call 44; refine (refLess_any v (intV gen) hv (intV_w64 _) _).mono ?_; rintro e w' ⟨rfl, rfl⟩))
  refine bodyPost_ret (by simp [results, Try.results37, go_sem, *]; try rfl) rfl ?_
  refine (fun G => ⟨rfl, RIn_mk H0.out (l := l) (by simp only [RCells]; exact HA.out) (by simp only [RCells]; (repeat (with_reducible first | apply hp_alloc | apply hp_drewN | apply hp_put62 | apply hp_put63 | apply hp_put64 | apply hp_put65 | (refine hp_far ?_ (by simp; omega) _))); exact HA1.out) HQ.out.1 HQ.out.2.1 HQ.out.2.2 G HF.out, G⟩) ?_
  (repeat (with_reducible first | apply gb_alloc | apply gb_drewN | apply gb_set | (refine gb_new ?_ (by simp) _))); exact HG.out
set_option maxHeartbeats 3200000 in
set_option maxRecDepth 100000 in
theorem rDo_1_unlock0 (who v : Int) (hv : W64 v) (w : World) (H : RIn ok w r 1 size owner n gen l) (h2 : decide (who < 0) = false) (h3 : decide (4 ≤ who) = false) (h4 : fitsB 2 v = true) (p1 : (owner == who) = false) :
    Calls Try.prog 37 #[.pointer (some ⟨r, 0, none⟩), callV 2 who v] w fun e w' => e = .returned (ansV (aErr 0)) ∧ RIn ok w' r 1 size owner n gen l ∧ w.grownBy w' (some r) := by
  have tk : muTk 2 = true := rfl
  have HH := Lib.hid H
  obtain ⟨hf, h0, A, cc, hh, q1, q2, q3⟩ := H
  have hl := hp_lt hh
  have h0l := h0.1
  simp only [RCells] at hh
  have HA := Lib.hid hh
  have HF := Lib.hid hf
  have H0 := Lib.hid h0
  have HQ := Lib.hid (show l.length ≤ cc ∧ (A = none → cc = 0) ∧ ValsAt ok w A l from ⟨q1, q2, q3⟩)
  clear hf h0 hh q1 q2 q3
  unfold callV
  go_enter Try.func37, Try.ntmps37
  go_wp2_with (first | (go_at_call 41; refine (rTakes_1 2 _ (RIn_alloc (RIn_alloc HH.out _) _)).mono ?_; rintro e w' ⟨rfl, rfl⟩) | (go_at_call 42; refine (refFits_any 2 who v hv _).mono ?_; rintro e w1 ⟨rfl, hb⟩; have hh1 := hp_below (hp_alloc (hp_alloc HA.out _) _) hb; have hx : w1.heap[w.heap.size]? = some (.cells #[.int .u8 2, .int .i64 who, .int .u64 v] 39 (0, 0)) := hp_below (hp_alloc (heap_alloc_new w _) _) hb; have hy : w1.heap[w.heap.size + 1]? = some (.cells #[.int .u64 0, .bool false, .int .i64 0] 83 (0, 0)) := hp_below ((congrArg _ (by simp)).trans (heap_alloc_new (w.alloc _) _)) hb; have HG := Lib.hid (gb_trans (gb_alloc (gb_alloc (gb_refl w (some r)) _) _) (gb_below hb)); have r1 : w1.cell? ⟨r, 1, none⟩ = some (.int .i64 size) := hp_cell hh1 1; have r2 : w1.cell? ⟨r, 2, none⟩ = some (.int .i64 owner) := hp_cell hh1 2; have r3 : w1.cell? ⟨r, 3, none⟩ = some (.int .i64 n) := hp_cell hh1 3; have r4 : w1.cell? ⟨r, 4, none⟩ = some (.int .i64 gen) := hp_cell hh1 4; have r5 : w1.cell? ⟨r, 5, none⟩ = some (.slice A l.length cc) := hp_cell hh1 5; have g2 := hp_frozen hh1 2; have g3 := hp_frozen hh1 3; have g4 := hp_frozen hh1 4; have g5 := hp_frozen hh1 5; have x0 : w1.cell? ⟨w.heap.size, 0, none⟩ = some (.int .u8 2) := hp_cell hx 0; have x1 : w1.cell? ⟨w.heap.size, 1, none⟩ = some (.int .i64 who) := hp_cell hx 1; have x2 : w1.cell? ⟨w.heap.size, 2, none⟩ = some (.int .u64 v) := hp_cell hx 2; have y0 : w1.cell? ⟨w.heap.size + 1, 0, none⟩ = some (.int .u64 0) := hp_cell hy 0; have y1 : w1.cell? ⟨w.heap.size + 1, 1, none⟩ = some (.bool false) := hp_cell hy 1; have y2 : w1.cell? ⟨w.heap.size + 1, 2, none⟩ = some (.int .i64 0) := hp_cell hy 2; have z0 := hp_frozen hy 0; have z1 := hp_frozen hy 1; have z2 := hp_frozen hy 2; have l1 := hp_lt hh1; have l2 := hp_lt hx; have l3 := hp_lt hy; have HA1 := Lib.hid hh1; have HY := Lib.hid hy; have HX := Lib.hid hx; have HB := Lib.hid hb; clear hh1 hx hy hb) | (go_at_call 43; refine (refInt_any _ _).mono ?_; rintro e w' ⟨rfl, rfl⟩) | (go_at_call 44; refine (refLess_any v (intV gen) hv (intV_w64 _) _).mono ?_; rintro e w' ⟨rfl, rfl⟩))
  go_quiet (fail)
  go_wp2_with (first | (go_at_call 43; refine (refInt_any _ _).mono ?_; rintro e w' ⟨rfl, rfl⟩) | (go_at_call 44; refine (refLess_any v (intV gen) hv (intV_w64 _) _).mono ?_; rintro e w' ⟨rfl, rfl⟩))
  refine bodyPost_ret (by simp [results, Try.results37, go_sem, *]; try rfl) rfl ?_
  refine (fun G => ⟨rfl, RIn_mk H0.out (l := l) (by simp only [RCells]; exact HA.out) (by simp only [RCells]; (repeat (with_reducible first | apply hp_alloc | apply hp_drewN | apply hp_put62 | apply hp_put63 | apply hp_put64 | apply hp_put65 | (refine hp_far ?_ (by simp; omega) _))); exact HA1.out) HQ.out.1 HQ.out.2.1 HQ.out.2.2 G HF.out, G⟩) ?_
  (repeat (with_reducible first | apply gb_alloc | apply gb_drewN | apply gb_set | (refine gb_new ?_ (by simp) _))); exact HG.out
set_option maxHeartbeats 3200000 in
set_option maxRecDepth 100000 in
theorem rDo_1_unlock1 (who v : Int) (hv : W64 v) (w : World) (H : RIn ok w r 1 size owner n gen l) (h2 : decide (who < 0) = false) (h3 : decide (4 ≤ who) = false) (h4 : fitsB 2 v = true) (p1 : (owner == who) = true) :
    Calls Try.prog 37 #[.pointer (some ⟨r, 0, none⟩), callV 2 who v] w fun e w' => e = .returned (ansV aOne) ∧ RIn ok w' r 1 size (-1) n gen l ∧ w.grownBy w' (some r) := by
  have tk : muTk 2 = true := rfl
  have HH := Lib.hid H
  obtain ⟨hf, h0, A, cc, hh, q1, q2, q3⟩ := H
  have hl := hp_lt hh
  have h0l := h0.1
  simp only [RCells] at hh
  have HA := Lib.hid hh
  have HF := Lib.hid hf
  have H0 := Lib.hid h0
  have HQ := Lib.hid (show l.length ≤ cc ∧ (A = none → cc = 0) ∧ ValsAt ok w A l from ⟨q1, q2, q3⟩)
  clear hf h0 hh q1 q2 q3
  unfold callV
  go_enter Try.func37, Try.ntmps37
  go_wp2_with (first | (go_at_call 41; refine (rTakes_1 2 _ (RIn_alloc (RIn_alloc HH.out _) _)).mono ?_; rintro e w' ⟨rfl, rfl⟩) | (go_at_call 42; refine (refFits_any 2 who v hv _).mono ?_; rintro e w1 ⟨rfl, hb⟩; have hh1 := hp_below (hp_alloc (hp_alloc HA.out _) _) hb; have hx : w1.heap[w.heap.size]? = some (.cells #[.int .u8 2, .int .i64 who, .int .u64 v] 39 (0, 0)) := hp_below (hp_alloc (heap_alloc_new w _) _) hb; have hy : w1.heap[w.heap.size + 1]? = some (.cells #[.int .u64 0, .bool false, .int .i64 0] 83 (0, 0)) := hp_below ((congrArg _ (by simp)).trans (heap_alloc_new (w.alloc _) _)) hb; have HG := Lib.hid (gb_trans (gb_alloc (gb_alloc (gb_refl w (some r)) _) _) (gb_below hb)); have r1 : w1.cell? ⟨r, 1, none⟩ = some (.int .i64 size) := hp_cell hh1 1; have r2 : w1.cell? ⟨r, 2, none⟩ = some (.int .i64 owner) := hp_cell hh1 2; have r3 : w1.cell? ⟨r, 3, none⟩ = some (.int .i64 n) := hp_cell hh1 3; have r4 : w1.cell? ⟨r, 4, none⟩ = some (.int .i64 gen) := hp_cell hh1 4; have r5 : w1.cell? ⟨r, 5, none⟩ = some (.slice A l.length cc) := hp_cell hh1 5; have g2 := hp_frozen hh1 2; have g3 := hp_frozen hh1 3; have g4 := hp_frozen hh1 4; have g5 := hp_frozen hh1 5; have x0 : w1.cell? ⟨w.heap.size, 0, none⟩ = some (.int .u8 2) := hp_cell hx 0; have x1 : w1.cell? ⟨w.heap.size, 1, none⟩ = some (.int .i64 who) := hp_cell hx 1; have x2 : w1.cell? ⟨w.heap.size, 2, none⟩ = some (.int .u64 v) := hp_cell hx 2; have y0 : w1.cell? ⟨w.heap.size + 1, 0, none⟩ = some (.int .u64 0) := hp_cell hy 0; have y1 : w1.cell? ⟨w.heap.size + 1, 1, none⟩ = some (.bool false) := hp_cell hy 1; have y2 : w1.cell? ⟨w.heap.size + 1, 2, none⟩ = some (.int .i64 0) := hp_cell hy 2; have z0 := hp_frozen hy 0; have z1 := hp_frozen hy 1; have z2 := hp_frozen hy 2; have l1 := hp_lt hh1; have l2 := hp_lt hx; have l3 := hp_lt hy; have HA1 := Lib.hid hh1; have HY := Lib.hid hy; have HX := Lib.hid hx; have HB := Lib.hid hb; clear hh1 hx hy hb) | (go_at_call 43; refine (refInt_any _ _).mono ?_; rintro e w' ⟨rfl, rfl⟩) | (go_at_call 44; refine (refLess_any v (intV gen) hv (intV_w64 _) _).mono ?_; rintro e w' ⟨rfl, rfl⟩))
  go_quiet (fail)
  go_wp2_with (first | (go_at_call 43; refine (refInt_any _ _).mono ?_; rintro e w' ⟨rfl, rfl⟩) | (go_at_call 44; refine (refLess_any v (intV gen) hv (intV_w64 _) _).mono ?_; rintro e w' ⟨rfl, rfl⟩))
  refine bodyPost_ret (by simp [results, Try.results37, go_sem, *]; try rfl) rfl ?_
  refine (fun G => ⟨rfl, RIn_mk H0.out (l := l) (by simp only [RCells]; exact HA.out) (by simp only [RCells]; (repeat (with_reducible first | apply hp_alloc | apply hp_drewN | apply hp_put62 | apply hp_put63 | apply hp_put64 | apply hp_put65 | (refine hp_far ?_ (by simp; omega) _))); exact HA1.out) HQ.out.1 HQ.out.2.1 HQ.out.2.2 G HF.out, G⟩) ?_
  (repeat (with_reducible first | apply gb_alloc | apply gb_drewN | apply gb_set | (refine gb_new ?_ (by simp) _))); exact HG.out
set_option maxHeartbeats 3200000 in
set_option maxRecDepth 100000 in
theorem rDo_2_down0 (who v : Int) (hv : W64 v) (w : World) (H : RIn ok w r 2 size owner n gen l) (h2 : decide (who < 0) = false) (h3 : decide (4 ≤ who) = false) (h4 : fitsB 3 v = true) (hn : 0 ≤ n ∧ n ≤ 99) (p1 : (n == 0) = true) :
    Calls Try.prog 37 #[.pointer (some ⟨r, 0, none⟩), callV 3 who v] w fun e w' => e = .returned (ansV aBlocks) ∧ RIn ok w' r 2 size owner n gen l ∧ w.grownBy w' (some r) := by
  have tk : seTk 3 = true := rfl
  have HH := Lib.hid H
  obtain ⟨hf, h0, A, cc, hh, q1, q2, q3⟩ := H
  have hl := hp_lt hh
  have h0l := h0.1
  simp only [RCells] at hh
  have HA := Lib.hid hh
  have HF := Lib.hid hf
  have H0 := Lib.hid h0
  have HQ := Lib.hid (show l.length ≤ cc ∧ (A = none → cc = 0) ∧ ValsAt ok w A l from ⟨q1, q2, q3⟩)
  clear hf h0 hh q1 q2 q3
  unfold callV
  go_enter Try.func37, Try.ntmps37
  go_wp2_with (first | (go_at_call 41; refine (rTakes_2 3 _ (RIn_alloc (RIn_alloc HH.out _) _)).mono ?_; rintro e w' ⟨rfl, rfl⟩) | (go_at_call 42; refine (refFits_any 3 who v hv _).mono ?_; rintro e w1 ⟨rfl, hb⟩; have hh1 := hp_below (hp_alloc (hp_alloc HA.out _) _) hb; have hx : w1.heap[w.heap.size]? = some (.cells #[.int .u8 3, .int .i64 who, .int .u64 v] 39 (0, 0)) := hp_below (hp_alloc (heap_alloc_new w _) _) hb; have hy : w1.heap[w.heap.size + 1]? = some (.cells #[.int .u64 0, .bool false, .int .i64 0] 83 (0, 0)) := hp_below ((congrArg _ (by simp)).trans (heap_alloc_new (w.alloc _) _)) hb; have HG := Lib.hid (gb_trans (gb_alloc (gb_alloc (gb_refl w (some r)) _) _) (gb_below hb)); have r1 : w1.cell? ⟨r, 1, none⟩ = some (.int .i64 size) := hp_cell hh1 1; have r2 : w1.cell? ⟨r, 2, none⟩ = some (.int .i64 owner) := hp_cell hh1 2; have r3 : w1.cell? ⟨r, 3, none⟩ = some (.int .i64 n) := hp_cell hh1 3; have r4 : w1.cell? ⟨r, 4, none⟩ = some (.int .i64 gen) := hp_cell hh1 4; have r5 : w1.cell? ⟨r, 5, none⟩ = some (.slice A l.length cc) := hp_cell hh1 5; have g2 := hp_frozen hh1 2; have g3 := hp_frozen hh1 3; have g4 := hp_frozen hh1 4; have g5 := hp_frozen hh1 5; have x0 : w1.cell? ⟨w.heap.size, 0, none⟩ = some (.int .u8 3) := hp_cell hx 0; have x1 : w1.cell? ⟨w.heap.size, 1, none⟩ = some (.int .i64 who) := hp_cell hx 1; have x2 : w1.cell? ⟨w.heap.size, 2, none⟩ = some (.int .u64 v) := hp_cell hx 2; have y0 : w1.cell? ⟨w.heap.size + 1, 0, none⟩ = some (.int .u64 0) := hp_cell hy 0; have y1 : w1.cell? ⟨w.heap.size + 1, 1, none⟩ = some (.bool false) := hp_cell hy 1; have y2 : w1.cell? ⟨w.heap.size + 1, 2, none⟩ = some (.int .i64 0) := hp_cell hy 2; have z0 := hp_frozen hy 0; have z1 := hp_frozen hy 1; have z2 := hp_frozen hy 2; have l1 := hp_lt hh1; have l2 := hp_lt hx; have l3 := hp_lt hy; have HA1 := Lib.hid hh1; have HY := Lib.hid hy; have HX := Lib.hid hx; have HB := Lib.hid hb; clear hh1 hx hy hb) | (go_at_call 43; refine (refInt_any _ _).mono ?_; rintro e w' ⟨rfl, rfl⟩) | (go_at_call 44; refine (refLess_any v (intV gen) hv (intV_w64 _) _).mono ?_; rintro e w' ⟨rfl, rfl⟩))
  refine bodyPost_ret (by simp [results, Try.results37, go_sem, *]; try rfl) rfl ?_
  refine (fun G => ⟨rfl, RIn_mk H0.out (l := l) (by simp only [RCells]; exact HA.out) (by simp only [RCells]; (repeat (with_reducible first | apply hp_alloc | apply hp_drewN | apply hp_put62 | apply hp_put63 | apply hp_put64 | apply hp_put65 | (refine hp_far ?_ (by simp; omega) _))); exact HA1.out) HQ.out.1 HQ.out.2.1 HQ.out.2.2 G HF.out, G⟩) ?_
  (repeat (with_reducible first | apply gb_alloc | apply gb_drewN | apply gb_set | (refine gb_new ?_ (by simp) _))); exact HG.out
set_option maxHeartbeats 3200000 in
set_option maxRecDepth 100000 in
theorem rDo_2_down1 (who v : Int) (hv : W64 v) (w : World) (H : RIn ok w r 2 size owner n gen l) (h2 : decide (who < 0) = false) (h3 : decide (4 ≤ who) = false) (h4 : fitsB 3 v = true) (hn : 0 ≤ n ∧ n ≤ 99) (p1 : (n == 0) = false) :
    Calls Try.prog 37 #[.pointer (some ⟨r, 0, none⟩), callV 3 who v] w fun e w' => e = .returned (ansV aOne) ∧ RIn ok w' r 2 size owner (n - 1) gen l ∧ w.grownBy w' (some r) := by
  have tk : seTk 3 = true := rfl
  have HH := Lib.hid H
  obtain ⟨hf, h0, A, cc, hh, q1, q2, q3⟩ := H
  have hl := hp_lt hh
  have h0l := h0.1
  simp only [RCells] at hh
  have HA := Lib.hid hh
  have HF := Lib.hid hf
  have H0 := Lib.hid h0
  have HQ := Lib.hid (show l.length ≤ cc ∧ (A = none → cc = 0) ∧ ValsAt ok w A l from ⟨q1, q2, q3⟩)
  clear hf h0 hh q1 q2 q3
  unfold callV
  go_enter Try.func37, Try.ntmps37
  go_wp2_with (first | (go_at_call 41; refine (rTakes_2 3 _ (RIn_alloc (RIn_alloc HH.out _) _)).mono ?_; rintro e w' ⟨rfl, rfl⟩) | (go_at_call 42; refine (refFits_any 3 who v hv _).mono ?_; rintro e w1 ⟨rfl, hb⟩; have hh1 := hp_below (hp_alloc (hp_alloc HA.out _) _) hb; have hx : w1.heap[w.heap.size]? = some (.cells #[.int .u8 3, .int .i64 who, .int .u64 v] 39 (0, 0)) := hp_below (hp_alloc (heap_alloc_new w _) _) hb; have hy : w1.heap[w.heap.size + 1]? = some (.cells #[.int .u64 0, .bool false, .int .i64 0] 83 (0, 0)) := hp_below ((congrArg _ (by simp)).trans (heap_alloc_new (w.alloc _) _)) hb; have HG := Lib.hid (gb_trans (gb_alloc (gb_alloc (gb_refl w (some r)) _) _) (gb_below hb)); have r1 : w1.cell? ⟨r, 1, none⟩ = some (.int .i64 size) := hp_cell hh1 1; have r2 : w1.cell? ⟨r, 2, none⟩ = some (.int .i64 owner) := hp_cell hh1 2; have r3 : w1.cell? ⟨r, 3, none⟩ = some (.int .i64 n) := hp_cell hh1 3; have r4 : w1.cell? ⟨r, 4, none⟩ = some (.int .i64 gen) := hp_cell hh1 4; have r5 : w1.cell? ⟨r, 5, none⟩ = some (.slice A l.length cc) := hp_cell hh1 5; have g2 := hp_frozen hh1 2; have g3 := hp_frozen hh1 3; have g4 := hp_frozen hh1 4; have g5 := hp_frozen hh1 5; have x0 : w1.cell? ⟨w.heap.size, 0, none⟩ = some (.int .u8 3) := hp_cell hx 0; have x1 : w1.cell? ⟨w.heap.size, 1, none⟩ = some (.int .i64 who) := hp_cell hx 1; have x2 : w1.cell? ⟨w.heap.size, 2, none⟩ = some (.int .u64 v) := hp_cell hx 2; have y0 : w1.cell? ⟨w.heap.size + 1, 0, none⟩ = some (.int .u64 0) := hp_cell hy 0; have y1 : w1.cell? ⟨w.heap.size + 1, 1, none⟩ = some (.bool false) := hp_cell hy 1; have y2 : w1.cell? ⟨w.heap.size + 1, 2, none⟩ = some (.int .i64 0) := hp_cell hy 2; have z0 := hp_frozen hy 0; have z1 := hp_frozen hy 1; have z2 := hp_frozen hy 2; have l1 := hp_lt hh1; have l2 := hp_lt hx; have l3 := hp_lt hy; have HA1 := Lib.hid hh1; have HY := Lib.hid hy; have HX := Lib.hid hx; have HB := Lib.hid hb; clear hh1 hx hy hb) | (go_at_call 43; refine (refInt_any _ _).mono ?_; rintro e w' ⟨rfl, rfl⟩) | (go_at_call 44; refine (refLess_any v (intV gen) hv (intV_w64 _) _).mono ?_; rintro e w' ⟨rfl, rfl⟩))
  refine bodyPost_ret (by simp [results, Try.results37, go_sem, *]; try rfl) rfl ?_
  refine (fun G => ⟨rfl, RIn_mk H0.out (l := l) (by simp only [RCells]; exact HA.out) (by simp only [RCells]; (repeat (with_reducible first | apply hp_alloc | apply hp_drewN | apply hp_put62 | apply hp_put63 | apply hp_put64 | apply hp_put65 | (refine hp_far ?_ (by simp; omega) _))); exact HA1.out) HQ.out.1 HQ.out.2.1 HQ.out.2.2 G HF.out, G⟩) ?_
  (repeat (with_reducible first | apply gb_alloc | apply gb_drewN | apply gb_set | (refine gb_new ?_ (by simp) _))); exact HG.out
set_option maxHeartbeats 3200000 in
set_option maxRecDepth 100000 in
theorem rDo_2_up0 (who v : Int) (hv : W64 v) (w : World) (H : RIn ok w r 2 size owner n gen l) (h2 : decide (who < 0) = false) (h3 : decide (4 ≤ who) = false) (h4 : fitsB 4 v = true) (hn : 0 ≤ n ∧ n ≤ 99) (p1 : decide (99 ≤ n) = true) :
    Calls Try.prog 37 #[.pointer (some ⟨r, 0, none⟩), callV 4 who v] w fun e w' => e = .returned (ansV (aErr 4)) ∧ RIn ok w' r 2 size owner n gen l ∧ w.grownBy w' (some r) := by
  have tk : seTk 4 = true := rfl
  have HH := Lib.hid H
  obtain ⟨hf, h0, A, cc, hh, q1, q2, q3⟩ := H
  have hl := hp_lt hh
  have h0l := h0.1
  simp only [RCells] at hh
  have HA := Lib.hid hh
  have HF := Lib.hid hf
  have H0 := Lib.hid h0
  have HQ := Lib.hid (show l.length ≤ cc ∧ (A = none → cc = 0) ∧ ValsAt ok w A l from ⟨q1, q2, q3⟩)
  clear hf h0 hh q1 q2 q3
  unfold callV
  go_enter Try.func37, Try.ntmps37
  go_wp2_with (first | (go_at_call 41; refine (rTakes_2 4 _ (RIn_alloc (RIn_alloc HH.out _) _)).mono ?_; rintro e w' ⟨rfl, rfl⟩) | (go_at_call 42; refine (refFits_any 4 who v hv _).mono ?_; rintro e w1 ⟨rfl, hb⟩; have hh1 := hp_below (hp_alloc (hp_alloc HA.out _) _) hb; have hx : w1.heap[w.heap.size]? = some (.cells #[.int .u8 4, .int .i64 who, .int .u64 v] 39 (0, 0)) := hp_below (hp_alloc (heap_alloc_new w _) _) hb; have hy : w1.heap[w.heap.size + 1]? = some (.cells #[.int .u64 0, .bool false, .int .i64 0] 83 (0, 0)) := hp_below ((congrArg _ (by simp)).trans (heap_alloc_new (w.alloc _) _)) hb; have HG := Lib.hid (gb_trans (gb_alloc (gb_alloc (gb_refl w (some r)) _) _) (gb_below hb)); have r1 : w1.cell? ⟨r, 1, none⟩ = some (.int .i64 size) := hp_cell hh1 1; have r2 : w1.cell? ⟨r, 2, none⟩ = some (.int .i64 owner) := hp_cell hh1 2; have r3 : w1.cell? ⟨r, 3, none⟩ = some (.int .i64 n) := hp_cell hh1 3; have r4 : w1.cell? ⟨r, 4, none⟩ = some (.int .i64 gen) := hp_cell hh1 4; have r5 : w1.cell? ⟨r, 5, none⟩ = some (.slice A l.length cc) := hp_cell hh1 5; have g2 := hp_frozen hh1 2; have g3 := hp_frozen hh1 3; have g4 := hp_frozen hh1 4; have g5 := hp_frozen hh1 5; have x0 : w1.cell? ⟨w.heap.size, 0, none⟩ = some (.int .u8 4) := hp_cell hx 0; have x1 : w1.cell? ⟨w.heap.size, 1, none⟩ = some (.int .i64 who) := hp_cell hx 1; have x2 : w1.cell? ⟨w.heap.size, 2, none⟩ = some (.int .u64 v) := hp_cell hx 2; have y0 : w1.cell? ⟨w.heap.size + 1, 0, none⟩ = some (.int .u64 0) := hp_cell hy 0; have y1 : w1.cell? ⟨w.heap.size + 1, 1, none⟩ = some (.bool false) := hp_cell hy 1; have y2 : w1.cell? ⟨w.heap.size + 1, 2, none⟩ = some (.int .i64 0) := hp_cell hy 2; have z0 := hp_frozen hy 0; have z1 := hp_frozen hy 1; have z2 := hp_frozen hy 2; have l1 := hp_lt hh1; have l2 := hp_lt hx; have l3 := hp_lt hy; have HA1 := Lib.hid hh1; have HY := Lib.hid hy; have HX := Lib.hid hx; have HB := Lib.hid hb; clear hh1 hx hy hb) | (go_at_call 43; refine (refInt_any _ _).mono ?_; rintro e w' ⟨rfl, rfl⟩) | (go_at_call 44; refine (refLess_any v (intV gen) hv (intV_w64 _) _).mono ?_; rintro e w' ⟨rfl, rfl⟩))
  refine bodyPost_ret (by simp [results, Try.results37, go_sem, *]; try rfl) rfl ?_
  refine (fun G => ⟨rfl, RIn_mk H0.out (l := l) (by simp only [RCells]; exact HA.out) (by simp only [RCells]; (repeat (with_reducible first | apply hp_alloc | apply hp_drewN | apply hp_put62 | apply hp_put63 | apply hp_put64 | apply hp_put65 | (refine hp_far ?_ (by simp; omega) _))); exact HA1.out) HQ.out.1 HQ.out.2.1 HQ.out.2.2 G HF.out, G⟩) ?_
  (repeat (with_reducible first | apply gb_alloc | apply gb_drewN | apply gb_set | (refine gb_new ?_ (by simp) _))); exact HG.out
set_option maxHeartbeats 3200000 in
set_option maxRecDepth 100000 in
theorem rDo_2_up1 (who v : Int) (hv : W64 v) (w : World) (H : RIn ok w r 2 size owner n gen l) (h2 : decide (who < 0) = false) (h3 : decide (4 ≤ who) = false) (h4 : fitsB 4 v = true) (hn : 0 ≤ n ∧ n ≤ 99) (p1 : decide (99 ≤ n) = false) :
    Calls Try.prog 37 #[.pointer (some ⟨r, 0, none⟩), callV 4 who v] w fun e w' => e = .returned (ansV aOne) ∧ RIn ok w' r 2 size owner (n + 1) gen l ∧ w.grownBy w' (some r) := by
  have tk : seTk 4 = true := rfl
  have HH := Lib.hid H
  obtain ⟨hf, h0, A, cc, hh, q1, q2, q3⟩ := H
  have hl := hp_lt hh
  have h0l := h0.1
  simp only [RCells] at hh
  have HA := Lib.hid hh
  have HF := Lib.hid hf
  have H0 := Lib.hid h0
  have HQ := Lib.hid (show l.length ≤ cc ∧ (A = none → cc = 0) ∧ ValsAt ok w A l from ⟨q1, q2, q3⟩)
  clear hf h0 hh q1 q2 q3
  unfold callV
  go_enter Try.func37, Try.ntmps37
  go_wp2_with (first | (go_at_call 41; refine (rTakes_2 4 _ (RIn_alloc (RIn_alloc HH.out _) _)).mono ?_; rintro e w' ⟨rfl, rfl⟩) | (go_at_call 42; refine (refFits_any 4 who v hv _).mono ?_; rintro e w1 ⟨rfl, hb⟩; have hh1 := hp_below (hp_alloc (hp_alloc HA.out _) _) hb; have hx : w1.heap[w.heap.size]? = some (.cells #[.int .u8 4, .int .i64 who, .int .u64 v] 39 (0, 0)) := hp_below (hp_alloc (heap_alloc_new w _) _) hb; have hy : w1.heap[w.heap.size + 1]? = some (.cells #[.int .u64 0, .bool false, .int .i64 0] 83 (0, 0)) := hp_below ((congrArg _ (by simp)).trans (heap_alloc_new (w.alloc _) _)) hb; have HG := Lib.hid (gb_trans (gb_alloc (gb_alloc (gb_refl w (some r)) _) _) (gb_below hb)); have r1 : w1.cell? ⟨r, 1, none⟩ = some (.int .i64 size) := hp_cell hh1 1; have r2 : w1.cell? ⟨r, 2, none⟩ = some (.int .i64 owner) := hp_cell hh1 2; have r3 : w1.cell? ⟨r, 3, none⟩ = some (.int .i64 n) := hp_cell hh1 3; have r4 : w1.cell? ⟨r, 4, none⟩ = some (.int .i64 gen) := hp_cell hh1 4; have r5 : w1.cell? ⟨r, 5, none⟩ = some (.slice A l.length cc) := hp_cell hh1 5; have g2 := hp_frozen hh1 2; have g3 := hp_frozen hh1 3; have g4 := hp_frozen hh1 4; have g5 := hp_frozen hh1 5; have x0 : w1.cell? ⟨w.heap.size, 0, none⟩ = some (.int .u8 4) := hp_cell hx 0; have x1 : w1.cell? ⟨w.heap.size, 1, none⟩ = some (.int .i64 who) := hp_cell hx 1; have x2 : w1.cell? ⟨w.heap.size, 2, none⟩ = some (.int .u64 v) := hp_cell hx 2; have y0 : w1.cell? ⟨w.heap.size + 1, 0, none⟩ = some (.int .u64 0) := hp_cell hy 0; have y1 : w1.cell? ⟨w.heap.size + 1, 1, none⟩ = some (.bool false) := hp_cell hy 1; have y2 : w1.cell? ⟨w.heap.size + 1, 2, none⟩ = some (.int .i64 0) := hp_cell hy 2; have z0 := hp_frozen hy 0; have z1 := hp_frozen hy 1; have z2 := hp_frozen hy 2; have l1 := hp_lt hh1; have l2 := hp_lt hx; have l3 := hp_lt hy; have HA1 := Lib.hid hh1; have HY := Lib.hid hy; have HX := Lib.hid hx; have HB := Lib.hid hb; clear hh1 hx hy hb) | (go_at_call 43; refine (refInt_any _ _).mono ?_; rintro e w' ⟨rfl, rfl⟩) | (go_at_call 44; refine (refLess_any v (intV gen) hv (intV_w64 _) _).mono ?_; rintro e w' ⟨rfl, rfl⟩))
  refine bodyPost_ret (by simp [results, Try.results37, go_sem, *]; try rfl) rfl ?_
  refine (fun G => ⟨rfl, RIn_mk H0.out (l := l) (by simp only [RCells]; exact HA.out) (by simp only [RCells]; (repeat (with_reducible first | apply hp_alloc | apply hp_drewN | apply hp_put62 | apply hp_put63 | apply hp_put64 | apply hp_put65 | (refine hp_far ?_ (by simp; omega) _))); exact HA1.out) HQ.out.1 HQ.out.2.1 HQ.out.2.2 G HF.out, G⟩) ?_
  (repeat (with_reducible first | apply gb_alloc | apply gb_drewN | apply gb_set | (refine gb_new ?_ (by simp) _))); exact HG.out
set_option maxHeartbeats 3200000 in
set_option maxRecDepth 100000 in
theorem rDo_4_leave1 (who v : Int) (hv : W64 v) (w : World) (H : RIn ok w r 4 size owner n gen l) (h2 : decide (who < 0) = false) (h3 : decide (4 ≤ who) = false) (h4 : fitsB 8 v = true) (p1 : lessB v (intV gen) = true) :
    Calls Try.prog 37 #[.pointer (some ⟨r, 0, none⟩), callV 8 who v] w fun e w' => e = .returned (ansV aOne) ∧ RIn ok w' r 4 size owner n gen l ∧ w.grownBy w' (some r) := by
  have tk : baTk 8 = true := rfl
  have HH := Lib.hid H
  obtain ⟨hf, h0, A, cc, hh, q1, q2, q3⟩ := H
  have hl := hp_lt hh
  have h0l := h0.1
  simp only [RCells] at hh
  have HA := Lib.hid hh
  have HF := Lib.hid hf
  have H0 := Lib.hid h0
  have HQ := Lib.hid (show l.length ≤ cc ∧ (A = none → cc = 0) ∧ ValsAt ok w A l from ⟨q1, q2, q3⟩)
  clear hf h0 hh q1 q2 q3
  unfold callV
  go_enter Try.func37, Try.ntmps37
  go_wp2_with (first | (go_at_call 41; refine (rTakes_4 8 _ (RIn_alloc (RIn_alloc HH.out _) _)).mono ?_; rintro e w' ⟨rfl, rfl⟩) | (go_at_call 42; refine (refFits_any 8 who v hv _).mono ?_; rintro e w1 ⟨rfl, hb⟩; have hh1 := hp_below (hp_alloc (hp_alloc HA.out _) _) hb; have hx : w1.heap[w.heap.size]? = some (.cells #[.int .u8 8, .int .i64 who, .int .u64 v] 39 (0, 0)) := hp_below (hp_alloc (heap_alloc_new w _) _) hb; have hy : w1.heap[w.heap.size + 1]? = some (.cells #[.int .u64 0, .bool false, .int .i64 0] 83 (0, 0)) := hp_below ((congrArg _ (by simp)).trans (heap_alloc_new (w.alloc _) _)) hb; have HG := Lib.hid (gb_trans (gb_alloc (gb_alloc (gb_refl w (some r)) _) _) (gb_below hb)); have r1 : w1.cell? ⟨r, 1, none⟩ = some (.int .i64 size) := hp_cell hh1 1; have r2 : w1.cell? ⟨r, 2, none⟩ = some (.int .i64 owner) := hp_cell hh1 2; have r3 : w1.cell? ⟨r, 3, none⟩ = some (.int .i64 n) := hp_cell hh1 3; have r4 : w1.cell? ⟨r, 4, none⟩ = some (.int .i64 gen) := hp_cell hh1 4; have r5 : w1.cell? ⟨r, 5, none⟩ = some (.slice A l.length cc) := hp_cell hh1 5; have g2 := hp_frozen hh1 2; have g3 := hp_frozen hh1 3; have g4 := hp_frozen hh1 4; have g5 := hp_frozen hh1 5; have x0 : w1.cell? ⟨w.heap.size, 0, none⟩ = some (.int .u8 8) := hp_cell hx 0; have x1 : w1.cell? ⟨w.heap.size, 1, none⟩ = some (.int .i64 who) := hp_cell hx 1; have x2 : w1.cell? ⟨w.heap.size, 2, none⟩ = some (.int .u64 v) := hp_cell hx 2; have y0 : w1.cell? ⟨w.heap.size + 1, 0, none⟩ = some (.int .u64 0) := hp_cell hy 0; have y1 : w1.cell? ⟨w.heap.size + 1, 1, none⟩ = some (.bool false) := hp_cell hy 1; have y2 : w1.cell? ⟨w.heap.size + 1, 2, none⟩ = some (.int .i64 0) := hp_cell hy 2; have z0 := hp_frozen hy 0; have z1 := hp_frozen hy 1; have z2 := hp_frozen hy 2; have l1 := hp_lt hh1; have l2 := hp_lt hx; have l3 := hp_lt hy; have HA1 := Lib.hid hh1; have HY := Lib.hid hy; have HX := Lib.hid hx; have HB := Lib.hid hb; clear hh1 hx hy hb) | (go_at_call 43; refine (refInt_any _ _).mono ?_; rintro e w' ⟨rfl, rfl⟩) | (go_at_call 44; refine (refLess_any v (intV gen) hv (intV_w64 _) _).mono ?_; rintro e w' ⟨rfl, rfl⟩))
  refine bodyPost_ret (by simp [results, Try.results37, go_sem, *]; try rfl) rfl ?_
  refine (fun G => ⟨rfl, RIn_mk H0.out (l := l) (by simp only [RCells]; exact HA.out) (by simp only [RCells]; (repeat (with_reducible first | apply hp_alloc | apply hp_drewN | apply hp_put62 | apply hp_put63 | apply hp_put64 | apply hp_put65 | (refine hp_far ?_ (by simp; omega) _))); exact HA1.out) HQ.out.1 HQ.out.2.1 HQ.out.2.2 G HF.out, G⟩) ?_
  (repeat (with_reducible first | apply gb_alloc | apply gb_drewN | apply gb_set | (refine gb_new ?_ (by simp) _))); exact HG.out
set_option maxHeartbeats 3200000 in
set_option maxRecDepth 100000 in
theorem rDo_4_leave0 (who v : Int) (hv : W64 v) (w : World) (H : RIn ok w r 4 size owner n gen l) (h2 : decide (who < 0) = false) (h3 : decide (4 ≤ who) = false) (h4 : fitsB 8 v = true) (p1 : lessB v (intV gen) = false) :
    Calls Try.prog 37 #[.pointer (some ⟨r, 0, none⟩), callV 8 who v] w fun e w' => e = .returned (ansV aBlocks) ∧ RIn ok w' r 4 size owner n gen l ∧ w.grownBy w' (some r) := by
  have tk : baTk 8 = true := rfl
  have HH := Lib.hid H
  obtain ⟨hf, h0, A, cc, hh, q1, q2, q3⟩ := H
  have hl := hp_lt hh
  have h0l := h0.1
  simp only [RCells] at hh
  have HA := Lib.hid hh
  have HF := Lib.hid hf
  have H0 := Lib.hid h0
  have HQ := Lib.hid (show l.length ≤ cc ∧ (A = none → cc = 0) ∧ ValsAt ok w A l from ⟨q1, q2, q3⟩)
  clear hf h0 hh q1 q2 q3
  unfold callV
  go_enter Try.func37, Try.ntmps37
  go_wp2_with (first | (go_at_call 41; refine (rTakes_4 8 _ (RIn_alloc (RIn_alloc HH.out _) _)).mono ?_; rintro e w' ⟨rfl, rfl⟩) | (go_at_call 42; refine (refFits_any 8 who v hv _).mono ?_; rintro e w1 ⟨rfl, hb⟩; have hh1 := hp_below (hp_alloc (hp_alloc HA.out _) _) hb; have hx : w1.heap[w.heap.size]? = some (.cells #[.int .u8 8, .int .i64 who, .int .u64 v] 39 (0, 0)) := hp_below (hp_alloc (heap_alloc_new w _) _) hb; have hy : w1.heap[w.heap.size + 1]? = some (.cells #[.int .u64 0, .bool false, .int .i64 0] 83 (0, 0)) := hp_below ((congrArg _ (by simp)).trans (heap_alloc_new (w.alloc _) _)) hb; have HG := Lib.hid (gb_trans (gb_alloc (gb_alloc (gb_refl w (some r)) _) _) (gb_below hb)); have r1 : w1.cell? ⟨r, 1, none⟩ = some (.int .i64 size) := hp_cell hh1 1; have r2 : w1.cell? ⟨r, 2, none⟩ = some (.int .i64 owner) := hp_cell hh1 2; have r3 : w1.cell? ⟨r, 3, none⟩ = some (.int .i64 n) := hp_cell hh1 3; have r4 : w1.cell? ⟨r, 4, none⟩ = some (.int .i64 gen) := hp_cell hh1 4; have r5 : w1.cell? ⟨r, 5, none⟩ = some (.slice A l.length cc) := hp_cell hh1 5; have g2 := hp_frozen hh1 2; have g3 := hp_frozen hh1 3; have g4 := hp_frozen hh1 4; have g5 := hp_frozen hh1 5; have x0 : w1.cell? ⟨w.heap.size, 0, none⟩ = some (.int .u8 8) := hp_cell hx 0; have x1 : w1.cell? ⟨w.heap.size, 1, none⟩ = some (.int .i64 who) := hp_cell hx 1; have x2 : w1.cell? ⟨w.heap.size, 2, none⟩ = some (.int .u64 v) := hp_cell hx 2; have y0 : w1.cell? ⟨w.heap.size + 1, 0, none⟩ = some (.int .u64 0) := hp_cell hy 0; have y1 : w1.cell? ⟨w.heap.size + 1, 1, none⟩ = some (.bool false) := hp_cell hy 1; have y2 : w1.cell? ⟨w.heap.size + 1, 2, none⟩ = some (.int .i64 0) := hp_cell hy 2; have z0 := hp_frozen hy 0; have z1 := hp_frozen hy 1; have z2 := hp_frozen hy 2; have l1 := hp_lt hh1; have l2 := hp_lt hx; have l3 := hp_lt hy; have HA1 := Lib.hid hh1; have HY := Lib.hid hy; have HX := Lib.hid hx; have HB := Lib.hid hb; clear hh1 hx hy hb) | (go_at_call 43; refine (refInt_any _ _).mono ?_; rintro e w' ⟨rfl, rfl⟩) | (go_at_call 44; refine (refLess_any v (intV gen) hv (intV_w64 _) _).mono ?_; rintro e w' ⟨rfl, rfl⟩))
  refine bodyPost_ret (by simp [results, Try.results37, go_sem, *]; try rfl) rfl ?_
  refine (fun G => ⟨rfl, RIn_mk H0.out (l := l) (by simp only [RCells]; exact HA.out) (by simp only [RCells]; (repeat (with_reducible first | apply hp_alloc | apply hp_drewN | apply hp_put62 | apply hp_put63 | apply hp_put64 | apply hp_put65 | (refine hp_far ?_ (by simp; omega) _))); exact HA1.out) HQ.out.1 HQ.out.2.1 HQ.out.2.2 G HF.out, G⟩) ?_
  (repeat (with_reducible first | apply gb_alloc | apply gb_drewN | apply gb_set | (refine gb_new ?_ (by simp) _))); exact HG.out
set_option maxHeartbeats 3200000 in
set_option maxRecDepth 100000 in
theorem rDo_4_arrive1 (who v : Int) (hv : W64 v) (w : World) (H : RIn ok w r 4 size owner n gen l) (h2 : decide (who < 0) = false) (h3 : decide (4 ≤ who) = false) (h4 : fitsB 7 v = true) (p1 : (wrap64 (n + 1) == size) = true) :
    Calls Try.prog 37 #[.pointer (some ⟨r, 0, none⟩), callV 7 who v] w fun e w' => e = .returned (ansV (intV gen, false, 0)) ∧ RIn ok w' r 4 size owner 0 (wrap64 (gen + 1)) l ∧ w.grownBy w' (some r) := by
  have tk : baTk 7 = true := rfl
  have HH := Lib.hid H
  obtain ⟨hf, h0, A, cc, hh, q1, q2, q3⟩ := H
  have hl := hp_lt hh
  have h0l := h0.1
  simp only [RCells] at hh
  have HA := Lib.hid hh
  have HF := Lib.hid hf
  have H0 := Lib.hid h0
  have HQ := Lib.hid (show l.length ≤ cc ∧ (A = none → cc = 0) ∧ ValsAt ok w A l from ⟨q1, q2, q3⟩)
  clear hf h0 hh q1 q2 q3
  unfold callV
  go_enter Try.func37, Try.ntmps37
  go_wp2_with (first | (go_at_call 41; refine (rTakes_4 7 _ (RIn_alloc (RIn_alloc HH.out _) _)).mono ?_; rintro e w' ⟨rfl, rfl⟩) | (go_at_call 42; refine (refFits_any 7 who v hv _).mono ?_; rintro e w1 ⟨rfl, hb⟩; have hh1 := hp_below (hp_alloc (hp_alloc HA.out _) _) hb; have hx : w1.heap[w.heap.size]? = some (.cells #[.int .u8 7, .int .i64 who, .int .u64 v] 39 (0, 0)) := hp_below (hp_alloc (heap_alloc_new w _) _) hb; have hy : w1.heap[w.heap.size + 1]? = some (.cells #[.int .u64 0, .bool false, .int .i64 0] 83 (0, 0)) := hp_below ((congrArg _ (by simp)).trans (heap_alloc_new (w.alloc _) _)) hb; have HG := Lib.hid (gb_trans (gb_alloc (gb_alloc (gb_refl w (some r)) _) _) (gb_below hb)); have r1 : w1.cell? ⟨r, 1, none⟩ = some (.int .i64 size) := hp_cell hh1 1; have r2 : w1.cell? ⟨r, 2, none⟩ = some (.int .i64 owner) := hp_cell hh1 2; have r3 : w1.cell? ⟨r, 3, none⟩ = some (.int .i64 n) := hp_cell hh1 3; have r4 : w1.cell? ⟨r, 4, none⟩ = some (.int .i64 gen) := hp_cell hh1 4; have r5 : w1.cell? ⟨r, 5, none⟩ = some (.slice A l.length cc) := hp_cell hh1 5; have g2 := hp_frozen hh1 2; have g3 := hp_frozen hh1 3; have g4 := hp_frozen hh1 4; have g5 := hp_frozen hh1 5; have x0 : w1.cell? ⟨w.heap.size, 0, none⟩ = some (.int .u8 7) := hp_cell hx 0; have x1 : w1.cell? ⟨w.heap.size, 1, none⟩ = some (.int .i64 who) := hp_cell hx 1; have x2 : w1.cell? ⟨w.heap.size, 2, none⟩ = some (.int .u64 v) := hp_cell hx 2; have y0 : w1.cell? ⟨w.heap.size + 1, 0, none⟩ = some (.int .u64 0) := hp_cell hy 0; have y1 : w1.cell? ⟨w.heap.size + 1, 1, none⟩ = some (.bool false) := hp_cell hy 1; have y2 : w1.cell? ⟨w.heap.size + 1, 2, none⟩ = some (.int .i64 0) := hp_cell hy 2; have z0 := hp_frozen hy 0; have z1 := hp_frozen hy 1; have z2 := hp_frozen hy 2; have l1 := hp_lt hh1; have l2 := hp_lt hx; have l3 := hp_lt hy; have HA1 := Lib.hid hh1; have HY := Lib.hid hy; have HX := Lib.hid hx; have HB := Lib.hid hb; clear hh1 hx hy hb) | (go_at_call 43; refine (refInt_any _ _).mono ?_; rintro e w' ⟨rfl, rfl⟩) | (go_at_call 44; refine (refLess_any v (intV gen) hv (intV_w64 _) _).mono ?_; rintro e w' ⟨rfl, rfl⟩))
  go_quiet (fail)
  go_wp2_with (first | (go_at_call 43; refine (refInt_any _ _).mono ?_; rintro e w' ⟨rfl, rfl⟩) | (go_at_call 44; refine (refLess_any v (intV gen) hv (intV_w64 _) _).mono ?_; rintro e w' ⟨rfl, rfl⟩))
  refine bodyPost_ret (by simp [results, Try.results37, go_sem, *]; try rfl) rfl ?_
  refine (fun G => ⟨rfl, RIn_mk H0.out (l := l) (by simp only [RCells]; exact HA.out) (by simp only [RCells]; (repeat (with_reducible first | apply hp_alloc | apply hp_drewN | apply hp_put62 | apply hp_put63 | apply hp_put64 | apply hp_put65 | (refine hp_far ?_ (by simp; omega) _))); exact HA1.out) HQ.out.1 HQ.out.2.1 HQ.out.2.2 G HF.out, G⟩) ?_
  (repeat (with_reducible first | apply gb_alloc | apply gb_drewN | apply gb_set | (refine gb_new ?_ (by simp) _))); exact HG.out
set_option maxHeartbeats 3200000 in
set_option maxRecDepth 100000 in
theorem rDo_4_arrive0 (who v : Int) (hv : W64 v) (w : World) (H : RIn ok w r 4 size owner n gen l) (h2 : decide (who < 0) = false) (h3 : decide (4 ≤ who) = false) (h4 : fitsB 7 v = true) (p1 : (wrap64 (n + 1) == size) = false) :
    Calls Try.prog 37 #[.pointer (some ⟨r, 0, none⟩), callV 7 who v] w fun e w' => e = .returned (ansV (intV gen, false, 0)) ∧ RIn ok w' r 4 size owner (wrap64 (n + 1)) gen l ∧ w.grownBy w' (some r) := by
  have tk : baTk 7 = true := rfl
  have HH := Lib.hid H
  obtain ⟨hf, h0, A, cc, hh, q1, q2, q3⟩ := H
  have hl := hp_lt hh
  have h0l := h0.1
  simp only [RCells] at hh
  have HA := Lib.hid hh
  have HF := Lib.hid hf
  have H0 := Lib.hid h0
  have HQ := Lib.hid (show l.length ≤ cc ∧ (A = none → cc = 0) ∧ ValsAt ok w A l from ⟨q1, q2, q3⟩)
  clear hf h0 hh q1 q2 q3
  unfold callV
  go_enter Try.func37, Try.ntmps37
  go_wp2_with (first | (go_at_call 41; refine (rTakes_4 7 _ (RIn_alloc (RIn_alloc HH.out _) _)).mono ?_; rintro e w' ⟨rfl, rfl⟩) | (go_at_call 42; refine (refFits_any 7 who v hv _).mono ?_; rintro e w1 ⟨rfl, hb⟩; have hh1 := hp_below (hp_alloc (hp_alloc HA.out _) _) hb; have hx : w1.heap[w.heap.size]? = some (.cells #[.int .u8 7, .int .i64 who, .int .u64 v] 39 (0, 0)) := hp_below (hp_alloc (heap_alloc_new w _) _) hb; have hy : w1.heap[w.heap.size + 1]? = some (.cells #[.int .u64 0, .bool false, .int .i64 0] 83 (0, 0)) := hp_below ((congrArg _ (by simp)).trans (heap_alloc_new (w.alloc _) _)) hb; have HG := Lib.hid (gb_trans (gb_alloc (gb_alloc (gb_refl w (some r)) _) _) (gb_below hb)); have r1 : w1.cell? ⟨r, 1, none⟩ = some (.int .i64 size) := hp_cell hh1 1; have r2 : w1.cell? ⟨r, 2, none⟩ = some (.int .i64 owner) := hp_cell hh1 2; have r3 : w1.cell? ⟨r, 3, none⟩ = some (.int .i64 n) := hp_cell hh1 3; have r4 : w1.cell? ⟨r, 4, none⟩ = some (.int .i64 gen) := hp_cell hh1 4; have r5 : w1.cell? ⟨r, 5, none⟩ = some (.slice A l.length cc) := hp_cell hh1 5; have g2 := hp_frozen hh1 2; have g3 := hp_frozen hh1 3; have g4 := hp_frozen hh1 4; have g5 := hp_frozen hh1 5; have x0 : w1.cell? ⟨w.heap.size, 0, none⟩ = some (.int .u8 7) := hp_cell hx 0; have x1 : w1.cell? ⟨w.heap.size, 1, none⟩ = some (.int .i64 who) := hp_cell hx 1; have x2 : w1.cell? ⟨w.heap.size, 2, none⟩ = some (.int .u64 v) := hp_cell hx 2; have y0 : w1.cell? ⟨w.heap.size + 1, 0, none⟩ = some (.int .u64 0) := hp_cell hy 0; have y1 : w1.cell? ⟨w.heap.size + 1, 1, none⟩ = some (.bool false) := hp_cell hy 1; have y2 : w1.cell? ⟨w.heap.size + 1, 2, none⟩ = some (.int .i64 0) := hp_cell hy 2; have z0 := hp_frozen hy 0; have z1 := hp_frozen hy 1; have z2 := hp_frozen hy 2; have l1 := hp_lt hh1; have l2 := hp_lt hx; have l3 := hp_lt hy; have HA1 := Lib.hid hh1; have HY := Lib.hid hy; have HX := Lib.hid hx; have HB := Lib.hid hb; clear hh1 hx hy hb) | (go_at_call 43; refine (refInt_any _ _).mono ?_; rintro e w' ⟨rfl, rfl⟩) | (go_at_call 44; refine (refLess_any v (intV gen) hv (intV_w64 _) _).mono ?_; rintro e w' ⟨rfl, rfl⟩))
  go_quiet (fail)
  go_wp2_with (first | (go_at_call 43; refine (refInt_any _ _).mono ?_; rintro e w' ⟨rfl, rfl⟩) | (go_at_call 44; refine (refLess_any v (intV gen) hv (intV_w64 _) _).mono ?_; rintro e w' ⟨rfl, rfl⟩))
  refine bodyPost_ret (by simp [results, Try.results37, go_sem, *]; try rfl) rfl ?_
  refine (fun G => ⟨rfl, RIn_mk H0.out (l := l) (by simp only [RCells]; exact HA.out) (by simp only [RCells]; (repeat (with_reducible first | apply hp_alloc | apply hp_drewN | apply hp_put62 | apply hp_put63 | apply hp_put64 | apply hp_put65 | (refine hp_far ?_ (by simp; omega) _))); exact HA1.out) HQ.out.1 HQ.out.2.1 HQ.out.2.2 G HF.out, G⟩) ?_
  (repeat (with_reducible first | apply gb_alloc | apply gb_drewN | apply gb_set | (refine gb_new ?_ (by simp) _))); exact HG.out

end Go.Proofs.Ytbanfaboimachaa
