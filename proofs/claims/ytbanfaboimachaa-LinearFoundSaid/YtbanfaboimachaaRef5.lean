
/-
  The reference's object: what is refused; a nil one.
-/
import Derived.Test.YtbanfaboimachaaObj5
import Derived.Test.YtbanfaboimachaaObj2
import Derived.Test.YtbanfaboimachaaObj3
import Derived.Test.YtbanfaboimachaaObj4
import Derived.Maps.AppendAt
import Derived.Test.YtbanfaboimachaaRef1
namespace Go.Proofs.Ytbanfaboimachaa
open Go.RowKit
set_option linter.unusedSimpArgs false
set_option linter.unusedVariables false
variable {ok : Nat → Prop}

variable {r : Nat} {size owner n gen : Int} {l : List Int}
set_option maxRecDepth 100000 in
theorem rBad1_1 (c who v : Int) (w : World) (H : RIn ok w r 1 size owner n gen l) (h : muTk c = false ∨ (muTk c = true ∧ decide (who < 0) = true) ∨ (muTk c = true ∧ decide (who < 0) = false ∧ decide (4 ≤ who) = true)) :
    Calls Try.prog 37 #[.pointer (some ⟨r, 0, none⟩), callV c who v] w fun e w' => e = .returned (ansV (aErr 3)) ∧ RIn ok w' r 1 size owner n gen l ∧ w.grownBy w' (some r) := by
  have HH := Lib.hid H
  clear H
  unfold callV
  rcases h with h1 | ⟨h1, h2⟩ | ⟨h1, h2, h3⟩
  all_goals
    go_enter Try.func37, Try.ntmps37
    go_wp2_with (go_at_call 41; refine (rTakes_1 c _ (RIn_alloc (RIn_alloc HH.out _) _)).mono ?_; rintro e w' ⟨rfl, rfl⟩)
    go_returns
    exact ⟨rfl, by (repeat with_reducible apply RIn_alloc); exact HH.out, by (repeat (with_reducible first | apply gb_alloc | apply gb_drewN)); exact gb_refl _ _⟩
set_option maxRecDepth 100000 in
theorem rBad2_1 (c who v : Int) (hv : W64 v) (w : World) (H : RIn ok w r 1 size owner n gen l) (h1 : muTk c = true) (h2 : decide (who < 0) = false) (h3 : decide (4 ≤ who) = false) (h4 : fitsB c v = false) :
    Calls Try.prog 37 #[.pointer (some ⟨r, 0, none⟩), callV c who v] w fun e w' => e = .returned (ansV (aErr 3)) ∧ RIn ok w' r 1 size owner n gen l ∧ w.grownBy w' (some r) := by
  have HH := Lib.hid H
  clear H
  unfold callV
  go_enter Try.func37, Try.ntmps37
  go_wp2_with (first | (go_at_call 41; refine (rTakes_1 c _ (RIn_alloc (RIn_alloc HH.out _) _)).mono ?_; rintro e w' ⟨rfl, rfl⟩) | (go_at_call 42; refine (refFits_any c who v hv _).mono ?_; rintro e w1 ⟨rfl, hb⟩; have HA := Lib.hid (RIn_below (RIn_alloc (RIn_alloc HH.out _) _) hb); have hy : w1.heap[w.heap.size + 1]? = some (.cells #[.int .u64 0, .bool false, .int .i64 0] 83 (0, 0)) := hp_below ((congrArg _ (by simp)).trans (heap_alloc_new (w.alloc _) _)) hb; have hg : w.grownBy w1 (some r) := gb_trans (gb_alloc (gb_alloc (gb_refl w _) _) _) (gb_below hb); have y0 : w1.cell? ⟨w.heap.size + 1, 0, none⟩ = some (.int .u64 0) := hp_cell hy 0; have y1 : w1.cell? ⟨w.heap.size + 1, 1, none⟩ = some (.bool false) := hp_cell hy 1; have y2 : w1.cell? ⟨w.heap.size + 1, 2, none⟩ = some (.int .i64 0) := hp_cell hy 2; have z0 := hp_frozen hy 0; have z1 := hp_frozen hy 1; have z2 := hp_frozen hy 2; have HY := Lib.hid hy; clear hy hb))
  refine bodyPost_ret (by simp [results, Try.results37, go_sem, y0, y1, y2]; try rfl) rfl ?_
  refine ⟨rfl, RIn_far (RIn_far (RIn_far HA.out HY.out (by decide) (by decide) 0 _) (hp_put30 HY.out _) (by decide) (by decide) 1 _) (hp_put31 (hp_put30 HY.out _) _) (by decide) (by decide) 2 _, ?_⟩
  (repeat (with_reducible refine gb_new ?_ (by simp) _)); exact hg
set_option maxRecDepth 100000 in
theorem rBad1_2 (c who v : Int) (w : World) (H : RIn ok w r 2 size owner n gen l) (h : seTk c = false ∨ (seTk c = true ∧ decide (who < 0) = true) ∨ (seTk c = true ∧ decide (who < 0) = false ∧ decide (4 ≤ who) = true)) :
    Calls Try.prog 37 #[.pointer (some ⟨r, 0, none⟩), callV c who v] w fun e w' => e = .returned (ansV (aErr 3)) ∧ RIn ok w' r 2 size owner n gen l ∧ w.grownBy w' (some r) := by
  have HH := Lib.hid H
  clear H
  unfold callV
  rcases h with h1 | ⟨h1, h2⟩ | ⟨h1, h2, h3⟩
  all_goals
    go_enter Try.func37, Try.ntmps37
    go_wp2_with (go_at_call 41; refine (rTakes_2 c _ (RIn_alloc (RIn_alloc HH.out _) _)).mono ?_; rintro e w' ⟨rfl, rfl⟩)
    go_returns
    exact ⟨rfl, by (repeat with_reducible apply RIn_alloc); exact HH.out, by (repeat (with_reducible first | apply gb_alloc | apply gb_drewN)); exact gb_refl _ _⟩
set_option maxRecDepth 100000 in
theorem rBad2_2 (c who v : Int) (hv : W64 v) (w : World) (H : RIn ok w r 2 size owner n gen l) (h1 : seTk c = true) (h2 : decide (who < 0) = false) (h3 : decide (4 ≤ who) = false) (h4 : fitsB c v = false) :
    Calls Try.prog 37 #[.pointer (some ⟨r, 0, none⟩), callV c who v] w fun e w' => e = .returned (ansV (aErr 3)) ∧ RIn ok w' r 2 size owner n gen l ∧ w.grownBy w' (some r) := by
  have HH := Lib.hid H
  clear H
  unfold callV
  go_enter Try.func37, Try.ntmps37
  go_wp2_with (first | (go_at_call 41; refine (rTakes_2 c _ (RIn_alloc (RIn_alloc HH.out _) _)).mono ?_; rintro e w' ⟨rfl, rfl⟩) | (go_at_call 42; refine (refFits_any c who v hv _).mono ?_; rintro e w1 ⟨rfl, hb⟩; have HA := Lib.hid (RIn_below (RIn_alloc (RIn_alloc HH.out _) _) hb); have hy : w1.heap[w.heap.size + 1]? = some (.cells #[.int .u64 0, .bool false, .int .i64 0] 83 (0, 0)) := hp_below ((congrArg _ (by simp)).trans (heap_alloc_new (w.alloc _) _)) hb; have hg : w.grownBy w1 (some r) := gb_trans (gb_alloc (gb_alloc (gb_refl w _) _) _) (gb_below hb); have y0 : w1.cell? ⟨w.heap.size + 1, 0, none⟩ = some (.int .u64 0) := hp_cell hy 0; have y1 : w1.cell? ⟨w.heap.size + 1, 1, none⟩ = some (.bool false) := hp_cell hy 1; have y2 : w1.cell? ⟨w.heap.size + 1, 2, none⟩ = some (.int .i64 0) := hp_cell hy 2; have z0 := hp_frozen hy 0; have z1 := hp_frozen hy 1; have z2 := hp_frozen hy 2; have HY := Lib.hid hy; clear hy hb))
  refine bodyPost_ret (by simp [results, Try.results37, go_sem, y0, y1, y2]; try rfl) rfl ?_
  refine ⟨rfl, RIn_far (RIn_far (RIn_far HA.out HY.out (by decide) (by decide) 0 _) (hp_put30 HY.out _) (by decide) (by decide) 1 _) (hp_put31 (hp_put30 HY.out _) _) (by decide) (by decide) 2 _, ?_⟩
  (repeat (with_reducible refine gb_new ?_ (by simp) _)); exact hg
set_option maxRecDepth 100000 in
theorem rBad1_3 (c who v : Int) (w : World) (H : RIn ok w r 3 size owner n gen l) (h : quTk c = false ∨ (quTk c = true ∧ decide (who < 0) = true) ∨ (quTk c = true ∧ decide (who < 0) = false ∧ decide (4 ≤ who) = true)) :
    Calls Try.prog 37 #[.pointer (some ⟨r, 0, none⟩), callV c who v] w fun e w' => e = .returned (ansV (aErr 3)) ∧ RIn ok w' r 3 size owner n gen l ∧ w.grownBy w' (some r) := by
  have HH := Lib.hid H
  clear H
  unfold callV
  rcases h with h1 | ⟨h1, h2⟩ | ⟨h1, h2, h3⟩
  all_goals
    go_enter Try.func37, Try.ntmps37
    go_wp2_with (go_at_call 41; refine (rTakes_3 c _ (RIn_alloc (RIn_alloc HH.out _) _)).mono ?_; rintro e w' ⟨rfl, rfl⟩)
    go_returns
    exact ⟨rfl, by (repeat with_reducible apply RIn_alloc); exact HH.out, by (repeat (with_reducible first | apply gb_alloc | apply gb_drewN)); exact gb_refl _ _⟩
set_option maxRecDepth 100000 in
theorem rBad2_3 (c who v : Int) (hv : W64 v) (w : World) (H : RIn ok w r 3 size owner n gen l) (h1 : quTk c = true) (h2 : decide (who < 0) = false) (h3 : decide (4 ≤ who) = false) (h4 : fitsB c v = false) :
    Calls Try.prog 37 #[.pointer (some ⟨r, 0, none⟩), callV c who v] w fun e w' => e = .returned (ansV (aErr 3)) ∧ RIn ok w' r 3 size owner n gen l ∧ w.grownBy w' (some r) := by
  have HH := Lib.hid H
  clear H
  unfold callV
  go_enter Try.func37, Try.ntmps37
  go_wp2_with (first | (go_at_call 41; refine (rTakes_3 c _ (RIn_alloc (RIn_alloc HH.out _) _)).mono ?_; rintro e w' ⟨rfl, rfl⟩) | (go_at_call 42; refine (refFits_any c who v hv _).mono ?_; rintro e w1 ⟨rfl, hb⟩; have HA := Lib.hid (RIn_below (RIn_alloc (RIn_alloc HH.out _) _) hb); have hy : w1.heap[w.heap.size + 1]? = some (.cells #[.int .u64 0, .bool false, .int .i64 0] 83 (0, 0)) := hp_below ((congrArg _ (by simp)).trans (heap_alloc_new (w.alloc _) _)) hb; have hg : w.grownBy w1 (some r) := gb_trans (gb_alloc (gb_alloc (gb_refl w _) _) _) (gb_below hb); have y0 : w1.cell? ⟨w.heap.size + 1, 0, none⟩ = some (.int .u64 0) := hp_cell hy 0; have y1 : w1.cell? ⟨w.heap.size + 1, 1, none⟩ = some (.bool false) := hp_cell hy 1; have y2 : w1.cell? ⟨w.heap.size + 1, 2, none⟩ = some (.int .i64 0) := hp_cell hy 2; have z0 := hp_frozen hy 0; have z1 := hp_frozen hy 1; have z2 := hp_frozen hy 2; have HY := Lib.hid hy; clear hy hb))
  refine bodyPost_ret (by simp [results, Try.results37, go_sem, y0, y1, y2]; try rfl) rfl ?_
  refine ⟨rfl, RIn_far (RIn_far (RIn_far HA.out HY.out (by decide) (by decide) 0 _) (hp_put30 HY.out _) (by decide) (by decide) 1 _) (hp_put31 (hp_put30 HY.out _) _) (by decide) (by decide) 2 _, ?_⟩
  (repeat (with_reducible refine gb_new ?_ (by simp) _)); exact hg
set_option maxRecDepth 100000 in
theorem rBad1_4 (c who v : Int) (w : World) (H : RIn ok w r 4 size owner n gen l) (h : baTk c = false ∨ (baTk c = true ∧ decide (who < 0) = true) ∨ (baTk c = true ∧ decide (who < 0) = false ∧ decide (4 ≤ who) = true)) :
    Calls Try.prog 37 #[.pointer (some ⟨r, 0, none⟩), callV c who v] w fun e w' => e = .returned (ansV (aErr 3)) ∧ RIn ok w' r 4 size owner n gen l ∧ w.grownBy w' (some r) := by
  have HH := Lib.hid H
  clear H
  unfold callV
  rcases h with h1 | ⟨h1, h2⟩ | ⟨h1, h2, h3⟩
  all_goals
    go_enter Try.func37, Try.ntmps37
    go_wp2_with (go_at_call 41; refine (rTakes_4 c _ (RIn_alloc (RIn_alloc HH.out _) _)).mono ?_; rintro e w' ⟨rfl, rfl⟩)
    go_returns
    exact ⟨rfl, by (repeat with_reducible apply RIn_alloc); exact HH.out, by (repeat (with_reducible first | apply gb_alloc | apply gb_drewN)); exact gb_refl _ _⟩
set_option maxRecDepth 100000 in
theorem rBad2_4 (c who v : Int) (hv : W64 v) (w : World) (H : RIn ok w r 4 size owner n gen l) (h1 : baTk c = true) (h2 : decide (who < 0) = false) (h3 : decide (4 ≤ who) = false) (h4 : fitsB c v = false) :
    Calls Try.prog 37 #[.pointer (some ⟨r, 0, none⟩), callV c who v] w fun e w' => e = .returned (ansV (aErr 3)) ∧ RIn ok w' r 4 size owner n gen l ∧ w.grownBy w' (some r) := by
  have HH := Lib.hid H
  clear H
  unfold callV
  go_enter Try.func37, Try.ntmps37
  go_wp2_with (first | (go_at_call 41; refine (rTakes_4 c _ (RIn_alloc (RIn_alloc HH.out _) _)).mono ?_; rintro e w' ⟨rfl, rfl⟩) | (go_at_call 42; refine (refFits_any c who v hv _).mono ?_; rintro e w1 ⟨rfl, hb⟩; have HA := Lib.hid (RIn_below (RIn_alloc (RIn_alloc HH.out _) _) hb); have hy : w1.heap[w.heap.size + 1]? = some (.cells #[.int .u64 0, .bool false, .int .i64 0] 83 (0, 0)) := hp_below ((congrArg _ (by simp)).trans (heap_alloc_new (w.alloc _) _)) hb; have hg : w.grownBy w1 (some r) := gb_trans (gb_alloc (gb_alloc (gb_refl w _) _) _) (gb_below hb); have y0 : w1.cell? ⟨w.heap.size + 1, 0, none⟩ = some (.int .u64 0) := hp_cell hy 0; have y1 : w1.cell? ⟨w.heap.size + 1, 1, none⟩ = some (.bool false) := hp_cell hy 1; have y2 : w1.cell? ⟨w.heap.size + 1, 2, none⟩ = some (.int .i64 0) := hp_cell hy 2; have z0 := hp_frozen hy 0; have z1 := hp_frozen hy 1; have z2 := hp_frozen hy 2; have HY := Lib.hid hy; clear hy hb))
  refine bodyPost_ret (by simp [results, Try.results37, go_sem, y0, y1, y2]; try rfl) rfl ?_
  refine ⟨rfl, RIn_far (RIn_far (RIn_far HA.out HY.out (by decide) (by decide) 0 _) (hp_put30 HY.out _) (by decide) (by decide) 1 _) (hp_put31 (hp_put30 HY.out _) _) (by decide) (by decide) 2 _, ?_⟩
  (repeat (with_reducible refine gb_new ?_ (by simp) _)); exact hg
set_option maxRecDepth 100000 in
theorem oNilDo (c who v : Int) (w : World) : Calls Try.prog 34 #[.pointer none, callV c who v] w fun e w' => e = .returned (ansV (aErr 1)) ∧ Below w.heap.size w w' := by
  unfold callV
  go_enter Try.func34, Try.ntmps34
  go_wp2
  go_returns
  exact ⟨rfl, by (repeat (with_reducible first | (refine bl_alloc ?_ (by first | exact Nat.le_refl _ | (simp; done) | (simp; omega)) _) | (refine bl_new ?_ (by simp) _))); exact Below.refl _ _⟩
theorem oNilTakes (c : Int) (w : World) : Calls Try.prog 39 #[.pointer none, .int .u8 c] w fun e w' => e = .returned (.bool false) ∧ w = w' := by
  go_enter Try.func39, Try.ntmps39
  go_wp2
  go_ret
  exact ⟨rfl, rfl⟩
set_option maxRecDepth 100000 in
theorem rNilDo (c who v : Int) (w : World) : Calls Try.prog 37 #[.pointer none, callV c who v] w fun e w' => e = .returned (ansV (aErr 1)) ∧ Below w.heap.size w w' := by
  unfold callV
  go_enter Try.func37, Try.ntmps37
  go_wp2
  go_returns
  exact ⟨rfl, by (repeat (with_reducible first | (refine bl_alloc ?_ (by first | exact Nat.le_refl _ | (simp; done) | (simp; omega)) _) | (refine bl_new ?_ (by simp) _))); exact Below.refl _ _⟩
theorem rNilTakes (c : Int) (w : World) : Calls Try.prog 41 #[.pointer none, .int .u8 c] w fun e w' => e = .returned (.bool false) ∧ w = w' := by
  go_enter Try.func41, Try.ntmps41
  go_wp2
  go_ret
  exact ⟨rfl, rfl⟩
end Go.Proofs.Ytbanfaboimachaa
