
/-
  A thread: State; SameState of two empty states; may.
-/
import Derived.Test.YtdkcmnnhjnapiaaTh7
namespace Go.Proofs.Ytdkcmnnhjnapiaa
open Go.RowKit Go.ChangeShapes Go.WideShapes
set_option linter.unusedSimpArgs false
set_option linter.unusedVariables false

set_option maxRecDepth 20000 in
set_option maxHeartbeats 8000000 in
theorem state_any (W : World) (t f p n c : Nat) (iv : Value) (l : List Ins3) (s : St) (A1 : Option Addr) (c1 : Nat) (k ak tv v e : Int) (hso : s.out = []) (hsl : s.stk.length ≤ 100) (w : World) (ht : w.heap[t]? = some (.cells (thC f p n c iv k ak tv v e) 56 (0, 0))) (hr : RsX W w t f p l s A1 c1) :
    Calls Try.prog 10 #[.pointer (some ⟨t, 0, none⟩)] w fun e w' => (∃ pc D1 g1 la lb lc ld D2 g2, e = .returned (.agg #[.int .i64 pc, .slice D1 s.stk.length g1, .int .u64 la, .int .u64 lb, .int .u64 lc, .int .u64 ld, .slice D2 0 g2])) ∧ Below w.heap.size w w' := by
  obtain ⟨pc, sk, la, lb, lc, ld, so⟩ := s
  simp only at hso hsl ⊢
  subst hso
  have z2 := (Below.refl w.heap.size w).alloc (Nat.le_refl _) (.cells #[.int .i64 0, .slice none 0 0, .int .u64 0, .int .u64 0, .int .u64 0, .int .u64 0, .slice none 0 0] 41)
  have Y2 := Lib.hid (heap_alloc_new w (.cells #[.int .i64 0, .slice none 0 0, .int .u64 0, .int .u64 0, .int .u64 0, .int .u64 0, .slice none 0 0] 41))
  have T2 := Lib.hid (hp_below ht z2)
  have R2 := Lib.hid (hr.below z2)
  have B2 := Lib.hid z2
  clear ht hr z2
  go_enter Try.func10, Try.ntmps10
  go_upto_region 1 with fail
  generalize World.alloc _ _ = w2 at Y2 T2 R2 B2 ⊢
  obtain ⟨r, hr⟩ : ∃ r, w.heap.size = r := ⟨_, rfl⟩
  rw [hr] at Y2
  rw [hr]
  have HC := Lib.hid (show Calls Try.prog 23 #[.agg #[.int .i64 pc, .slice A1 sk.length c1, .int .u64 la, .int .u64 lb, .int .u64 lc, .int .u64 ld, .slice none 0 0]] w2 (fun e w' => ∃ D1 g1 D2 g2, e = .returned (.agg #[.int .i64 pc, .slice D1 sk.length g1, .int .u64 la, .int .u64 lb, .int .u64 lc, .int .u64 ld, .slice D2 0 g2]) ∧ Below w2.heap.size w2 w') from (copied_th ⟨pc, sk, la, lb, lc, ld, []⟩ A1 c1 none 0 w2 (Src.row R2.out.row (by simp only; omega)) (Src.row (row_nil w2 0) (by simp))).mono (fun e w' h => by obtain ⟨a, b, c, d, h1, _, _, _, h2⟩ := h; exact ⟨a, b, c, d, h1, h2⟩))
  have u0 : w2.cell? ⟨t, 0, none⟩ = some (.pointer (some ⟨f, 0, none⟩)) := hp_cell T2.out 0
  have ul := hp_lt T2.out
  have x0 : w2.cell? ⟨f, 0, none⟩ = some (.int .i64 pc) := hp_cell (R2.out.hf) 0; have xz0 := hp_frozen (R2.out.hf) 0; have x1 : w2.cell? ⟨f, 1, none⟩ = some (.slice A1 sk.length c1) := hp_cell (R2.out.hf) 1; have xz1 := hp_frozen (R2.out.hf) 1; have x2 : w2.cell? ⟨f, 2, none⟩ = some (.int .u64 la) := hp_cell (R2.out.hf) 2; have xz2 := hp_frozen (R2.out.hf) 2; have x3 : w2.cell? ⟨f, 3, none⟩ = some (.int .u64 lb) := hp_cell (R2.out.hf) 3; have xz3 := hp_frozen (R2.out.hf) 3; have x4 : w2.cell? ⟨f, 4, none⟩ = some (.int .u64 lc) := hp_cell (R2.out.hf) 4; have xz4 := hp_frozen (R2.out.hf) 4; have x5 : w2.cell? ⟨f, 5, none⟩ = some (.int .u64 ld) := hp_cell (R2.out.hf) 5; have xz5 := hp_frozen (R2.out.hf) 5; have x6 : w2.cell? ⟨f, 6, none⟩ = some (.slice none 0 0) := hp_cell (R2.out.hf) 6; have xz6 := hp_frozen (R2.out.hf) 6; have xl := hp_lt (R2.out.hf)
  go_upto_region 3 with fail
  go_wp2_with (go_at_call 23; refine HC.out.mono ?_; rintro x w3 ⟨D1, g1, D2, g2, rfl, hb⟩; have B3 := Lib.hid hb; have Y3 := Lib.hid (hp_below Y2.out hb); clear hb u0 ul x0 xz0 x1 xz1 x2 xz2 x3 xz3 x4 xz4 x5 xz5 x6 xz6 xl; have y0 : w3.cell? ⟨r, 0, none⟩ = some (.int .i64 0) := hp_cell (Y3.out) 0; have yz0 := hp_frozen (Y3.out) 0; have y1 : w3.cell? ⟨r, 1, none⟩ = some (.slice none 0 0) := hp_cell (Y3.out) 1; have yz1 := hp_frozen (Y3.out) 1; have y2 : w3.cell? ⟨r, 2, none⟩ = some (.int .u64 0) := hp_cell (Y3.out) 2; have yz2 := hp_frozen (Y3.out) 2; have y3 : w3.cell? ⟨r, 3, none⟩ = some (.int .u64 0) := hp_cell (Y3.out) 3; have yz3 := hp_frozen (Y3.out) 3; have y4 : w3.cell? ⟨r, 4, none⟩ = some (.int .u64 0) := hp_cell (Y3.out) 4; have yz4 := hp_frozen (Y3.out) 4; have y5 : w3.cell? ⟨r, 5, none⟩ = some (.int .u64 0) := hp_cell (Y3.out) 5; have yz5 := hp_frozen (Y3.out) 5; have y6 : w3.cell? ⟨r, 6, none⟩ = some (.slice none 0 0) := hp_cell (Y3.out) 6; have yz6 := hp_frozen (Y3.out) 6; have yl := hp_lt (Y3.out))
  refine bodyPost_ret (by simp [results, Try.results10, go_sem, y0, y1, y2, y3, y4, y5, y6]; try rfl) rfl ?_
  refine ⟨⟨pc, D1, g1, la, lb, lc, ld, D2, g2, rfl⟩, ?_⟩
  have hb : Below w.heap.size w w3 := B2.out.trans (B3.out.mono B2.out.size)
  exact (((((((hb |> (bl_new · (Nat.le_of_eq hr) _)) |> (bl_new · (Nat.le_of_eq hr) _)) |> (bl_new · (Nat.le_of_eq hr) _)) |> (bl_new · (Nat.le_of_eq hr) _)) |> (bl_new · (Nat.le_of_eq hr) _)) |> (bl_new · (Nat.le_of_eq hr) _)) |> (bl_new · (Nat.le_of_eq hr) _))
set_option maxRecDepth 20000 in
set_option maxHeartbeats 4000000 in
theorem sameVals_nil (w : World) : Calls Try.prog 28 #[.slice none 0 0, .slice none 0 0] w fun e w' => e = .returned (.bool true) ∧ Below w.heap.size w w' := by
  go_enter Try.func28, Try.ntmps28
  go_wp2_with fail
  go_loopw [5] (fun t w' => t = .int .i64 0 ∧ w' = w) (fun t _ => 0)
  case atStart => exact ⟨rfl, rfl⟩
  case round =>
    obtain ⟨rfl, rfl⟩ := hrel
    go_wp2_with fail
    go_ret
    exact ⟨rfl, Below.refl _ _⟩
set_option maxRecDepth 20000 in
set_option maxHeartbeats 4000000 in
theorem sameState_zero (w : World) : Calls Try.prog 9 #[.agg #[.int .i64 0, .slice none 0 0, .int .u64 0, .int .u64 0, .int .u64 0, .int .u64 0, .slice none 0 0], .agg #[.int .i64 0, .slice none 0 0, .int .u64 0, .int .u64 0, .int .u64 0, .int .u64 0, .slice none 0 0]] w fun e w' => e = .returned (.bool true) ∧ Below w.heap.size w w' := by
  have z1 := (Below.refl w.heap.size w).alloc (Nat.le_refl _) (.cells #[.int .i64 0, .slice none 0 0, .int .u64 0, .int .u64 0, .int .u64 0, .int .u64 0, .slice none 0 0] 41)
  have z2 := z1.alloc z1.size (.cells #[.int .i64 0, .slice none 0 0, .int .u64 0, .int .u64 0, .int .u64 0, .int .u64 0, .slice none 0 0] 41)
  have X := Lib.hid (hp_alloc (heap_alloc_new w (.cells #[.int .i64 0, .slice none 0 0, .int .u64 0, .int .u64 0, .int .u64 0, .int .u64 0, .slice none 0 0] 41)) (.cells #[.int .i64 0, .slice none 0 0, .int .u64 0, .int .u64 0, .int .u64 0, .int .u64 0, .slice none 0 0] 41))
  have Y := Lib.hid (show ((w.alloc (.cells #[.int .i64 0, .slice none 0 0, .int .u64 0, .int .u64 0, .int .u64 0, .int .u64 0, .slice none 0 0] 41)).alloc (.cells #[.int .i64 0, .slice none 0 0, .int .u64 0, .int .u64 0, .int .u64 0, .int .u64 0, .slice none 0 0] 41)).heap[w.heap.size + 1]? = _ from (congrArg _ (by simp)).trans (heap_alloc_new (w.alloc (.cells #[.int .i64 0, .slice none 0 0, .int .u64 0, .int .u64 0, .int .u64 0, .int .u64 0, .slice none 0 0] 41)) (.cells #[.int .i64 0, .slice none 0 0, .int .u64 0, .int .u64 0, .int .u64 0, .int .u64 0, .slice none 0 0] 41)))
  have Z := Lib.hid z2
  clear z1 z2
  have q27 : ∀ (w : World), (binOp .eql 39 (.agg #[.int .u64 0, .int .u64 0, .int .u64 0, .int .u64 0]) (.agg #[.int .u64 0, .int .u64 0, .int .u64 0, .int .u64 0])).run Try.prog w = .ok (.bool true) w := fun w => by kernel_rfl
  go_enter Try.func9, Try.ntmps9
  go_upto_region 1 with fail
  generalize World.alloc _ _ = w2 at X Y Z ⊢
  obtain ⟨ga, hg1⟩ : ∃ x, w.heap.size = x := ⟨_, rfl⟩
  obtain ⟨gb, hg2⟩ : ∃ x, w.heap.size + 1 = x := ⟨_, rfl⟩
  rw [hg1] at X
  rw [hg2] at Y
  rw [hg2, hg1]
  clear hg1 hg2
  have x0 : w2.cell? ⟨ga, 0, none⟩ = some (.int .i64 0) := hp_cell (X.out) 0; have x1 : w2.cell? ⟨ga, 1, none⟩ = some (.slice none 0 0) := hp_cell (X.out) 1; have x2 : w2.cell? ⟨ga, 2, none⟩ = some (.int .u64 0) := hp_cell (X.out) 2; have x3 : w2.cell? ⟨ga, 3, none⟩ = some (.int .u64 0) := hp_cell (X.out) 3; have x4 : w2.cell? ⟨ga, 4, none⟩ = some (.int .u64 0) := hp_cell (X.out) 4; have x5 : w2.cell? ⟨ga, 5, none⟩ = some (.int .u64 0) := hp_cell (X.out) 5; have x6 : w2.cell? ⟨ga, 6, none⟩ = some (.slice none 0 0) := hp_cell (X.out) 6; have xl := hp_lt (X.out)
  have y0 : w2.cell? ⟨gb, 0, none⟩ = some (.int .i64 0) := hp_cell (Y.out) 0; have y1 : w2.cell? ⟨gb, 1, none⟩ = some (.slice none 0 0) := hp_cell (Y.out) 1; have y2 : w2.cell? ⟨gb, 2, none⟩ = some (.int .u64 0) := hp_cell (Y.out) 2; have y3 : w2.cell? ⟨gb, 3, none⟩ = some (.int .u64 0) := hp_cell (Y.out) 3; have y4 : w2.cell? ⟨gb, 4, none⟩ = some (.int .u64 0) := hp_cell (Y.out) 4; have y5 : w2.cell? ⟨gb, 5, none⟩ = some (.int .u64 0) := hp_cell (Y.out) 5; have y6 : w2.cell? ⟨gb, 6, none⟩ = some (.slice none 0 0) := hp_cell (Y.out) 6; have yl := hp_lt (Y.out)
  go_wp2_with (go_at_call 28; first | (have hx0 := D3; clear hx0; refine (sameVals_nil _).mono ?_; rintro e w4 ⟨rfl, hd4⟩; have D4 := Lib.hid hd4; clear hd4) | (refine (sameVals_nil _).mono ?_; rintro e w3 ⟨rfl, hd3⟩; have D3 := Lib.hid hd3; have X3 := Lib.hid (hp_below X.out hd3); have Y3 := Lib.hid (hp_below Y.out hd3); have u0 : w3.cell? ⟨ga, 0, none⟩ = some (.int .i64 0) := hp_cell (X3.out) 0; have u1 : w3.cell? ⟨ga, 1, none⟩ = some (.slice none 0 0) := hp_cell (X3.out) 1; have u2 : w3.cell? ⟨ga, 2, none⟩ = some (.int .u64 0) := hp_cell (X3.out) 2; have u3 : w3.cell? ⟨ga, 3, none⟩ = some (.int .u64 0) := hp_cell (X3.out) 3; have u4 : w3.cell? ⟨ga, 4, none⟩ = some (.int .u64 0) := hp_cell (X3.out) 4; have u5 : w3.cell? ⟨ga, 5, none⟩ = some (.int .u64 0) := hp_cell (X3.out) 5; have u6 : w3.cell? ⟨ga, 6, none⟩ = some (.slice none 0 0) := hp_cell (X3.out) 6; have ul := hp_lt (X3.out); have v0 : w3.cell? ⟨gb, 0, none⟩ = some (.int .i64 0) := hp_cell (Y3.out) 0; have v1 : w3.cell? ⟨gb, 1, none⟩ = some (.slice none 0 0) := hp_cell (Y3.out) 1; have v2 : w3.cell? ⟨gb, 2, none⟩ = some (.int .u64 0) := hp_cell (Y3.out) 2; have v3 : w3.cell? ⟨gb, 3, none⟩ = some (.int .u64 0) := hp_cell (Y3.out) 3; have v4 : w3.cell? ⟨gb, 4, none⟩ = some (.int .u64 0) := hp_cell (Y3.out) 4; have v5 : w3.cell? ⟨gb, 5, none⟩ = some (.int .u64 0) := hp_cell (Y3.out) 5; have v6 : w3.cell? ⟨gb, 6, none⟩ = some (.slice none 0 0) := hp_cell (Y3.out) 6; have vl := hp_lt (Y3.out); clear hd3))
  go_ret
  exact ⟨rfl, (Z.out.trans (D3.out.mono Z.out.size)).trans (D4.out.mono (Nat.le_trans Z.out.size D3.out.size))⟩
theorem may18 (A : Option Addr) (c : Nat) (l : List Ins3) (hc : l.length ≤ c) (w : World) : Calls Try.prog 18 #[.slice A l.length c] w fun e w' => e = .returned (.bool (decide (1 ≤ (l.take 65).length ∧ (l.take 65).length ≤ 64))) ∧ w = w' := by
  have HF := Lib.hid (few18 A c l hc)
  obtain ⟨n, hn⟩ : ∃ n, (l.take 65).length = n := ⟨_, rfl⟩
  rw [hn] at HF ⊢
  clear hn
  by_cases h1 : 1 ≤ n
  · by_cases h2 : n ≤ 64
    · have e1 : decide (1 ≤ n ∧ n ≤ 64) = true := decide_eq_true ⟨h1, h2⟩
      rw [e1]
      have d1 : decide ((n : Int) ≥ 1) = true := decide_eq_true (by omega)
      have d2 : decide ((1 : Int) ≤ (n : Int)) = true := d1
      have d3 : decide (1 ≤ n) = true := decide_eq_true h1
      have d4 : decide ((n : Int) ≤ 64) = true := decide_eq_true (by omega)
      have d5 : decide (n ≤ 64) = true := decide_eq_true h2
      clear e1
      go_enter Try.func18, Try.ntmps18
      go_wp2_with (go_at_call 17; refine (HF.out _).mono ?_; rintro e w1 ⟨rfl, rfl⟩)
      go_ret
      exact ⟨rfl, rfl⟩
    · have e1 : decide (1 ≤ n ∧ n ≤ 64) = false := decide_eq_false (fun h => h2 h.2)
      rw [e1]
      have d1 : decide ((n : Int) ≥ 1) = true := decide_eq_true (by omega)
      have d2 : decide ((1 : Int) ≤ (n : Int)) = true := d1
      have d3 : decide (1 ≤ n) = true := decide_eq_true h1
      have d4 : decide ((n : Int) ≤ 64) = false := decide_eq_false (by omega)
      have d5 : decide (n ≤ 64) = false := decide_eq_false h2
      clear e1
      go_enter Try.func18, Try.ntmps18
      go_wp2_with (go_at_call 17; refine (HF.out _).mono ?_; rintro e w1 ⟨rfl, rfl⟩)
      go_ret
      exact ⟨rfl, rfl⟩
  · have e1 : decide (1 ≤ n ∧ n ≤ 64) = false := decide_eq_false (fun h => h1 h.1)
    rw [e1]
    have d1 : decide ((n : Int) ≥ 1) = false := decide_eq_false (by omega)
    have d2 : decide ((1 : Int) ≤ (n : Int)) = false := d1
    have d3 : decide (1 ≤ n) = false := decide_eq_false h1
    clear e1
    go_enter Try.func18, Try.ntmps18
    go_wp2_with (go_at_call 17; refine (HF.out _).mono ?_; rintro e w1 ⟨rfl, rfl⟩)
    go_ret
    exact ⟨rfl, rfl⟩
theorem new_nil (A : Option Addr) (c : Nat) (l : List Ins3) (h : ¬ (1 ≤ l.length ∧ l.length ≤ 64)) (w : World) : Calls Try.prog 16 #[.slice A l.length c] w fun e w' => e = .returned (.pointer none) ∧ Below w.heap.size w w' := by
  obtain ⟨n, hn⟩ : ∃ n, l.length = n := ⟨_, rfl⟩
  rw [hn] at h ⊢
  clear hn
  by_cases h1 : n < 1
  · have d1 : decide ((n : Int) < 1) = true := decide_eq_true (by omega)
    have d2 : decide (n < 1) = true := decide_eq_true h1
    have e0 : n = 0 := by omega
    subst e0
    clear h h1 d1 d2
    go_enter Try.func16, Try.ntmps16
    go_wp2_with fail
    go_ret
    exact ⟨rfl, Below.refl _ _⟩
  · have d1 : decide ((n : Int) < 1) = false := decide_eq_false (by omega)
    have d2 : decide (n < 1) = false := decide_eq_false h1
    have h3 : 64 < n := by omega
    have d3 : decide ((n : Int) > 64) = true := decide_eq_true (by omega)
    have d4 : decide ((64 : Int) < (n : Int)) = true := d3
    have d5 : decide (64 < n) = true := decide_eq_true h3
    clear h
    go_enter Try.func16, Try.ntmps16
    go_wp2_with fail
    go_ret
    exact ⟨rfl, Below.refl _ _⟩
end Go.Proofs.Ytdkcmnnhjnapiaa
