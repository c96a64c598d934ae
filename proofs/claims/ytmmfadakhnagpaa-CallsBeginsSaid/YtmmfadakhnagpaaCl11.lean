
/-
  calls.ShapeOf of the variables at first.
-/
import Derived.Test.YtmmfadakhnagpaaCl10
import Derived.Deep.LoopGhost
import Derived.Deep.CutBlock
import Derived.LoopTactic
import Derived.Handy
namespace Go.Proofs.Ytmmfadakhnagpaa
open Go.RowKit Go.ChangeShapes Go.WideShapes
set_option linter.unusedSimpArgs false
set_option linter.unusedVariables false

structure ShK (W w : World) (g b6 b9 b10 : Nat) (vs : List Int) (c9 : Array Value) : Prop where
  hg : w.heap[g]? = some (.cells (valsC vs).toArray 53 (0, 0))
  h6 : w.heap[b6]? = some (.cells #[.int .i64 0, .int .i64 0, .int .i64 0, .slice none 0 0] 42 (0, 0))
  h9 : w.heap[b9]? = some (.cells c9 42 (0, 0))
  h10 : w.heap[b10]? = some (.cells #[.bool true] 4 (0, 0))
  d : b6 ≠ b9 ∧ W.heap.size ≤ b6 ∧ W.heap.size ≤ b9 ∧ W.heap.size ≤ b10
  bl : Below W.heap.size W w
theorem ShK.ok {W w : World} {g b6 b9 b10 : Nat} {vs : List Int} {c9 : Array Value} (h : ShK W w g b6 b9 b10 vs c9) : ShK W (w.setCell ⟨b10, 0, none⟩ (.bool true)) g b6 b9 b10 vs c9 :=
  ⟨hp_far h.hg (hp_ne h.hg h.h10 (by decide)) _, hp_far h.h6 (hp_ne h.h6 h.h10 (by decide)) _, hp_far h.h9 (hp_ne h.h9 h.h10 (by decide)) _, hp_put h.h10 0 (.bool true) rfl, h.d, h.bl.setCell (p := ⟨b10, 0, none⟩) h.d.2.2.2 _⟩
theorem ShK.st {W w : World} {g b6 b9 b10 : Nat} {vs : List Int} {c9 c9' : Array Value} (h : ShK W w g b6 b9 b10 vs c9) (k : Nat) (v : Value) (e : c9.setIfInBounds k v = c9') : ShK W (w.setCell ⟨b9, k, none⟩ v) g b6 b9 b10 vs c9' :=
  ⟨hp_far h.hg (hp_ne h.hg h.h9 (by decide)) _, hp_far h.h6 h.d.1 _, hp_put h.h9 k v e, hp_far h.h10 (hp_ne h.h10 h.h9 (by decide)) _, h.d, h.bl.setCell (p := ⟨b9, k, none⟩) h.d.2.2.1 _⟩
theorem intV_small (n : Int) (h : 0 ≤ n ∧ n ≤ 9) : wholeN (intV n) = n ∧ wholeOk (intV n) = true ∧ rightB (intV n) = true ∧ intV n ≠ 9223372036854775808 := by
  rcases (show n = 0 ∨ n = 1 ∨ n = 2 ∨ n = 3 ∨ n = 4 ∨ n = 5 ∨ n = 6 ∨ n = 7 ∨ n = 8 ∨ n = 9 by omega) with rfl | rfl | rfl | rfl | rfl | rfl | rfl | rfl | rfl | rfl
  all_goals exact ⟨by kernel_rfl, by kernel_rfl, by kernel_rfl, of_decide_eq_true (by kernel_rfl)⟩
theorem cwhole0 (hi : Int) (h : 0 ≤ hi) (w : World) : Calls Try.prog 39 #[.int .u64 0, .int .i64 hi] w fun e w' => e = .returned (.tuple #[.int .i64 0, .bool true]) ∧ w = w' :=
  cwhole 0 0 hi (by constructor <;> decide) (by kernel_rfl) (by kernel_rfl) ⟨by decide, h⟩ (by decide) w
set_option maxRecDepth 100000 in
set_option maxHeartbeats 8000000 in
theorem shape_1 (g : Nat) (w : World) (h : w.heap[g]? = some (.cells (valsC [0]).toArray 53 (0, 0))) : Calls Try.prog 15 #[.int .u8 1, .int .i64 0, .slice (some ⟨g, 0, none⟩) 1 1] w fun e w' => e = .returned (.tuple #[.agg #[.int .i64 (-1), .int .i64 0, .int .i64 0, .slice none 0 0], .int .i64 0]) ∧ Below w.heap.size w w' := by
  have ET := Lib.hid (show tvI 1 0 = 1 by kernel_rfl)
  have OKV := Lib.hid (show ∀ x ∈ [0], W64 x ∧ rightB x = true from fun x hx => by rw [(by simpa using hx : x = 0)]; exact ⟨by constructor <;> decide, by kernel_rfl⟩)
  have H := Lib.hid h
  have HA := Lib.hid ((Below.refl w.heap.size w).alloc (Nat.le_refl _) (.cells #[.int .i64 0, .int .i64 0, .int .i64 0, .slice none 0 0] 42))
  have HT := Lib.hid (by have := ctv 1 0 (w.alloc (.cells #[.int .i64 0, .int .i64 0, .int .i64 0, .slice none 0 0] 42)); rw [ET.out] at this; exact this)
  clear h
  go_enter Try.func15, Try.ntmps15
  go_upto_region 2 with (go_at_call 12; refine HT.out.mono ?_; rintro e w1 ⟨rfl, hb⟩; have HB := Lib.hid hb; clear hb)
  have G1 := Lib.hid (hp_below (hp_below H.out HA.out) HB.out)
  have X6 := Lib.hid (hp_below (heap_alloc_new w (.cells #[.int .i64 0, .int .i64 0, .int .i64 0, .slice none 0 0] 42)) HB.out)
  have B1 := Lib.hid (HA.out.trans (HB.out.mono HA.out.size))
  have HSZ := Lib.hid (show w.heap.size + 1 ≤ w1.heap.size by have := HB.out.size; simp at this; omega)
  clear HA HT HB H
  have HC := Lib.hid (containsV g [0] (by simp) OKV.out (w1.alloc (.cells #[.int .i64 (-1), .int .i64 0, .int .i64 0, .slice none 0 0] 42)) (hp_alloc G1.out _))
  go_upto_region 8 with (go_at_call 35; refine HC.out.mono ?_; rintro e w' ⟨rfl, rfl⟩)
  have S : Hid (ShK w ((w1.alloc (.cells #[.int .i64 (-1), .int .i64 0, .int .i64 0, .slice none 0 0] 42)).alloc (.cells #[.bool true] 4)) g w.heap.size w1.heap.size (w1.heap.size + 1) [0] #[.int .i64 (-1), .int .i64 0, .int .i64 0, .slice none 0 0]) := Lib.hid ⟨hp_alloc (hp_alloc G1.out _) _, hp_alloc (hp_alloc X6.out _) _, hp_alloc (heap_alloc_new w1 _) _, (congrArg _ (by simp)).trans (heap_alloc_new (w1.alloc (.cells #[.int .i64 (-1), .int .i64 0, .int .i64 0, .slice none 0 0] 42)) _), ⟨by have := HSZ.out; omega, Nat.le_refl _, by have := HSZ.out; omega, by have := HSZ.out; omega⟩, (B1.out.alloc B1.out.size _).alloc (by have := B1.out.size; simp; omega) _⟩
  clear HC G1 X6 B1
  generalize World.alloc _ _ = w3 at S ⊢
  obtain ⟨b6, hb6⟩ : ∃ b, w.heap.size = b := ⟨_, rfl⟩
  obtain ⟨b10, hb10⟩ : ∃ b, w1.heap.size + 1 = b := ⟨_, rfl⟩
  obtain ⟨b9, hb9⟩ : ∃ b, w1.heap.size = b := ⟨_, rfl⟩
  rw [hb10, hb9, hb6] at S
  try rw [hb10]
  try rw [hb9]
  try rw [hb6]
  clear hb10 hb9 hb6 HSZ
  have n1 : b9 ≠ b10 := hp_ne S.out.h9 S.out.h10 (by decide)
  have n2 : b10 ≠ b9 := fun e => n1 e.symm
  have n3 : g ≠ b10 := hp_ne S.out.hg S.out.h10 (by decide)
  have n4 : b10 ≠ g := fun e => n3 e.symm
  have n5 : g ≠ b9 := hp_ne S.out.hg S.out.h9 (by decide)
  have n6 : b9 ≠ g := fun e => n5 e.symm
  have n7 : b6 ≠ b9 := S.out.d.1
  have n8 : b9 ≠ b6 := fun e => n7 e.symm
  have y9 := hp_lt S.out.h9
  have yg := hp_lt S.out.hg
  have y10 := hp_lt S.out.h10
  have v0 : w3.cell? ⟨g, 0, none⟩ = some (.int .u64 0) := vc_at S.out.hg rfl
  have z0 := hp_frozen S.out.h9 0
  have z1 := hp_frozen S.out.h9 1
  have z2 := hp_frozen S.out.h9 2
  have z3 := hp_frozen S.out.h9 3
  have c0 : w3.cell? ⟨b9, 0, none⟩ = some (.int .i64 (-1)) := hp_cell S.out.h9 0
  have c1 : w3.cell? ⟨b9, 1, none⟩ = some (.int .i64 0) := hp_cell S.out.h9 1
  have c2 : w3.cell? ⟨b9, 2, none⟩ = some (.int .i64 0) := hp_cell S.out.h9 2
  have HAL := Lib.hid (fun n => (also_any n b10 w3 S.out.h10).mono (R' := fun e w' => e = .returned (.int .i64 n) ∧ ShK w w' g b6 b9 b10 [0] #[.int .i64 (-1), .int .i64 0, .int .i64 0, .slice none 0 0]) (fun e w' hh => ⟨hh.1, by rw [← hh.2]; exact S.out.ok⟩))
  go_upto_region 26 with (first | (go_at_call 39; refine (cwhole0 (4) (by decide) _).mono ?_; rintro e w' ⟨rfl, rfl⟩) | (go_at_call 38; refine (HAL.out _).mono ?_; rintro e u4 ⟨rfl, hS⟩; have SA := Lib.hid hS; clear hS n1 n2 n3 n4 n5 n6 n7 n8 y9 yg y10 v0 z0 z1 z2 z3 c0 c1 c2; have n1 : b9 ≠ b10 := hp_ne SA.out.h9 SA.out.h10 (by decide); have n2 : b10 ≠ b9 := fun e => n1 e.symm; have n3 : g ≠ b10 := hp_ne SA.out.hg SA.out.h10 (by decide); have n4 : b10 ≠ g := fun e => n3 e.symm; have n5 : g ≠ b9 := hp_ne SA.out.hg SA.out.h9 (by decide); have n6 : b9 ≠ g := fun e => n5 e.symm; have n7 : b6 ≠ b9 := SA.out.d.1; have n8 : b9 ≠ b6 := fun e => n7 e.symm; have y9 := hp_lt SA.out.h9; have yg := hp_lt SA.out.hg; have y10 := hp_lt SA.out.h10; have v0 : u4.cell? ⟨g, 0, none⟩ = some (.int .u64 0) := vc_at SA.out.hg rfl; have z0 := hp_frozen SA.out.h9 0; have z1 := hp_frozen SA.out.h9 1; have z2 := hp_frozen SA.out.h9 2; have z3 := hp_frozen SA.out.h9 3; have c0 : u4.cell? ⟨b9, 0, none⟩ = some (.int .i64 (-1)) := hp_cell SA.out.h9 0; have c1 : u4.cell? ⟨b9, 1, none⟩ = some (.int .i64 0) := hp_cell SA.out.h9 1; have c2 : u4.cell? ⟨b9, 2, none⟩ = some (.int .i64 0) := hp_cell SA.out.h9 2))
  replace S := Lib.hid (SA.out.st 0 (.int .i64 (-1)) (c9' := #[.int .i64 (-1), .int .i64 0, .int .i64 0, .slice none 0 0]) rfl)
  clear HAL SA
  clear n1 n2 n3 n4 n5 n6 n7 n8 y9 yg y10 v0 z0 z1 z2 z3 c0 c1 c2
  generalize World.setCell _ _ _ = w4 at S ⊢
  have n1 : b9 ≠ b10 := hp_ne S.out.h9 S.out.h10 (by decide)
  have n2 : b10 ≠ b9 := fun e => n1 e.symm
  have n3 : g ≠ b10 := hp_ne S.out.hg S.out.h10 (by decide)
  have n4 : b10 ≠ g := fun e => n3 e.symm
  have n5 : g ≠ b9 := hp_ne S.out.hg S.out.h9 (by decide)
  have n6 : b9 ≠ g := fun e => n5 e.symm
  have n7 : b6 ≠ b9 := S.out.d.1
  have n8 : b9 ≠ b6 := fun e => n7 e.symm
  have y9 := hp_lt S.out.h9
  have yg := hp_lt S.out.hg
  have y10 := hp_lt S.out.h10
  have v0 : w4.cell? ⟨g, 0, none⟩ = some (.int .u64 0) := vc_at S.out.hg rfl
  have z0 := hp_frozen S.out.h9 0
  have z1 := hp_frozen S.out.h9 1
  have z2 := hp_frozen S.out.h9 2
  have z3 := hp_frozen S.out.h9 3
  have c0 : w4.cell? ⟨b9, 0, none⟩ = some (.int .i64 (-1)) := hp_cell S.out.h9 0
  have c1 : w4.cell? ⟨b9, 1, none⟩ = some (.int .i64 0) := hp_cell S.out.h9 1
  have c2 : w4.cell? ⟨b9, 2, none⟩ = some (.int .i64 0) := hp_cell S.out.h9 2
  have c10 : w4.cell? ⟨b10, 0, none⟩ = some (.bool true) := hp_cell S.out.h10 0
  have c3 : w4.cell? ⟨b9, 3, none⟩ = some (.slice none 0 0) := hp_cell S.out.h9 3
  have q6 := hp_lt S.out.h6
  have d0 : w4.cell? ⟨b6, 0, none⟩ = some (.int .i64 0) := hp_cell S.out.h6 0
  have d1 : w4.cell? ⟨b6, 1, none⟩ = some (.int .i64 0) := hp_cell S.out.h6 1
  have d2 : w4.cell? ⟨b6, 2, none⟩ = some (.int .i64 0) := hp_cell S.out.h6 2
  have d3 : w4.cell? ⟨b6, 3, none⟩ = some (.slice none 0 0) := hp_cell S.out.h6 3
  have e0 := hp_frozen S.out.h6 0
  have e1 := hp_frozen S.out.h6 1
  have e2 := hp_frozen S.out.h6 2
  have e3 := hp_frozen S.out.h6 3
  have p0 := hp_put (cs' := #[.int .i64 (-1), .int .i64 0, .int .i64 0, .slice none 0 0]) S.out.h6 0 (.int .i64 (-1)) (by simp)
  have p1 := hp_put (cs' := #[.int .i64 (-1), .int .i64 0, .int .i64 0, .slice none 0 0]) p0 1 (.int .i64 0) (by simp)
  have p2 := hp_put (cs' := #[.int .i64 (-1), .int .i64 0, .int .i64 0, .slice none 0 0]) p1 2 (.int .i64 0) (by simp)
  have p3 := hp_put (cs' := #[.int .i64 (-1), .int .i64 0, .int .i64 0, .slice none 0 0]) p2 3 (.slice none 0 0) (by simp)
  have Q := Lib.hid p3
  have bl := (((S.out.bl.setCell (p := ⟨b6, 0, none⟩) S.out.d.2.1 (.int .i64 (-1))).setCell (p := ⟨b6, 1, none⟩) S.out.d.2.1 (.int .i64 0)).setCell (p := ⟨b6, 2, none⟩) S.out.d.2.1 (.int .i64 0)).setCell (p := ⟨b6, 3, none⟩) S.out.d.2.1 (.slice none 0 0)
  have BL := Lib.hid bl
  clear p0 p1 p2 p3 bl
  go_wp2_with fail
  generalize World.setCell _ _ _ = w9 at Q BL ⊢
  have r0 := hp_cell Q.out 0
  have r1 := hp_cell Q.out 1
  have r2 := hp_cell Q.out 2
  have r3 := hp_cell Q.out 3
  refine bodyPost_ret (by simp [results, Try.results15, go_sem, r0, r1, r2, r3]; try rfl) rfl ?_
  exact ⟨rfl, BL.out⟩
set_option maxRecDepth 100000 in
set_option maxHeartbeats 8000000 in
theorem shape_2 (sz : Int) (hz : 0 ≤ sz ∧ sz ≤ 9) (g : Nat) (w : World) (h : w.heap[g]? = some (.cells (valsC [intV sz]).toArray 53 (0, 0))) : Calls Try.prog 15 #[.int .u8 2, .int .i64 sz, .slice (some ⟨g, 0, none⟩) 1 1] w fun e w' => e = .returned (.tuple #[.agg #[.int .i64 (-1), .int .i64 sz, .int .i64 0, .slice none 0 0], .int .i64 0]) ∧ Below w.heap.size w w' := by
  have hs := intV_small sz hz
  have ET := Lib.hid (show tvI 2 sz = 1 by unfold tvI; rw [show goodK 2 sz = true by unfold goodK; simp; omega]; rfl)
  have HW := Lib.hid (cwhole (intV sz) sz 99 (intV_w64 _) hs.1 hs.2.1 ⟨hz.1, by omega⟩ hs.2.2.2)
  have OKV := Lib.hid (show ∀ x ∈ [intV sz], W64 x ∧ rightB x = true from fun x hx => by rw [List.mem_singleton.1 hx]; exact ⟨intV_w64 _, hs.2.2.1⟩)
  obtain ⟨iv, hiv⟩ : ∃ x, intV sz = x := ⟨_, rfl⟩
  rw [hiv] at h HW OKV
  clear hs hz hiv
  have H := Lib.hid h
  have HA := Lib.hid ((Below.refl w.heap.size w).alloc (Nat.le_refl _) (.cells #[.int .i64 0, .int .i64 0, .int .i64 0, .slice none 0 0] 42))
  have HT := Lib.hid (by have := ctv 2 sz (w.alloc (.cells #[.int .i64 0, .int .i64 0, .int .i64 0, .slice none 0 0] 42)); rw [ET.out] at this; exact this)
  clear h
  go_enter Try.func15, Try.ntmps15
  go_upto_region 2 with (go_at_call 12; refine HT.out.mono ?_; rintro e w1 ⟨rfl, hb⟩; have HB := Lib.hid hb; clear hb)
  have G1 := Lib.hid (hp_below (hp_below H.out HA.out) HB.out)
  have X6 := Lib.hid (hp_below (heap_alloc_new w (.cells #[.int .i64 0, .int .i64 0, .int .i64 0, .slice none 0 0] 42)) HB.out)
  have B1 := Lib.hid (HA.out.trans (HB.out.mono HA.out.size))
  have HSZ := Lib.hid (show w.heap.size + 1 ≤ w1.heap.size by have := HB.out.size; simp at this; omega)
  clear HA HT HB H
  have HC := Lib.hid (containsV g [iv] (by simp) OKV.out (w1.alloc (.cells #[.int .i64 (-1), .int .i64 0, .int .i64 0, .slice none 0 0] 42)) (hp_alloc G1.out _))
  go_upto_region 8 with (go_at_call 35; refine HC.out.mono ?_; rintro e w' ⟨rfl, rfl⟩)
  have S : Hid (ShK w ((w1.alloc (.cells #[.int .i64 (-1), .int .i64 0, .int .i64 0, .slice none 0 0] 42)).alloc (.cells #[.bool true] 4)) g w.heap.size w1.heap.size (w1.heap.size + 1) [iv] #[.int .i64 (-1), .int .i64 0, .int .i64 0, .slice none 0 0]) := Lib.hid ⟨hp_alloc (hp_alloc G1.out _) _, hp_alloc (hp_alloc X6.out _) _, hp_alloc (heap_alloc_new w1 _) _, (congrArg _ (by simp)).trans (heap_alloc_new (w1.alloc (.cells #[.int .i64 (-1), .int .i64 0, .int .i64 0, .slice none 0 0] 42)) _), ⟨by have := HSZ.out; omega, Nat.le_refl _, by have := HSZ.out; omega, by have := HSZ.out; omega⟩, (B1.out.alloc B1.out.size _).alloc (by have := B1.out.size; simp; omega) _⟩
  clear HC G1 X6 B1
  generalize World.alloc _ _ = w3 at S ⊢
  obtain ⟨b6, hb6⟩ : ∃ b, w.heap.size = b := ⟨_, rfl⟩
  obtain ⟨b10, hb10⟩ : ∃ b, w1.heap.size + 1 = b := ⟨_, rfl⟩
  obtain ⟨b9, hb9⟩ : ∃ b, w1.heap.size = b := ⟨_, rfl⟩
  rw [hb10, hb9, hb6] at S
  try rw [hb10]
  try rw [hb9]
  try rw [hb6]
  clear hb10 hb9 hb6 HSZ
  have n1 : b9 ≠ b10 := hp_ne S.out.h9 S.out.h10 (by decide)
  have n2 : b10 ≠ b9 := fun e => n1 e.symm
  have n3 : g ≠ b10 := hp_ne S.out.hg S.out.h10 (by decide)
  have n4 : b10 ≠ g := fun e => n3 e.symm
  have n5 : g ≠ b9 := hp_ne S.out.hg S.out.h9 (by decide)
  have n6 : b9 ≠ g := fun e => n5 e.symm
  have n7 : b6 ≠ b9 := S.out.d.1
  have n8 : b9 ≠ b6 := fun e => n7 e.symm
  have y9 := hp_lt S.out.h9
  have yg := hp_lt S.out.hg
  have y10 := hp_lt S.out.h10
  have v0 : w3.cell? ⟨g, 0, none⟩ = some (.int .u64 iv) := vc_at S.out.hg rfl
  have z0 := hp_frozen S.out.h9 0
  have z1 := hp_frozen S.out.h9 1
  have z2 := hp_frozen S.out.h9 2
  have z3 := hp_frozen S.out.h9 3
  have c0 : w3.cell? ⟨b9, 0, none⟩ = some (.int .i64 (-1)) := hp_cell S.out.h9 0
  have c1 : w3.cell? ⟨b9, 1, none⟩ = some (.int .i64 0) := hp_cell S.out.h9 1
  have c2 : w3.cell? ⟨b9, 2, none⟩ = some (.int .i64 0) := hp_cell S.out.h9 2
  have HAL := Lib.hid (fun n => (also_any n b10 w3 S.out.h10).mono (R' := fun e w' => e = .returned (.int .i64 n) ∧ ShK w w' g b6 b9 b10 [iv] #[.int .i64 (-1), .int .i64 0, .int .i64 0, .slice none 0 0]) (fun e w' hh => ⟨hh.1, by rw [← hh.2]; exact S.out.ok⟩))
  go_upto_region 26 with (first | (go_at_call 39; refine (HW.out _).mono ?_; rintro e w' ⟨rfl, rfl⟩) | (go_at_call 38; refine (HAL.out _).mono ?_; rintro e u4 ⟨rfl, hS⟩; have SA := Lib.hid hS; clear hS n1 n2 n3 n4 n5 n6 n7 n8 y9 yg y10 v0 z0 z1 z2 z3 c0 c1 c2; have n1 : b9 ≠ b10 := hp_ne SA.out.h9 SA.out.h10 (by decide); have n2 : b10 ≠ b9 := fun e => n1 e.symm; have n3 : g ≠ b10 := hp_ne SA.out.hg SA.out.h10 (by decide); have n4 : b10 ≠ g := fun e => n3 e.symm; have n5 : g ≠ b9 := hp_ne SA.out.hg SA.out.h9 (by decide); have n6 : b9 ≠ g := fun e => n5 e.symm; have n7 : b6 ≠ b9 := SA.out.d.1; have n8 : b9 ≠ b6 := fun e => n7 e.symm; have y9 := hp_lt SA.out.h9; have yg := hp_lt SA.out.hg; have y10 := hp_lt SA.out.h10; have v0 : u4.cell? ⟨g, 0, none⟩ = some (.int .u64 iv) := vc_at SA.out.hg rfl; have z0 := hp_frozen SA.out.h9 0; have z1 := hp_frozen SA.out.h9 1; have z2 := hp_frozen SA.out.h9 2; have z3 := hp_frozen SA.out.h9 3; have c0 : u4.cell? ⟨b9, 0, none⟩ = some (.int .i64 (-1)) := hp_cell SA.out.h9 0; have c1 : u4.cell? ⟨b9, 1, none⟩ = some (.int .i64 0) := hp_cell SA.out.h9 1; have c2 : u4.cell? ⟨b9, 2, none⟩ = some (.int .i64 0) := hp_cell SA.out.h9 2))
  replace S := Lib.hid (SA.out.st 1 (.int .i64 sz) (c9' := #[.int .i64 (-1), .int .i64 sz, .int .i64 0, .slice none 0 0]) rfl)
  clear HAL SA
  clear n1 n2 n3 n4 n5 n6 n7 n8 y9 yg y10 v0 z0 z1 z2 z3 c0 c1 c2
  generalize World.setCell _ _ _ = w4 at S ⊢
  have n1 : b9 ≠ b10 := hp_ne S.out.h9 S.out.h10 (by decide)
  have n2 : b10 ≠ b9 := fun e => n1 e.symm
  have n3 : g ≠ b10 := hp_ne S.out.hg S.out.h10 (by decide)
  have n4 : b10 ≠ g := fun e => n3 e.symm
  have n5 : g ≠ b9 := hp_ne S.out.hg S.out.h9 (by decide)
  have n6 : b9 ≠ g := fun e => n5 e.symm
  have n7 : b6 ≠ b9 := S.out.d.1
  have n8 : b9 ≠ b6 := fun e => n7 e.symm
  have y9 := hp_lt S.out.h9
  have yg := hp_lt S.out.hg
  have y10 := hp_lt S.out.h10
  have v0 : w4.cell? ⟨g, 0, none⟩ = some (.int .u64 iv) := vc_at S.out.hg rfl
  have z0 := hp_frozen S.out.h9 0
  have z1 := hp_frozen S.out.h9 1
  have z2 := hp_frozen S.out.h9 2
  have z3 := hp_frozen S.out.h9 3
  have c0 : w4.cell? ⟨b9, 0, none⟩ = some (.int .i64 (-1)) := hp_cell S.out.h9 0
  have c1 : w4.cell? ⟨b9, 1, none⟩ = some (.int .i64 sz) := hp_cell S.out.h9 1
  have c2 : w4.cell? ⟨b9, 2, none⟩ = some (.int .i64 0) := hp_cell S.out.h9 2
  have c10 : w4.cell? ⟨b10, 0, none⟩ = some (.bool true) := hp_cell S.out.h10 0
  have c3 : w4.cell? ⟨b9, 3, none⟩ = some (.slice none 0 0) := hp_cell S.out.h9 3
  have q6 := hp_lt S.out.h6
  have d0 : w4.cell? ⟨b6, 0, none⟩ = some (.int .i64 0) := hp_cell S.out.h6 0
  have d1 : w4.cell? ⟨b6, 1, none⟩ = some (.int .i64 0) := hp_cell S.out.h6 1
  have d2 : w4.cell? ⟨b6, 2, none⟩ = some (.int .i64 0) := hp_cell S.out.h6 2
  have d3 : w4.cell? ⟨b6, 3, none⟩ = some (.slice none 0 0) := hp_cell S.out.h6 3
  have e0 := hp_frozen S.out.h6 0
  have e1 := hp_frozen S.out.h6 1
  have e2 := hp_frozen S.out.h6 2
  have e3 := hp_frozen S.out.h6 3
  have p0 := hp_put (cs' := #[.int .i64 (-1), .int .i64 0, .int .i64 0, .slice none 0 0]) S.out.h6 0 (.int .i64 (-1)) (by simp)
  have p1 := hp_put (cs' := #[.int .i64 (-1), .int .i64 sz, .int .i64 0, .slice none 0 0]) p0 1 (.int .i64 sz) (by simp)
  have p2 := hp_put (cs' := #[.int .i64 (-1), .int .i64 sz, .int .i64 0, .slice none 0 0]) p1 2 (.int .i64 0) (by simp)
  have p3 := hp_put (cs' := #[.int .i64 (-1), .int .i64 sz, .int .i64 0, .slice none 0 0]) p2 3 (.slice none 0 0) (by simp)
  have Q := Lib.hid p3
  have bl := (((S.out.bl.setCell (p := ⟨b6, 0, none⟩) S.out.d.2.1 (.int .i64 (-1))).setCell (p := ⟨b6, 1, none⟩) S.out.d.2.1 (.int .i64 sz)).setCell (p := ⟨b6, 2, none⟩) S.out.d.2.1 (.int .i64 0)).setCell (p := ⟨b6, 3, none⟩) S.out.d.2.1 (.slice none 0 0)
  have BL := Lib.hid bl
  clear p0 p1 p2 p3 bl
  go_wp2_with fail
  generalize World.setCell _ _ _ = w9 at Q BL ⊢
  have r0 := hp_cell Q.out 0
  have r1 := hp_cell Q.out 1
  have r2 := hp_cell Q.out 2
  have r3 := hp_cell Q.out 3
  refine bodyPost_ret (by simp [results, Try.results15, go_sem, r0, r1, r2, r3]; try rfl) rfl ?_
  exact ⟨rfl, BL.out⟩
set_option maxRecDepth 100000 in
set_option maxHeartbeats 8000000 in
theorem shape_4 (sz : Int) (hz : 1 ≤ sz ∧ sz ≤ 4) (g : Nat) (w : World) (h : w.heap[g]? = some (.cells (valsC [0, 0]).toArray 53 (0, 0))) : Calls Try.prog 15 #[.int .u8 4, .int .i64 sz, .slice (some ⟨g, 0, none⟩) 2 2] w fun e w' => e = .returned (.tuple #[.agg #[.int .i64 (-1), .int .i64 0, .int .i64 0, .slice none 0 0], .int .i64 0]) ∧ Below w.heap.size w w' := by
  have ET := Lib.hid (show tvI 4 sz = 2 by unfold tvI; rw [show goodK 4 sz = true by unfold goodK; simp; omega]; rfl)
  obtain ⟨s1, hs1⟩ : ∃ s, sz - 1 = s := ⟨_, rfl⟩
  have ew : wrap64 (sz - 1) = s1 := by rw [← hs1]; unfold wrap64; omega
  have HW1 := Lib.hid (cwhole0 s1 (by omega))
  have OKV := Lib.hid (show ∀ x ∈ [0, 0], W64 x ∧ rightB x = true from fun x hx => by rw [(by simpa using hx : x = 0)]; exact ⟨by constructor <;> decide, by kernel_rfl⟩)
  clear hz hs1
  have H := Lib.hid h
  have HA := Lib.hid ((Below.refl w.heap.size w).alloc (Nat.le_refl _) (.cells #[.int .i64 0, .int .i64 0, .int .i64 0, .slice none 0 0] 42))
  have HT := Lib.hid (by have := ctv 4 sz (w.alloc (.cells #[.int .i64 0, .int .i64 0, .int .i64 0, .slice none 0 0] 42)); rw [ET.out] at this; exact this)
  clear h
  go_enter Try.func15, Try.ntmps15
  go_upto_region 2 with (go_at_call 12; refine HT.out.mono ?_; rintro e w1 ⟨rfl, hb⟩; have HB := Lib.hid hb; clear hb)
  have G1 := Lib.hid (hp_below (hp_below H.out HA.out) HB.out)
  have X6 := Lib.hid (hp_below (heap_alloc_new w (.cells #[.int .i64 0, .int .i64 0, .int .i64 0, .slice none 0 0] 42)) HB.out)
  have B1 := Lib.hid (HA.out.trans (HB.out.mono HA.out.size))
  have HSZ := Lib.hid (show w.heap.size + 1 ≤ w1.heap.size by have := HB.out.size; simp at this; omega)
  clear HA HT HB H
  have HC := Lib.hid (containsV g [0, 0] (by simp) OKV.out (w1.alloc (.cells #[.int .i64 (-1), .int .i64 0, .int .i64 0, .slice none 0 0] 42)) (hp_alloc G1.out _))
  go_upto_region 8 with (go_at_call 35; refine HC.out.mono ?_; rintro e w' ⟨rfl, rfl⟩)
  have S : Hid (ShK w ((w1.alloc (.cells #[.int .i64 (-1), .int .i64 0, .int .i64 0, .slice none 0 0] 42)).alloc (.cells #[.bool true] 4)) g w.heap.size w1.heap.size (w1.heap.size + 1) [0, 0] #[.int .i64 (-1), .int .i64 0, .int .i64 0, .slice none 0 0]) := Lib.hid ⟨hp_alloc (hp_alloc G1.out _) _, hp_alloc (hp_alloc X6.out _) _, hp_alloc (heap_alloc_new w1 _) _, (congrArg _ (by simp)).trans (heap_alloc_new (w1.alloc (.cells #[.int .i64 (-1), .int .i64 0, .int .i64 0, .slice none 0 0] 42)) _), ⟨by have := HSZ.out; omega, Nat.le_refl _, by have := HSZ.out; omega, by have := HSZ.out; omega⟩, (B1.out.alloc B1.out.size _).alloc (by have := B1.out.size; simp; omega) _⟩
  clear HC G1 X6 B1
  generalize World.alloc _ _ = w3 at S ⊢
  obtain ⟨b6, hb6⟩ : ∃ b, w.heap.size = b := ⟨_, rfl⟩
  obtain ⟨b10, hb10⟩ : ∃ b, w1.heap.size + 1 = b := ⟨_, rfl⟩
  obtain ⟨b9, hb9⟩ : ∃ b, w1.heap.size = b := ⟨_, rfl⟩
  rw [hb10, hb9, hb6] at S
  try rw [hb10]
  try rw [hb9]
  try rw [hb6]
  clear hb10 hb9 hb6 HSZ
  have n1 : b9 ≠ b10 := hp_ne S.out.h9 S.out.h10 (by decide)
  have n2 : b10 ≠ b9 := fun e => n1 e.symm
  have n3 : g ≠ b10 := hp_ne S.out.hg S.out.h10 (by decide)
  have n4 : b10 ≠ g := fun e => n3 e.symm
  have n5 : g ≠ b9 := hp_ne S.out.hg S.out.h9 (by decide)
  have n6 : b9 ≠ g := fun e => n5 e.symm
  have n7 : b6 ≠ b9 := S.out.d.1
  have n8 : b9 ≠ b6 := fun e => n7 e.symm
  have y9 := hp_lt S.out.h9
  have yg := hp_lt S.out.hg
  have y10 := hp_lt S.out.h10
  have v0 : w3.cell? ⟨g, 0, none⟩ = some (.int .u64 0) := vc_at S.out.hg rfl
  have v1 : w3.cell? ⟨g, 1, none⟩ = some (.int .u64 0) := vc_at S.out.hg rfl
  have z0 := hp_frozen S.out.h9 0
  have z1 := hp_frozen S.out.h9 1
  have z2 := hp_frozen S.out.h9 2
  have z3 := hp_frozen S.out.h9 3
  have c0 : w3.cell? ⟨b9, 0, none⟩ = some (.int .i64 (-1)) := hp_cell S.out.h9 0
  have c1 : w3.cell? ⟨b9, 1, none⟩ = some (.int .i64 0) := hp_cell S.out.h9 1
  have c2 : w3.cell? ⟨b9, 2, none⟩ = some (.int .i64 0) := hp_cell S.out.h9 2
  have HAL := Lib.hid (fun n => (also_any n b10 w3 S.out.h10).mono (R' := fun e w' => e = .returned (.int .i64 n) ∧ ShK w w' g b6 b9 b10 [0, 0] #[.int .i64 (-1), .int .i64 0, .int .i64 0, .slice none 0 0]) (fun e w' hh => ⟨hh.1, by rw [← hh.2]; exact S.out.ok⟩))
  go_upto_region 16 with (first | (go_at_call 39; refine (HW1.out _).mono ?_; rintro e w' ⟨rfl, rfl⟩) | (go_at_call 38; refine (HAL.out _).mono ?_; rintro e u4 ⟨rfl, hS⟩; have SA := Lib.hid hS; clear hS n1 n2 n3 n4 n5 n6 n7 n8 y9 yg y10 v0 v1 z0 z1 z2 z3 c0 c1 c2; have n1 : b9 ≠ b10 := hp_ne SA.out.h9 SA.out.h10 (by decide); have n2 : b10 ≠ b9 := fun e => n1 e.symm; have n3 : g ≠ b10 := hp_ne SA.out.hg SA.out.h10 (by decide); have n4 : b10 ≠ g := fun e => n3 e.symm; have n5 : g ≠ b9 := hp_ne SA.out.hg SA.out.h9 (by decide); have n6 : b9 ≠ g := fun e => n5 e.symm; have n7 : b6 ≠ b9 := SA.out.d.1; have n8 : b9 ≠ b6 := fun e => n7 e.symm; have y9 := hp_lt SA.out.h9; have yg := hp_lt SA.out.hg; have y10 := hp_lt SA.out.h10; have v0 : u4.cell? ⟨g, 0, none⟩ = some (.int .u64 0) := vc_at SA.out.hg rfl; have v1 : u4.cell? ⟨g, 1, none⟩ = some (.int .u64 0) := vc_at SA.out.hg rfl; have z0 := hp_frozen SA.out.h9 0; have z1 := hp_frozen SA.out.h9 1; have z2 := hp_frozen SA.out.h9 2; have z3 := hp_frozen SA.out.h9 3; have c0 : u4.cell? ⟨b9, 0, none⟩ = some (.int .i64 (-1)) := hp_cell SA.out.h9 0; have c1 : u4.cell? ⟨b9, 1, none⟩ = some (.int .i64 0) := hp_cell SA.out.h9 1; have c2 : u4.cell? ⟨b9, 2, none⟩ = some (.int .i64 0) := hp_cell SA.out.h9 2))
  replace S := Lib.hid (SA.out.st 1 (.int .i64 0) (c9' := #[.int .i64 (-1), .int .i64 0, .int .i64 0, .slice none 0 0]) rfl)
  clear HAL SA
  clear n1 n2 n3 n4 n5 n6 n7 n8 y9 yg y10 v0 v1 z0 z1 z2 z3 c0 c1 c2
  generalize World.setCell _ _ _ = w4 at S ⊢
  have n1 : b9 ≠ b10 := hp_ne S.out.h9 S.out.h10 (by decide)
  have n2 : b10 ≠ b9 := fun e => n1 e.symm
  have n3 : g ≠ b10 := hp_ne S.out.hg S.out.h10 (by decide)
  have n4 : b10 ≠ g := fun e => n3 e.symm
  have n5 : g ≠ b9 := hp_ne S.out.hg S.out.h9 (by decide)
  have n6 : b9 ≠ g := fun e => n5 e.symm
  have n7 : b6 ≠ b9 := S.out.d.1
  have n8 : b9 ≠ b6 := fun e => n7 e.symm
  have y9 := hp_lt S.out.h9
  have yg := hp_lt S.out.hg
  have y10 := hp_lt S.out.h10
  have v0 : w4.cell? ⟨g, 0, none⟩ = some (.int .u64 0) := vc_at S.out.hg rfl
  have v1 : w4.cell? ⟨g, 1, none⟩ = some (.int .u64 0) := vc_at S.out.hg rfl
  have z0 := hp_frozen S.out.h9 0
  have z1 := hp_frozen S.out.h9 1
  have z2 := hp_frozen S.out.h9 2
  have z3 := hp_frozen S.out.h9 3
  have c0 : w4.cell? ⟨b9, 0, none⟩ = some (.int .i64 (-1)) := hp_cell S.out.h9 0
  have c1 : w4.cell? ⟨b9, 1, none⟩ = some (.int .i64 0) := hp_cell S.out.h9 1
  have c2 : w4.cell? ⟨b9, 2, none⟩ = some (.int .i64 0) := hp_cell S.out.h9 2
  have HAL := Lib.hid (fun n => (also_any n b10 w4 S.out.h10).mono (R' := fun e w' => e = .returned (.int .i64 n) ∧ ShK w w' g b6 b9 b10 [0, 0] #[.int .i64 (-1), .int .i64 0, .int .i64 0, .slice none 0 0]) (fun e w' hh => ⟨hh.1, by rw [← hh.2]; exact S.out.ok⟩))
  go_upto_region 26 with (first | (go_at_call 39; refine (cwhole0 (9007199254740992) (by decide) _).mono ?_; rintro e w' ⟨rfl, rfl⟩) | (go_at_call 38; refine (HAL.out _).mono ?_; rintro e u5 ⟨rfl, hS⟩; have SA := Lib.hid hS; clear hS n1 n2 n3 n4 n5 n6 n7 n8 y9 yg y10 v0 v1 z0 z1 z2 z3 c0 c1 c2; have n1 : b9 ≠ b10 := hp_ne SA.out.h9 SA.out.h10 (by decide); have n2 : b10 ≠ b9 := fun e => n1 e.symm; have n3 : g ≠ b10 := hp_ne SA.out.hg SA.out.h10 (by decide); have n4 : b10 ≠ g := fun e => n3 e.symm; have n5 : g ≠ b9 := hp_ne SA.out.hg SA.out.h9 (by decide); have n6 : b9 ≠ g := fun e => n5 e.symm; have n7 : b6 ≠ b9 := SA.out.d.1; have n8 : b9 ≠ b6 := fun e => n7 e.symm; have y9 := hp_lt SA.out.h9; have yg := hp_lt SA.out.hg; have y10 := hp_lt SA.out.h10; have v0 : u5.cell? ⟨g, 0, none⟩ = some (.int .u64 0) := vc_at SA.out.hg rfl; have v1 : u5.cell? ⟨g, 1, none⟩ = some (.int .u64 0) := vc_at SA.out.hg rfl; have z0 := hp_frozen SA.out.h9 0; have z1 := hp_frozen SA.out.h9 1; have z2 := hp_frozen SA.out.h9 2; have z3 := hp_frozen SA.out.h9 3; have c0 : u5.cell? ⟨b9, 0, none⟩ = some (.int .i64 (-1)) := hp_cell SA.out.h9 0; have c1 : u5.cell? ⟨b9, 1, none⟩ = some (.int .i64 0) := hp_cell SA.out.h9 1; have c2 : u5.cell? ⟨b9, 2, none⟩ = some (.int .i64 0) := hp_cell SA.out.h9 2))
  replace S := Lib.hid (SA.out.st 2 (.int .i64 0) (c9' := #[.int .i64 (-1), .int .i64 0, .int .i64 0, .slice none 0 0]) rfl)
  clear HAL SA
  clear n1 n2 n3 n4 n5 n6 n7 n8 y9 yg y10 v0 v1 z0 z1 z2 z3 c0 c1 c2
  generalize World.setCell _ _ _ = w5 at S ⊢
  have n1 : b9 ≠ b10 := hp_ne S.out.h9 S.out.h10 (by decide)
  have n2 : b10 ≠ b9 := fun e => n1 e.symm
  have n3 : g ≠ b10 := hp_ne S.out.hg S.out.h10 (by decide)
  have n4 : b10 ≠ g := fun e => n3 e.symm
  have n5 : g ≠ b9 := hp_ne S.out.hg S.out.h9 (by decide)
  have n6 : b9 ≠ g := fun e => n5 e.symm
  have n7 : b6 ≠ b9 := S.out.d.1
  have n8 : b9 ≠ b6 := fun e => n7 e.symm
  have y9 := hp_lt S.out.h9
  have yg := hp_lt S.out.hg
  have y10 := hp_lt S.out.h10
  have v0 : w5.cell? ⟨g, 0, none⟩ = some (.int .u64 0) := vc_at S.out.hg rfl
  have v1 : w5.cell? ⟨g, 1, none⟩ = some (.int .u64 0) := vc_at S.out.hg rfl
  have z0 := hp_frozen S.out.h9 0
  have z1 := hp_frozen S.out.h9 1
  have z2 := hp_frozen S.out.h9 2
  have z3 := hp_frozen S.out.h9 3
  have c0 : w5.cell? ⟨b9, 0, none⟩ = some (.int .i64 (-1)) := hp_cell S.out.h9 0
  have c1 : w5.cell? ⟨b9, 1, none⟩ = some (.int .i64 0) := hp_cell S.out.h9 1
  have c2 : w5.cell? ⟨b9, 2, none⟩ = some (.int .i64 0) := hp_cell S.out.h9 2
  have c10 : w5.cell? ⟨b10, 0, none⟩ = some (.bool true) := hp_cell S.out.h10 0
  have c3 : w5.cell? ⟨b9, 3, none⟩ = some (.slice none 0 0) := hp_cell S.out.h9 3
  have q6 := hp_lt S.out.h6
  have d0 : w5.cell? ⟨b6, 0, none⟩ = some (.int .i64 0) := hp_cell S.out.h6 0
  have d1 : w5.cell? ⟨b6, 1, none⟩ = some (.int .i64 0) := hp_cell S.out.h6 1
  have d2 : w5.cell? ⟨b6, 2, none⟩ = some (.int .i64 0) := hp_cell S.out.h6 2
  have d3 : w5.cell? ⟨b6, 3, none⟩ = some (.slice none 0 0) := hp_cell S.out.h6 3
  have e0 := hp_frozen S.out.h6 0
  have e1 := hp_frozen S.out.h6 1
  have e2 := hp_frozen S.out.h6 2
  have e3 := hp_frozen S.out.h6 3
  have p0 := hp_put (cs' := #[.int .i64 (-1), .int .i64 0, .int .i64 0, .slice none 0 0]) S.out.h6 0 (.int .i64 (-1)) (by simp)
  have p1 := hp_put (cs' := #[.int .i64 (-1), .int .i64 0, .int .i64 0, .slice none 0 0]) p0 1 (.int .i64 0) (by simp)
  have p2 := hp_put (cs' := #[.int .i64 (-1), .int .i64 0, .int .i64 0, .slice none 0 0]) p1 2 (.int .i64 0) (by simp)
  have p3 := hp_put (cs' := #[.int .i64 (-1), .int .i64 0, .int .i64 0, .slice none 0 0]) p2 3 (.slice none 0 0) (by simp)
  have Q := Lib.hid p3
  have bl := (((S.out.bl.setCell (p := ⟨b6, 0, none⟩) S.out.d.2.1 (.int .i64 (-1))).setCell (p := ⟨b6, 1, none⟩) S.out.d.2.1 (.int .i64 0)).setCell (p := ⟨b6, 2, none⟩) S.out.d.2.1 (.int .i64 0)).setCell (p := ⟨b6, 3, none⟩) S.out.d.2.1 (.slice none 0 0)
  have BL := Lib.hid bl
  clear p0 p1 p2 p3 bl
  go_wp2_with fail
  generalize World.setCell _ _ _ = w9 at Q BL ⊢
  have r0 := hp_cell Q.out 0
  have r1 := hp_cell Q.out 1
  have r2 := hp_cell Q.out 2
  have r3 := hp_cell Q.out 3
  refine bodyPost_ret (by simp [results, Try.results15, go_sem, r0, r1, r2, r3]; try rfl) rfl ?_
  exact ⟨rfl, BL.out⟩
set_option maxRecDepth 100000 in
set_option maxHeartbeats 8000000 in
theorem shape_31 (g : Nat) (w : World) (h : w.heap[g]? = some (.cells (valsC [0, 0, 0]).toArray 53 (0, 0))) : Calls Try.prog 15 #[.int .u8 3, .int .i64 1, .slice (some ⟨g, 0, none⟩) 3 3] w fun e w' => e = .returned (.tuple #[.agg #[.int .i64 (-1), .int .i64 0, .int .i64 0, .slice none 0 0], .int .i64 0]) ∧ Below w.heap.size w w' := by
  have ET := Lib.hid (show tvI 3 1 = 3 by kernel_rfl)
  have OKV := Lib.hid (show ∀ x ∈ [0, 0, 0], W64 x ∧ rightB x = true from fun x hx => by rw [(by simpa using hx : x = 0)]; exact ⟨by constructor <;> decide, by kernel_rfl⟩)
  have H := Lib.hid h
  have HA := Lib.hid ((Below.refl w.heap.size w).alloc (Nat.le_refl _) (.cells #[.int .i64 0, .int .i64 0, .int .i64 0, .slice none 0 0] 42))
  have HT := Lib.hid (by have := ctv 3 1 (w.alloc (.cells #[.int .i64 0, .int .i64 0, .int .i64 0, .slice none 0 0] 42)); rw [ET.out] at this; exact this)
  clear h
  go_enter Try.func15, Try.ntmps15
  go_upto_region 2 with (go_at_call 12; refine HT.out.mono ?_; rintro e w1 ⟨rfl, hb⟩; have HB := Lib.hid hb; clear hb)
  have G1 := Lib.hid (hp_below (hp_below H.out HA.out) HB.out)
  have X6 := Lib.hid (hp_below (heap_alloc_new w (.cells #[.int .i64 0, .int .i64 0, .int .i64 0, .slice none 0 0] 42)) HB.out)
  have B1 := Lib.hid (HA.out.trans (HB.out.mono HA.out.size))
  have HSZ := Lib.hid (show w.heap.size + 1 ≤ w1.heap.size by have := HB.out.size; simp at this; omega)
  clear HA HT HB H
  have HC := Lib.hid (containsV g [0, 0, 0] (by simp) OKV.out (w1.alloc (.cells #[.int .i64 (-1), .int .i64 0, .int .i64 0, .slice none 0 0] 42)) (hp_alloc G1.out _))
  go_upto_region 8 with (go_at_call 35; refine HC.out.mono ?_; rintro e w' ⟨rfl, rfl⟩)
  have S : Hid (ShK w ((w1.alloc (.cells #[.int .i64 (-1), .int .i64 0, .int .i64 0, .slice none 0 0] 42)).alloc (.cells #[.bool true] 4)) g w.heap.size w1.heap.size (w1.heap.size + 1) [0, 0, 0] #[.int .i64 (-1), .int .i64 0, .int .i64 0, .slice none 0 0]) := Lib.hid ⟨hp_alloc (hp_alloc G1.out _) _, hp_alloc (hp_alloc X6.out _) _, hp_alloc (heap_alloc_new w1 _) _, (congrArg _ (by simp)).trans (heap_alloc_new (w1.alloc (.cells #[.int .i64 (-1), .int .i64 0, .int .i64 0, .slice none 0 0] 42)) _), ⟨by have := HSZ.out; omega, Nat.le_refl _, by have := HSZ.out; omega, by have := HSZ.out; omega⟩, (B1.out.alloc B1.out.size _).alloc (by have := B1.out.size; simp; omega) _⟩
  clear HC G1 X6 B1
  generalize World.alloc _ _ = w3 at S ⊢
  obtain ⟨b6, hb6⟩ : ∃ b, w.heap.size = b := ⟨_, rfl⟩
  obtain ⟨b10, hb10⟩ : ∃ b, w1.heap.size + 1 = b := ⟨_, rfl⟩
  obtain ⟨b9, hb9⟩ : ∃ b, w1.heap.size = b := ⟨_, rfl⟩
  rw [hb10, hb9, hb6] at S
  try rw [hb10]
  try rw [hb9]
  try rw [hb6]
  clear hb10 hb9 hb6 HSZ
  have n1 : b9 ≠ b10 := hp_ne S.out.h9 S.out.h10 (by decide)
  have n2 : b10 ≠ b9 := fun e => n1 e.symm
  have n3 : g ≠ b10 := hp_ne S.out.hg S.out.h10 (by decide)
  have n4 : b10 ≠ g := fun e => n3 e.symm
  have n5 : g ≠ b9 := hp_ne S.out.hg S.out.h9 (by decide)
  have n6 : b9 ≠ g := fun e => n5 e.symm
  have n7 : b6 ≠ b9 := S.out.d.1
  have n8 : b9 ≠ b6 := fun e => n7 e.symm
  have y9 := hp_lt S.out.h9
  have yg := hp_lt S.out.hg
  have y10 := hp_lt S.out.h10
  have v0 : w3.cell? ⟨g, 0, none⟩ = some (.int .u64 0) := vc_at S.out.hg rfl
  have v1 : w3.cell? ⟨g, 1, none⟩ = some (.int .u64 0) := vc_at S.out.hg rfl
  have z0 := hp_frozen S.out.h9 0
  have z1 := hp_frozen S.out.h9 1
  have z2 := hp_frozen S.out.h9 2
  have z3 := hp_frozen S.out.h9 3
  have c0 : w3.cell? ⟨b9, 0, none⟩ = some (.int .i64 (-1)) := hp_cell S.out.h9 0
  have c1 : w3.cell? ⟨b9, 1, none⟩ = some (.int .i64 0) := hp_cell S.out.h9 1
  have c2 : w3.cell? ⟨b9, 2, none⟩ = some (.int .i64 0) := hp_cell S.out.h9 2
  have HAL := Lib.hid (fun n => (also_any n b10 w3 S.out.h10).mono (R' := fun e w' => e = .returned (.int .i64 n) ∧ ShK w w' g b6 b9 b10 [0, 0, 0] #[.int .i64 (-1), .int .i64 0, .int .i64 0, .slice none 0 0]) (fun e w' hh => ⟨hh.1, by rw [← hh.2]; exact S.out.ok⟩))
  go_upto_region 19 with (first | (go_at_call 39; refine (cwhole0 (1) (by decide) _).mono ?_; rintro e w' ⟨rfl, rfl⟩) | (go_at_call 38; refine (HAL.out _).mono ?_; rintro e u4 ⟨rfl, hS⟩; have SA := Lib.hid hS; clear hS n1 n2 n3 n4 n5 n6 n7 n8 y9 yg y10 v0 v1 z0 z1 z2 z3 c0 c1 c2; have n1 : b9 ≠ b10 := hp_ne SA.out.h9 SA.out.h10 (by decide); have n2 : b10 ≠ b9 := fun e => n1 e.symm; have n3 : g ≠ b10 := hp_ne SA.out.hg SA.out.h10 (by decide); have n4 : b10 ≠ g := fun e => n3 e.symm; have n5 : g ≠ b9 := hp_ne SA.out.hg SA.out.h9 (by decide); have n6 : b9 ≠ g := fun e => n5 e.symm; have n7 : b6 ≠ b9 := SA.out.d.1; have n8 : b9 ≠ b6 := fun e => n7 e.symm; have y9 := hp_lt SA.out.h9; have yg := hp_lt SA.out.hg; have y10 := hp_lt SA.out.h10; have v0 : u4.cell? ⟨g, 0, none⟩ = some (.int .u64 0) := vc_at SA.out.hg rfl; have v1 : u4.cell? ⟨g, 1, none⟩ = some (.int .u64 0) := vc_at SA.out.hg rfl; have z0 := hp_frozen SA.out.h9 0; have z1 := hp_frozen SA.out.h9 1; have z2 := hp_frozen SA.out.h9 2; have z3 := hp_frozen SA.out.h9 3; have c0 : u4.cell? ⟨b9, 0, none⟩ = some (.int .i64 (-1)) := hp_cell SA.out.h9 0; have c1 : u4.cell? ⟨b9, 1, none⟩ = some (.int .i64 0) := hp_cell SA.out.h9 1; have c2 : u4.cell? ⟨b9, 2, none⟩ = some (.int .i64 0) := hp_cell SA.out.h9 2))
  replace S := SA
  clear HAL SA
  clear n1 n2 n3 n4 n5 n6 n7 n8 y9 yg y10 v0 v1 z0 z1 z2 z3 c0 c1 c2
  have n1 : b9 ≠ b10 := hp_ne S.out.h9 S.out.h10 (by decide)
  have n2 : b10 ≠ b9 := fun e => n1 e.symm
  have n3 : g ≠ b10 := hp_ne S.out.hg S.out.h10 (by decide)
  have n4 : b10 ≠ g := fun e => n3 e.symm
  have n5 : g ≠ b9 := hp_ne S.out.hg S.out.h9 (by decide)
  have n6 : b9 ≠ g := fun e => n5 e.symm
  have n7 : b6 ≠ b9 := S.out.d.1
  have n8 : b9 ≠ b6 := fun e => n7 e.symm
  have y9 := hp_lt S.out.h9
  have yg := hp_lt S.out.hg
  have y10 := hp_lt S.out.h10
  have v0 : u4.cell? ⟨g, 0, none⟩ = some (.int .u64 0) := vc_at S.out.hg rfl
  have v1 : u4.cell? ⟨g, 1, none⟩ = some (.int .u64 0) := vc_at S.out.hg rfl
  have z0 := hp_frozen S.out.h9 0
  have z1 := hp_frozen S.out.h9 1
  have z2 := hp_frozen S.out.h9 2
  have z3 := hp_frozen S.out.h9 3
  have c0 : u4.cell? ⟨b9, 0, none⟩ = some (.int .i64 (-1)) := hp_cell S.out.h9 0
  have c1 : u4.cell? ⟨b9, 1, none⟩ = some (.int .i64 0) := hp_cell S.out.h9 1
  have c2 : u4.cell? ⟨b9, 2, none⟩ = some (.int .i64 0) := hp_cell S.out.h9 2
  have HAL := Lib.hid (fun n => (also_any n b10 u4 S.out.h10).mono (R' := fun e w' => e = .returned (.int .i64 n) ∧ ShK w w' g b6 b9 b10 [0, 0, 0] #[.int .i64 (-1), .int .i64 0, .int .i64 0, .slice none 0 0]) (fun e w' hh => ⟨hh.1, by rw [← hh.2]; exact S.out.ok⟩))
  go_upto_region 20 with (first | (go_at_call 39; refine (cwhole0 (0) (by decide) _).mono ?_; rintro e w' ⟨rfl, rfl⟩) | (go_at_call 38; refine (HAL.out _).mono ?_; rintro e u5 ⟨rfl, hS⟩; have SA := Lib.hid hS; clear hS n1 n2 n3 n4 n5 n6 n7 n8 y9 yg y10 v0 v1 z0 z1 z2 z3 c0 c1 c2; have n1 : b9 ≠ b10 := hp_ne SA.out.h9 SA.out.h10 (by decide); have n2 : b10 ≠ b9 := fun e => n1 e.symm; have n3 : g ≠ b10 := hp_ne SA.out.hg SA.out.h10 (by decide); have n4 : b10 ≠ g := fun e => n3 e.symm; have n5 : g ≠ b9 := hp_ne SA.out.hg SA.out.h9 (by decide); have n6 : b9 ≠ g := fun e => n5 e.symm; have n7 : b6 ≠ b9 := SA.out.d.1; have n8 : b9 ≠ b6 := fun e => n7 e.symm; have y9 := hp_lt SA.out.h9; have yg := hp_lt SA.out.hg; have y10 := hp_lt SA.out.h10; have v0 : u5.cell? ⟨g, 0, none⟩ = some (.int .u64 0) := vc_at SA.out.hg rfl; have v1 : u5.cell? ⟨g, 1, none⟩ = some (.int .u64 0) := vc_at SA.out.hg rfl; have z0 := hp_frozen SA.out.h9 0; have z1 := hp_frozen SA.out.h9 1; have z2 := hp_frozen SA.out.h9 2; have z3 := hp_frozen SA.out.h9 3; have c0 : u5.cell? ⟨b9, 0, none⟩ = some (.int .i64 (-1)) := hp_cell SA.out.h9 0; have c1 : u5.cell? ⟨b9, 1, none⟩ = some (.int .i64 0) := hp_cell SA.out.h9 1; have c2 : u5.cell? ⟨b9, 2, none⟩ = some (.int .i64 0) := hp_cell SA.out.h9 2))
  replace S := SA
  clear HAL SA
  clear n1 n2 n3 n4 n5 n6 n7 n8 y9 yg y10 v0 v1 z0 z1 z2 z3 c0 c1 c2
  have n1 : b9 ≠ b10 := hp_ne S.out.h9 S.out.h10 (by decide)
  have n2 : b10 ≠ b9 := fun e => n1 e.symm
  have n3 : g ≠ b10 := hp_ne S.out.hg S.out.h10 (by decide)
  have n4 : b10 ≠ g := fun e => n3 e.symm
  have n5 : g ≠ b9 := hp_ne S.out.hg S.out.h9 (by decide)
  have n6 : b9 ≠ g := fun e => n5 e.symm
  have n7 : b6 ≠ b9 := S.out.d.1
  have n8 : b9 ≠ b6 := fun e => n7 e.symm
  have y9 := hp_lt S.out.h9
  have yg := hp_lt S.out.hg
  have y10 := hp_lt S.out.h10
  have v0 : u5.cell? ⟨g, 0, none⟩ = some (.int .u64 0) := vc_at S.out.hg rfl
  have v1 : u5.cell? ⟨g, 1, none⟩ = some (.int .u64 0) := vc_at S.out.hg rfl
  have z0 := hp_frozen S.out.h9 0
  have z1 := hp_frozen S.out.h9 1
  have z2 := hp_frozen S.out.h9 2
  have z3 := hp_frozen S.out.h9 3
  have c0 : u5.cell? ⟨b9, 0, none⟩ = some (.int .i64 (-1)) := hp_cell S.out.h9 0
  have c1 : u5.cell? ⟨b9, 1, none⟩ = some (.int .i64 0) := hp_cell S.out.h9 1
  have c2 : u5.cell? ⟨b9, 2, none⟩ = some (.int .i64 0) := hp_cell S.out.h9 2
  have c10 : u5.cell? ⟨b10, 0, none⟩ = some (.bool true) := hp_cell S.out.h10 0
  go_upto_region 22 with fail
  go_loopg [102] 1 (fun gm s102 wx => gm = 1 ∧ s102 = .int .i64 0 ∧ u5 = wx)
  case atStart => exact ⟨rfl, rfl, rfl⟩
  case round =>
  obtain ⟨rfl, rfl, rfl⟩ := hrel
  have c3 : u5.cell? ⟨b9, 3, none⟩ = some (.slice none 0 0) := hp_cell S.out.h9 3
  have q6 := hp_lt S.out.h6
  have d0 : u5.cell? ⟨b6, 0, none⟩ = some (.int .i64 0) := hp_cell S.out.h6 0
  have d1 : u5.cell? ⟨b6, 1, none⟩ = some (.int .i64 0) := hp_cell S.out.h6 1
  have d2 : u5.cell? ⟨b6, 2, none⟩ = some (.int .i64 0) := hp_cell S.out.h6 2
  have d3 : u5.cell? ⟨b6, 3, none⟩ = some (.slice none 0 0) := hp_cell S.out.h6 3
  have e0 := hp_frozen S.out.h6 0
  have e1 := hp_frozen S.out.h6 1
  have e2 := hp_frozen S.out.h6 2
  have e3 := hp_frozen S.out.h6 3
  have p0 := hp_put (cs' := #[.int .i64 (-1), .int .i64 0, .int .i64 0, .slice none 0 0]) S.out.h6 0 (.int .i64 (-1)) (by simp)
  have p1 := hp_put (cs' := #[.int .i64 (-1), .int .i64 0, .int .i64 0, .slice none 0 0]) p0 1 (.int .i64 0) (by simp)
  have p2 := hp_put (cs' := #[.int .i64 (-1), .int .i64 0, .int .i64 0, .slice none 0 0]) p1 2 (.int .i64 0) (by simp)
  have p3 := hp_put (cs' := #[.int .i64 (-1), .int .i64 0, .int .i64 0, .slice none 0 0]) p2 3 (.slice none 0 0) (by simp)
  have Q := Lib.hid p3
  have bl := (((S.out.bl.setCell (p := ⟨b6, 0, none⟩) S.out.d.2.1 (.int .i64 (-1))).setCell (p := ⟨b6, 1, none⟩) S.out.d.2.1 (.int .i64 0)).setCell (p := ⟨b6, 2, none⟩) S.out.d.2.1 (.int .i64 0)).setCell (p := ⟨b6, 3, none⟩) S.out.d.2.1 (.slice none 0 0)
  have BL := Lib.hid bl
  clear p0 p1 p2 p3 bl
  go_wp2_with fail
  generalize World.setCell _ _ _ = w9 at Q BL ⊢
  have r0 := hp_cell Q.out 0
  have r1 := hp_cell Q.out 1
  have r2 := hp_cell Q.out 2
  have r3 := hp_cell Q.out 3
  refine bodyPost_ret (by simp [results, Try.results15, go_sem, r0, r1, r2, r3]; try rfl) rfl ?_
  exact ⟨rfl, BL.out⟩
set_option maxRecDepth 100000 in
set_option maxHeartbeats 8000000 in
theorem shape_32 (g : Nat) (w : World) (h : w.heap[g]? = some (.cells (valsC [0, 0, 0, 0]).toArray 53 (0, 0))) : Calls Try.prog 15 #[.int .u8 3, .int .i64 2, .slice (some ⟨g, 0, none⟩) 4 4] w fun e w' => e = .returned (.tuple #[.agg #[.int .i64 (-1), .int .i64 0, .int .i64 0, .slice none 0 0], .int .i64 0]) ∧ Below w.heap.size w w' := by
  have ET := Lib.hid (show tvI 3 2 = 4 by kernel_rfl)
  have OKV := Lib.hid (show ∀ x ∈ [0, 0, 0, 0], W64 x ∧ rightB x = true from fun x hx => by rw [(by simpa using hx : x = 0)]; exact ⟨by constructor <;> decide, by kernel_rfl⟩)
  have H := Lib.hid h
  have HA := Lib.hid ((Below.refl w.heap.size w).alloc (Nat.le_refl _) (.cells #[.int .i64 0, .int .i64 0, .int .i64 0, .slice none 0 0] 42))
  have HT := Lib.hid (by have := ctv 3 2 (w.alloc (.cells #[.int .i64 0, .int .i64 0, .int .i64 0, .slice none 0 0] 42)); rw [ET.out] at this; exact this)
  clear h
  go_enter Try.func15, Try.ntmps15
  go_upto_region 2 with (go_at_call 12; refine HT.out.mono ?_; rintro e w1 ⟨rfl, hb⟩; have HB := Lib.hid hb; clear hb)
  have G1 := Lib.hid (hp_below (hp_below H.out HA.out) HB.out)
  have X6 := Lib.hid (hp_below (heap_alloc_new w (.cells #[.int .i64 0, .int .i64 0, .int .i64 0, .slice none 0 0] 42)) HB.out)
  have B1 := Lib.hid (HA.out.trans (HB.out.mono HA.out.size))
  have HSZ := Lib.hid (show w.heap.size + 1 ≤ w1.heap.size by have := HB.out.size; simp at this; omega)
  clear HA HT HB H
  have HC := Lib.hid (containsV g [0, 0, 0, 0] (by simp) OKV.out (w1.alloc (.cells #[.int .i64 (-1), .int .i64 0, .int .i64 0, .slice none 0 0] 42)) (hp_alloc G1.out _))
  go_upto_region 8 with (go_at_call 35; refine HC.out.mono ?_; rintro e w' ⟨rfl, rfl⟩)
  have S : Hid (ShK w ((w1.alloc (.cells #[.int .i64 (-1), .int .i64 0, .int .i64 0, .slice none 0 0] 42)).alloc (.cells #[.bool true] 4)) g w.heap.size w1.heap.size (w1.heap.size + 1) [0, 0, 0, 0] #[.int .i64 (-1), .int .i64 0, .int .i64 0, .slice none 0 0]) := Lib.hid ⟨hp_alloc (hp_alloc G1.out _) _, hp_alloc (hp_alloc X6.out _) _, hp_alloc (heap_alloc_new w1 _) _, (congrArg _ (by simp)).trans (heap_alloc_new (w1.alloc (.cells #[.int .i64 (-1), .int .i64 0, .int .i64 0, .slice none 0 0] 42)) _), ⟨by have := HSZ.out; omega, Nat.le_refl _, by have := HSZ.out; omega, by have := HSZ.out; omega⟩, (B1.out.alloc B1.out.size _).alloc (by have := B1.out.size; simp; omega) _⟩
  clear HC G1 X6 B1
  generalize World.alloc _ _ = w3 at S ⊢
  obtain ⟨b6, hb6⟩ : ∃ b, w.heap.size = b := ⟨_, rfl⟩
  obtain ⟨b10, hb10⟩ : ∃ b, w1.heap.size + 1 = b := ⟨_, rfl⟩
  obtain ⟨b9, hb9⟩ : ∃ b, w1.heap.size = b := ⟨_, rfl⟩
  rw [hb10, hb9, hb6] at S
  try rw [hb10]
  try rw [hb9]
  try rw [hb6]
  clear hb10 hb9 hb6 HSZ
  have n1 : b9 ≠ b10 := hp_ne S.out.h9 S.out.h10 (by decide)
  have n2 : b10 ≠ b9 := fun e => n1 e.symm
  have n3 : g ≠ b10 := hp_ne S.out.hg S.out.h10 (by decide)
  have n4 : b10 ≠ g := fun e => n3 e.symm
  have n5 : g ≠ b9 := hp_ne S.out.hg S.out.h9 (by decide)
  have n6 : b9 ≠ g := fun e => n5 e.symm
  have n7 : b6 ≠ b9 := S.out.d.1
  have n8 : b9 ≠ b6 := fun e => n7 e.symm
  have y9 := hp_lt S.out.h9
  have yg := hp_lt S.out.hg
  have y10 := hp_lt S.out.h10
  have v0 : w3.cell? ⟨g, 0, none⟩ = some (.int .u64 0) := vc_at S.out.hg rfl
  have v1 : w3.cell? ⟨g, 1, none⟩ = some (.int .u64 0) := vc_at S.out.hg rfl
  have z0 := hp_frozen S.out.h9 0
  have z1 := hp_frozen S.out.h9 1
  have z2 := hp_frozen S.out.h9 2
  have z3 := hp_frozen S.out.h9 3
  have c0 : w3.cell? ⟨b9, 0, none⟩ = some (.int .i64 (-1)) := hp_cell S.out.h9 0
  have c1 : w3.cell? ⟨b9, 1, none⟩ = some (.int .i64 0) := hp_cell S.out.h9 1
  have c2 : w3.cell? ⟨b9, 2, none⟩ = some (.int .i64 0) := hp_cell S.out.h9 2
  have HAL := Lib.hid (fun n => (also_any n b10 w3 S.out.h10).mono (R' := fun e w' => e = .returned (.int .i64 n) ∧ ShK w w' g b6 b9 b10 [0, 0, 0, 0] #[.int .i64 (-1), .int .i64 0, .int .i64 0, .slice none 0 0]) (fun e w' hh => ⟨hh.1, by rw [← hh.2]; exact S.out.ok⟩))
  go_upto_region 19 with (first | (go_at_call 39; refine (cwhole0 (2) (by decide) _).mono ?_; rintro e w' ⟨rfl, rfl⟩) | (go_at_call 38; refine (HAL.out _).mono ?_; rintro e u4 ⟨rfl, hS⟩; have SA := Lib.hid hS; clear hS n1 n2 n3 n4 n5 n6 n7 n8 y9 yg y10 v0 v1 z0 z1 z2 z3 c0 c1 c2; have n1 : b9 ≠ b10 := hp_ne SA.out.h9 SA.out.h10 (by decide); have n2 : b10 ≠ b9 := fun e => n1 e.symm; have n3 : g ≠ b10 := hp_ne SA.out.hg SA.out.h10 (by decide); have n4 : b10 ≠ g := fun e => n3 e.symm; have n5 : g ≠ b9 := hp_ne SA.out.hg SA.out.h9 (by decide); have n6 : b9 ≠ g := fun e => n5 e.symm; have n7 : b6 ≠ b9 := SA.out.d.1; have n8 : b9 ≠ b6 := fun e => n7 e.symm; have y9 := hp_lt SA.out.h9; have yg := hp_lt SA.out.hg; have y10 := hp_lt SA.out.h10; have v0 : u4.cell? ⟨g, 0, none⟩ = some (.int .u64 0) := vc_at SA.out.hg rfl; have v1 : u4.cell? ⟨g, 1, none⟩ = some (.int .u64 0) := vc_at SA.out.hg rfl; have z0 := hp_frozen SA.out.h9 0; have z1 := hp_frozen SA.out.h9 1; have z2 := hp_frozen SA.out.h9 2; have z3 := hp_frozen SA.out.h9 3; have c0 : u4.cell? ⟨b9, 0, none⟩ = some (.int .i64 (-1)) := hp_cell SA.out.h9 0; have c1 : u4.cell? ⟨b9, 1, none⟩ = some (.int .i64 0) := hp_cell SA.out.h9 1; have c2 : u4.cell? ⟨b9, 2, none⟩ = some (.int .i64 0) := hp_cell SA.out.h9 2))
  replace S := SA
  clear HAL SA
  clear n1 n2 n3 n4 n5 n6 n7 n8 y9 yg y10 v0 v1 z0 z1 z2 z3 c0 c1 c2
  have n1 : b9 ≠ b10 := hp_ne S.out.h9 S.out.h10 (by decide)
  have n2 : b10 ≠ b9 := fun e => n1 e.symm
  have n3 : g ≠ b10 := hp_ne S.out.hg S.out.h10 (by decide)
  have n4 : b10 ≠ g := fun e => n3 e.symm
  have n5 : g ≠ b9 := hp_ne S.out.hg S.out.h9 (by decide)
  have n6 : b9 ≠ g := fun e => n5 e.symm
  have n7 : b6 ≠ b9 := S.out.d.1
  have n8 : b9 ≠ b6 := fun e => n7 e.symm
  have y9 := hp_lt S.out.h9
  have yg := hp_lt S.out.hg
  have y10 := hp_lt S.out.h10
  have v0 : u4.cell? ⟨g, 0, none⟩ = some (.int .u64 0) := vc_at S.out.hg rfl
  have v1 : u4.cell? ⟨g, 1, none⟩ = some (.int .u64 0) := vc_at S.out.hg rfl
  have z0 := hp_frozen S.out.h9 0
  have z1 := hp_frozen S.out.h9 1
  have z2 := hp_frozen S.out.h9 2
  have z3 := hp_frozen S.out.h9 3
  have c0 : u4.cell? ⟨b9, 0, none⟩ = some (.int .i64 (-1)) := hp_cell S.out.h9 0
  have c1 : u4.cell? ⟨b9, 1, none⟩ = some (.int .i64 0) := hp_cell S.out.h9 1
  have c2 : u4.cell? ⟨b9, 2, none⟩ = some (.int .i64 0) := hp_cell S.out.h9 2
  have HAL := Lib.hid (fun n => (also_any n b10 u4 S.out.h10).mono (R' := fun e w' => e = .returned (.int .i64 n) ∧ ShK w w' g b6 b9 b10 [0, 0, 0, 0] #[.int .i64 (-1), .int .i64 0, .int .i64 0, .slice none 0 0]) (fun e w' hh => ⟨hh.1, by rw [← hh.2]; exact S.out.ok⟩))
  go_upto_region 20 with (first | (go_at_call 39; refine (cwhole0 (1) (by decide) _).mono ?_; rintro e w' ⟨rfl, rfl⟩) | (go_at_call 38; refine (HAL.out _).mono ?_; rintro e u5 ⟨rfl, hS⟩; have SA := Lib.hid hS; clear hS n1 n2 n3 n4 n5 n6 n7 n8 y9 yg y10 v0 v1 z0 z1 z2 z3 c0 c1 c2; have n1 : b9 ≠ b10 := hp_ne SA.out.h9 SA.out.h10 (by decide); have n2 : b10 ≠ b9 := fun e => n1 e.symm; have n3 : g ≠ b10 := hp_ne SA.out.hg SA.out.h10 (by decide); have n4 : b10 ≠ g := fun e => n3 e.symm; have n5 : g ≠ b9 := hp_ne SA.out.hg SA.out.h9 (by decide); have n6 : b9 ≠ g := fun e => n5 e.symm; have n7 : b6 ≠ b9 := SA.out.d.1; have n8 : b9 ≠ b6 := fun e => n7 e.symm; have y9 := hp_lt SA.out.h9; have yg := hp_lt SA.out.hg; have y10 := hp_lt SA.out.h10; have v0 : u5.cell? ⟨g, 0, none⟩ = some (.int .u64 0) := vc_at SA.out.hg rfl; have v1 : u5.cell? ⟨g, 1, none⟩ = some (.int .u64 0) := vc_at SA.out.hg rfl; have z0 := hp_frozen SA.out.h9 0; have z1 := hp_frozen SA.out.h9 1; have z2 := hp_frozen SA.out.h9 2; have z3 := hp_frozen SA.out.h9 3; have c0 : u5.cell? ⟨b9, 0, none⟩ = some (.int .i64 (-1)) := hp_cell SA.out.h9 0; have c1 : u5.cell? ⟨b9, 1, none⟩ = some (.int .i64 0) := hp_cell SA.out.h9 1; have c2 : u5.cell? ⟨b9, 2, none⟩ = some (.int .i64 0) := hp_cell SA.out.h9 2))
  replace S := SA
  clear HAL SA
  clear n1 n2 n3 n4 n5 n6 n7 n8 y9 yg y10 v0 v1 z0 z1 z2 z3 c0 c1 c2
  have n1 : b9 ≠ b10 := hp_ne S.out.h9 S.out.h10 (by decide)
  have n2 : b10 ≠ b9 := fun e => n1 e.symm
  have n3 : g ≠ b10 := hp_ne S.out.hg S.out.h10 (by decide)
  have n4 : b10 ≠ g := fun e => n3 e.symm
  have n5 : g ≠ b9 := hp_ne S.out.hg S.out.h9 (by decide)
  have n6 : b9 ≠ g := fun e => n5 e.symm
  have n7 : b6 ≠ b9 := S.out.d.1
  have n8 : b9 ≠ b6 := fun e => n7 e.symm
  have y9 := hp_lt S.out.h9
  have yg := hp_lt S.out.hg
  have y10 := hp_lt S.out.h10
  have v0 : u5.cell? ⟨g, 0, none⟩ = some (.int .u64 0) := vc_at S.out.hg rfl
  have v1 : u5.cell? ⟨g, 1, none⟩ = some (.int .u64 0) := vc_at S.out.hg rfl
  have z0 := hp_frozen S.out.h9 0
  have z1 := hp_frozen S.out.h9 1
  have z2 := hp_frozen S.out.h9 2
  have z3 := hp_frozen S.out.h9 3
  have c0 : u5.cell? ⟨b9, 0, none⟩ = some (.int .i64 (-1)) := hp_cell S.out.h9 0
  have c1 : u5.cell? ⟨b9, 1, none⟩ = some (.int .i64 0) := hp_cell S.out.h9 1
  have c2 : u5.cell? ⟨b9, 2, none⟩ = some (.int .i64 0) := hp_cell S.out.h9 2
  have c10 : u5.cell? ⟨b10, 0, none⟩ = some (.bool true) := hp_cell S.out.h10 0
  go_upto_region 22 with fail
  go_loopg [102] 1 (fun gm s102 wx => gm = 1 ∧ s102 = .int .i64 0 ∧ u5 = wx)
  case atStart => exact ⟨rfl, rfl, rfl⟩
  case round =>
  obtain ⟨rfl, rfl, rfl⟩ := hrel
  have c3 : u5.cell? ⟨b9, 3, none⟩ = some (.slice none 0 0) := hp_cell S.out.h9 3
  have q6 := hp_lt S.out.h6
  have d0 : u5.cell? ⟨b6, 0, none⟩ = some (.int .i64 0) := hp_cell S.out.h6 0
  have d1 : u5.cell? ⟨b6, 1, none⟩ = some (.int .i64 0) := hp_cell S.out.h6 1
  have d2 : u5.cell? ⟨b6, 2, none⟩ = some (.int .i64 0) := hp_cell S.out.h6 2
  have d3 : u5.cell? ⟨b6, 3, none⟩ = some (.slice none 0 0) := hp_cell S.out.h6 3
  have e0 := hp_frozen S.out.h6 0
  have e1 := hp_frozen S.out.h6 1
  have e2 := hp_frozen S.out.h6 2
  have e3 := hp_frozen S.out.h6 3
  have p0 := hp_put (cs' := #[.int .i64 (-1), .int .i64 0, .int .i64 0, .slice none 0 0]) S.out.h6 0 (.int .i64 (-1)) (by simp)
  have p1 := hp_put (cs' := #[.int .i64 (-1), .int .i64 0, .int .i64 0, .slice none 0 0]) p0 1 (.int .i64 0) (by simp)
  have p2 := hp_put (cs' := #[.int .i64 (-1), .int .i64 0, .int .i64 0, .slice none 0 0]) p1 2 (.int .i64 0) (by simp)
  have p3 := hp_put (cs' := #[.int .i64 (-1), .int .i64 0, .int .i64 0, .slice none 0 0]) p2 3 (.slice none 0 0) (by simp)
  have Q := Lib.hid p3
  have bl := (((S.out.bl.setCell (p := ⟨b6, 0, none⟩) S.out.d.2.1 (.int .i64 (-1))).setCell (p := ⟨b6, 1, none⟩) S.out.d.2.1 (.int .i64 0)).setCell (p := ⟨b6, 2, none⟩) S.out.d.2.1 (.int .i64 0)).setCell (p := ⟨b6, 3, none⟩) S.out.d.2.1 (.slice none 0 0)
  have BL := Lib.hid bl
  clear p0 p1 p2 p3 bl
  go_wp2_with fail
  generalize World.setCell _ _ _ = w9 at Q BL ⊢
  have r0 := hp_cell Q.out 0
  have r1 := hp_cell Q.out 1
  have r2 := hp_cell Q.out 2
  have r3 := hp_cell Q.out 3
  refine bodyPost_ret (by simp [results, Try.results15, go_sem, r0, r1, r2, r3]; try rfl) rfl ?_
  exact ⟨rfl, BL.out⟩
set_option maxRecDepth 100000 in
set_option maxHeartbeats 8000000 in
theorem shape_33 (g : Nat) (w : World) (h : w.heap[g]? = some (.cells (valsC [0, 0, 0, 0, 0]).toArray 53 (0, 0))) : Calls Try.prog 15 #[.int .u8 3, .int .i64 3, .slice (some ⟨g, 0, none⟩) 5 5] w fun e w' => e = .returned (.tuple #[.agg #[.int .i64 (-1), .int .i64 0, .int .i64 0, .slice none 0 0], .int .i64 0]) ∧ Below w.heap.size w w' := by
  have ET := Lib.hid (show tvI 3 3 = 5 by kernel_rfl)
  have OKV := Lib.hid (show ∀ x ∈ [0, 0, 0, 0, 0], W64 x ∧ rightB x = true from fun x hx => by rw [(by simpa using hx : x = 0)]; exact ⟨by constructor <;> decide, by kernel_rfl⟩)
  have H := Lib.hid h
  have HA := Lib.hid ((Below.refl w.heap.size w).alloc (Nat.le_refl _) (.cells #[.int .i64 0, .int .i64 0, .int .i64 0, .slice none 0 0] 42))
  have HT := Lib.hid (by have := ctv 3 3 (w.alloc (.cells #[.int .i64 0, .int .i64 0, .int .i64 0, .slice none 0 0] 42)); rw [ET.out] at this; exact this)
  clear h
  go_enter Try.func15, Try.ntmps15
  go_upto_region 2 with (go_at_call 12; refine HT.out.mono ?_; rintro e w1 ⟨rfl, hb⟩; have HB := Lib.hid hb; clear hb)
  have G1 := Lib.hid (hp_below (hp_below H.out HA.out) HB.out)
  have X6 := Lib.hid (hp_below (heap_alloc_new w (.cells #[.int .i64 0, .int .i64 0, .int .i64 0, .slice none 0 0] 42)) HB.out)
  have B1 := Lib.hid (HA.out.trans (HB.out.mono HA.out.size))
  have HSZ := Lib.hid (show w.heap.size + 1 ≤ w1.heap.size by have := HB.out.size; simp at this; omega)
  clear HA HT HB H
  have HC := Lib.hid (containsV g [0, 0, 0, 0, 0] (by simp) OKV.out (w1.alloc (.cells #[.int .i64 (-1), .int .i64 0, .int .i64 0, .slice none 0 0] 42)) (hp_alloc G1.out _))
  go_upto_region 8 with (go_at_call 35; refine HC.out.mono ?_; rintro e w' ⟨rfl, rfl⟩)
  have S : Hid (ShK w ((w1.alloc (.cells #[.int .i64 (-1), .int .i64 0, .int .i64 0, .slice none 0 0] 42)).alloc (.cells #[.bool true] 4)) g w.heap.size w1.heap.size (w1.heap.size + 1) [0, 0, 0, 0, 0] #[.int .i64 (-1), .int .i64 0, .int .i64 0, .slice none 0 0]) := Lib.hid ⟨hp_alloc (hp_alloc G1.out _) _, hp_alloc (hp_alloc X6.out _) _, hp_alloc (heap_alloc_new w1 _) _, (congrArg _ (by simp)).trans (heap_alloc_new (w1.alloc (.cells #[.int .i64 (-1), .int .i64 0, .int .i64 0, .slice none 0 0] 42)) _), ⟨by have := HSZ.out; omega, Nat.le_refl _, by have := HSZ.out; omega, by have := HSZ.out; omega⟩, (B1.out.alloc B1.out.size _).alloc (by have := B1.out.size; simp; omega) _⟩
  clear HC G1 X6 B1
  generalize World.alloc _ _ = w3 at S ⊢
  obtain ⟨b6, hb6⟩ : ∃ b, w.heap.size = b := ⟨_, rfl⟩
  obtain ⟨b10, hb10⟩ : ∃ b, w1.heap.size + 1 = b := ⟨_, rfl⟩
  obtain ⟨b9, hb9⟩ : ∃ b, w1.heap.size = b := ⟨_, rfl⟩
  rw [hb10, hb9, hb6] at S
  try rw [hb10]
  try rw [hb9]
  try rw [hb6]
  clear hb10 hb9 hb6 HSZ
  have n1 : b9 ≠ b10 := hp_ne S.out.h9 S.out.h10 (by decide)
  have n2 : b10 ≠ b9 := fun e => n1 e.symm
  have n3 : g ≠ b10 := hp_ne S.out.hg S.out.h10 (by decide)
  have n4 : b10 ≠ g := fun e => n3 e.symm
  have n5 : g ≠ b9 := hp_ne S.out.hg S.out.h9 (by decide)
  have n6 : b9 ≠ g := fun e => n5 e.symm
  have n7 : b6 ≠ b9 := S.out.d.1
  have n8 : b9 ≠ b6 := fun e => n7 e.symm
  have y9 := hp_lt S.out.h9
  have yg := hp_lt S.out.hg
  have y10 := hp_lt S.out.h10
  have v0 : w3.cell? ⟨g, 0, none⟩ = some (.int .u64 0) := vc_at S.out.hg rfl
  have v1 : w3.cell? ⟨g, 1, none⟩ = some (.int .u64 0) := vc_at S.out.hg rfl
  have z0 := hp_frozen S.out.h9 0
  have z1 := hp_frozen S.out.h9 1
  have z2 := hp_frozen S.out.h9 2
  have z3 := hp_frozen S.out.h9 3
  have c0 : w3.cell? ⟨b9, 0, none⟩ = some (.int .i64 (-1)) := hp_cell S.out.h9 0
  have c1 : w3.cell? ⟨b9, 1, none⟩ = some (.int .i64 0) := hp_cell S.out.h9 1
  have c2 : w3.cell? ⟨b9, 2, none⟩ = some (.int .i64 0) := hp_cell S.out.h9 2
  have HAL := Lib.hid (fun n => (also_any n b10 w3 S.out.h10).mono (R' := fun e w' => e = .returned (.int .i64 n) ∧ ShK w w' g b6 b9 b10 [0, 0, 0, 0, 0] #[.int .i64 (-1), .int .i64 0, .int .i64 0, .slice none 0 0]) (fun e w' hh => ⟨hh.1, by rw [← hh.2]; exact S.out.ok⟩))
  go_upto_region 19 with (first | (go_at_call 39; refine (cwhole0 (3) (by decide) _).mono ?_; rintro e w' ⟨rfl, rfl⟩) | (go_at_call 38; refine (HAL.out _).mono ?_; rintro e u4 ⟨rfl, hS⟩; have SA := Lib.hid hS; clear hS n1 n2 n3 n4 n5 n6 n7 n8 y9 yg y10 v0 v1 z0 z1 z2 z3 c0 c1 c2; have n1 : b9 ≠ b10 := hp_ne SA.out.h9 SA.out.h10 (by decide); have n2 : b10 ≠ b9 := fun e => n1 e.symm; have n3 : g ≠ b10 := hp_ne SA.out.hg SA.out.h10 (by decide); have n4 : b10 ≠ g := fun e => n3 e.symm; have n5 : g ≠ b9 := hp_ne SA.out.hg SA.out.h9 (by decide); have n6 : b9 ≠ g := fun e => n5 e.symm; have n7 : b6 ≠ b9 := SA.out.d.1; have n8 : b9 ≠ b6 := fun e => n7 e.symm; have y9 := hp_lt SA.out.h9; have yg := hp_lt SA.out.hg; have y10 := hp_lt SA.out.h10; have v0 : u4.cell? ⟨g, 0, none⟩ = some (.int .u64 0) := vc_at SA.out.hg rfl; have v1 : u4.cell? ⟨g, 1, none⟩ = some (.int .u64 0) := vc_at SA.out.hg rfl; have z0 := hp_frozen SA.out.h9 0; have z1 := hp_frozen SA.out.h9 1; have z2 := hp_frozen SA.out.h9 2; have z3 := hp_frozen SA.out.h9 3; have c0 : u4.cell? ⟨b9, 0, none⟩ = some (.int .i64 (-1)) := hp_cell SA.out.h9 0; have c1 : u4.cell? ⟨b9, 1, none⟩ = some (.int .i64 0) := hp_cell SA.out.h9 1; have c2 : u4.cell? ⟨b9, 2, none⟩ = some (.int .i64 0) := hp_cell SA.out.h9 2))
  replace S := SA
  clear HAL SA
  clear n1 n2 n3 n4 n5 n6 n7 n8 y9 yg y10 v0 v1 z0 z1 z2 z3 c0 c1 c2
  have n1 : b9 ≠ b10 := hp_ne S.out.h9 S.out.h10 (by decide)
  have n2 : b10 ≠ b9 := fun e => n1 e.symm
  have n3 : g ≠ b10 := hp_ne S.out.hg S.out.h10 (by decide)
  have n4 : b10 ≠ g := fun e => n3 e.symm
  have n5 : g ≠ b9 := hp_ne S.out.hg S.out.h9 (by decide)
  have n6 : b9 ≠ g := fun e => n5 e.symm
  have n7 : b6 ≠ b9 := S.out.d.1
  have n8 : b9 ≠ b6 := fun e => n7 e.symm
  have y9 := hp_lt S.out.h9
  have yg := hp_lt S.out.hg
  have y10 := hp_lt S.out.h10
  have v0 : u4.cell? ⟨g, 0, none⟩ = some (.int .u64 0) := vc_at S.out.hg rfl
  have v1 : u4.cell? ⟨g, 1, none⟩ = some (.int .u64 0) := vc_at S.out.hg rfl
  have z0 := hp_frozen S.out.h9 0
  have z1 := hp_frozen S.out.h9 1
  have z2 := hp_frozen S.out.h9 2
  have z3 := hp_frozen S.out.h9 3
  have c0 : u4.cell? ⟨b9, 0, none⟩ = some (.int .i64 (-1)) := hp_cell S.out.h9 0
  have c1 : u4.cell? ⟨b9, 1, none⟩ = some (.int .i64 0) := hp_cell S.out.h9 1
  have c2 : u4.cell? ⟨b9, 2, none⟩ = some (.int .i64 0) := hp_cell S.out.h9 2
  have HAL := Lib.hid (fun n => (also_any n b10 u4 S.out.h10).mono (R' := fun e w' => e = .returned (.int .i64 n) ∧ ShK w w' g b6 b9 b10 [0, 0, 0, 0, 0] #[.int .i64 (-1), .int .i64 0, .int .i64 0, .slice none 0 0]) (fun e w' hh => ⟨hh.1, by rw [← hh.2]; exact S.out.ok⟩))
  go_upto_region 20 with (first | (go_at_call 39; refine (cwhole0 (2) (by decide) _).mono ?_; rintro e w' ⟨rfl, rfl⟩) | (go_at_call 38; refine (HAL.out _).mono ?_; rintro e u5 ⟨rfl, hS⟩; have SA := Lib.hid hS; clear hS n1 n2 n3 n4 n5 n6 n7 n8 y9 yg y10 v0 v1 z0 z1 z2 z3 c0 c1 c2; have n1 : b9 ≠ b10 := hp_ne SA.out.h9 SA.out.h10 (by decide); have n2 : b10 ≠ b9 := fun e => n1 e.symm; have n3 : g ≠ b10 := hp_ne SA.out.hg SA.out.h10 (by decide); have n4 : b10 ≠ g := fun e => n3 e.symm; have n5 : g ≠ b9 := hp_ne SA.out.hg SA.out.h9 (by decide); have n6 : b9 ≠ g := fun e => n5 e.symm; have n7 : b6 ≠ b9 := SA.out.d.1; have n8 : b9 ≠ b6 := fun e => n7 e.symm; have y9 := hp_lt SA.out.h9; have yg := hp_lt SA.out.hg; have y10 := hp_lt SA.out.h10; have v0 : u5.cell? ⟨g, 0, none⟩ = some (.int .u64 0) := vc_at SA.out.hg rfl; have v1 : u5.cell? ⟨g, 1, none⟩ = some (.int .u64 0) := vc_at SA.out.hg rfl; have z0 := hp_frozen SA.out.h9 0; have z1 := hp_frozen SA.out.h9 1; have z2 := hp_frozen SA.out.h9 2; have z3 := hp_frozen SA.out.h9 3; have c0 : u5.cell? ⟨b9, 0, none⟩ = some (.int .i64 (-1)) := hp_cell SA.out.h9 0; have c1 : u5.cell? ⟨b9, 1, none⟩ = some (.int .i64 0) := hp_cell SA.out.h9 1; have c2 : u5.cell? ⟨b9, 2, none⟩ = some (.int .i64 0) := hp_cell SA.out.h9 2))
  replace S := SA
  clear HAL SA
  clear n1 n2 n3 n4 n5 n6 n7 n8 y9 yg y10 v0 v1 z0 z1 z2 z3 c0 c1 c2
  have n1 : b9 ≠ b10 := hp_ne S.out.h9 S.out.h10 (by decide)
  have n2 : b10 ≠ b9 := fun e => n1 e.symm
  have n3 : g ≠ b10 := hp_ne S.out.hg S.out.h10 (by decide)
  have n4 : b10 ≠ g := fun e => n3 e.symm
  have n5 : g ≠ b9 := hp_ne S.out.hg S.out.h9 (by decide)
  have n6 : b9 ≠ g := fun e => n5 e.symm
  have n7 : b6 ≠ b9 := S.out.d.1
  have n8 : b9 ≠ b6 := fun e => n7 e.symm
  have y9 := hp_lt S.out.h9
  have yg := hp_lt S.out.hg
  have y10 := hp_lt S.out.h10
  have v0 : u5.cell? ⟨g, 0, none⟩ = some (.int .u64 0) := vc_at S.out.hg rfl
  have v1 : u5.cell? ⟨g, 1, none⟩ = some (.int .u64 0) := vc_at S.out.hg rfl
  have z0 := hp_frozen S.out.h9 0
  have z1 := hp_frozen S.out.h9 1
  have z2 := hp_frozen S.out.h9 2
  have z3 := hp_frozen S.out.h9 3
  have c0 : u5.cell? ⟨b9, 0, none⟩ = some (.int .i64 (-1)) := hp_cell S.out.h9 0
  have c1 : u5.cell? ⟨b9, 1, none⟩ = some (.int .i64 0) := hp_cell S.out.h9 1
  have c2 : u5.cell? ⟨b9, 2, none⟩ = some (.int .i64 0) := hp_cell S.out.h9 2
  have c10 : u5.cell? ⟨b10, 0, none⟩ = some (.bool true) := hp_cell S.out.h10 0
  go_upto_region 22 with fail
  go_loopg [102] 1 (fun gm s102 wx => gm = 1 ∧ s102 = .int .i64 0 ∧ u5 = wx)
  case atStart => exact ⟨rfl, rfl, rfl⟩
  case round =>
  obtain ⟨rfl, rfl, rfl⟩ := hrel
  have c3 : u5.cell? ⟨b9, 3, none⟩ = some (.slice none 0 0) := hp_cell S.out.h9 3
  have q6 := hp_lt S.out.h6
  have d0 : u5.cell? ⟨b6, 0, none⟩ = some (.int .i64 0) := hp_cell S.out.h6 0
  have d1 : u5.cell? ⟨b6, 1, none⟩ = some (.int .i64 0) := hp_cell S.out.h6 1
  have d2 : u5.cell? ⟨b6, 2, none⟩ = some (.int .i64 0) := hp_cell S.out.h6 2
  have d3 : u5.cell? ⟨b6, 3, none⟩ = some (.slice none 0 0) := hp_cell S.out.h6 3
  have e0 := hp_frozen S.out.h6 0
  have e1 := hp_frozen S.out.h6 1
  have e2 := hp_frozen S.out.h6 2
  have e3 := hp_frozen S.out.h6 3
  have p0 := hp_put (cs' := #[.int .i64 (-1), .int .i64 0, .int .i64 0, .slice none 0 0]) S.out.h6 0 (.int .i64 (-1)) (by simp)
  have p1 := hp_put (cs' := #[.int .i64 (-1), .int .i64 0, .int .i64 0, .slice none 0 0]) p0 1 (.int .i64 0) (by simp)
  have p2 := hp_put (cs' := #[.int .i64 (-1), .int .i64 0, .int .i64 0, .slice none 0 0]) p1 2 (.int .i64 0) (by simp)
  have p3 := hp_put (cs' := #[.int .i64 (-1), .int .i64 0, .int .i64 0, .slice none 0 0]) p2 3 (.slice none 0 0) (by simp)
  have Q := Lib.hid p3
  have bl := (((S.out.bl.setCell (p := ⟨b6, 0, none⟩) S.out.d.2.1 (.int .i64 (-1))).setCell (p := ⟨b6, 1, none⟩) S.out.d.2.1 (.int .i64 0)).setCell (p := ⟨b6, 2, none⟩) S.out.d.2.1 (.int .i64 0)).setCell (p := ⟨b6, 3, none⟩) S.out.d.2.1 (.slice none 0 0)
  have BL := Lib.hid bl
  clear p0 p1 p2 p3 bl
  go_wp2_with fail
  generalize World.setCell _ _ _ = w9 at Q BL ⊢
  have r0 := hp_cell Q.out 0
  have r1 := hp_cell Q.out 1
  have r2 := hp_cell Q.out 2
  have r3 := hp_cell Q.out 3
  refine bodyPost_ret (by simp [results, Try.results15, go_sem, r0, r1, r2, r3]; try rfl) rfl ?_
  exact ⟨rfl, BL.out⟩
set_option maxRecDepth 100000 in
set_option maxHeartbeats 8000000 in
theorem shape_34 (g : Nat) (w : World) (h : w.heap[g]? = some (.cells (valsC [0, 0, 0, 0, 0, 0]).toArray 53 (0, 0))) : Calls Try.prog 15 #[.int .u8 3, .int .i64 4, .slice (some ⟨g, 0, none⟩) 6 6] w fun e w' => e = .returned (.tuple #[.agg #[.int .i64 (-1), .int .i64 0, .int .i64 0, .slice none 0 0], .int .i64 0]) ∧ Below w.heap.size w w' := by
  have ET := Lib.hid (show tvI 3 4 = 6 by kernel_rfl)
  have OKV := Lib.hid (show ∀ x ∈ [0, 0, 0, 0, 0, 0], W64 x ∧ rightB x = true from fun x hx => by rw [(by simpa using hx : x = 0)]; exact ⟨by constructor <;> decide, by kernel_rfl⟩)
  have H := Lib.hid h
  have HA := Lib.hid ((Below.refl w.heap.size w).alloc (Nat.le_refl _) (.cells #[.int .i64 0, .int .i64 0, .int .i64 0, .slice none 0 0] 42))
  have HT := Lib.hid (by have := ctv 3 4 (w.alloc (.cells #[.int .i64 0, .int .i64 0, .int .i64 0, .slice none 0 0] 42)); rw [ET.out] at this; exact this)
  clear h
  go_enter Try.func15, Try.ntmps15
  go_upto_region 2 with (go_at_call 12; refine HT.out.mono ?_; rintro e w1 ⟨rfl, hb⟩; have HB := Lib.hid hb; clear hb)
  have G1 := Lib.hid (hp_below (hp_below H.out HA.out) HB.out)
  have X6 := Lib.hid (hp_below (heap_alloc_new w (.cells #[.int .i64 0, .int .i64 0, .int .i64 0, .slice none 0 0] 42)) HB.out)
  have B1 := Lib.hid (HA.out.trans (HB.out.mono HA.out.size))
  have HSZ := Lib.hid (show w.heap.size + 1 ≤ w1.heap.size by have := HB.out.size; simp at this; omega)
  clear HA HT HB H
  have HC := Lib.hid (containsV g [0, 0, 0, 0, 0, 0] (by simp) OKV.out (w1.alloc (.cells #[.int .i64 (-1), .int .i64 0, .int .i64 0, .slice none 0 0] 42)) (hp_alloc G1.out _))
  go_upto_region 8 with (go_at_call 35; refine HC.out.mono ?_; rintro e w' ⟨rfl, rfl⟩)
  have S : Hid (ShK w ((w1.alloc (.cells #[.int .i64 (-1), .int .i64 0, .int .i64 0, .slice none 0 0] 42)).alloc (.cells #[.bool true] 4)) g w.heap.size w1.heap.size (w1.heap.size + 1) [0, 0, 0, 0, 0, 0] #[.int .i64 (-1), .int .i64 0, .int .i64 0, .slice none 0 0]) := Lib.hid ⟨hp_alloc (hp_alloc G1.out _) _, hp_alloc (hp_alloc X6.out _) _, hp_alloc (heap_alloc_new w1 _) _, (congrArg _ (by simp)).trans (heap_alloc_new (w1.alloc (.cells #[.int .i64 (-1), .int .i64 0, .int .i64 0, .slice none 0 0] 42)) _), ⟨by have := HSZ.out; omega, Nat.le_refl _, by have := HSZ.out; omega, by have := HSZ.out; omega⟩, (B1.out.alloc B1.out.size _).alloc (by have := B1.out.size; simp; omega) _⟩
  clear HC G1 X6 B1
  generalize World.alloc _ _ = w3 at S ⊢
  obtain ⟨b6, hb6⟩ : ∃ b, w.heap.size = b := ⟨_, rfl⟩
  obtain ⟨b10, hb10⟩ : ∃ b, w1.heap.size + 1 = b := ⟨_, rfl⟩
  obtain ⟨b9, hb9⟩ : ∃ b, w1.heap.size = b := ⟨_, rfl⟩
  rw [hb10, hb9, hb6] at S
  try rw [hb10]
  try rw [hb9]
  try rw [hb6]
  clear hb10 hb9 hb6 HSZ
  have n1 : b9 ≠ b10 := hp_ne S.out.h9 S.out.h10 (by decide)
  have n2 : b10 ≠ b9 := fun e => n1 e.symm
  have n3 : g ≠ b10 := hp_ne S.out.hg S.out.h10 (by decide)
  have n4 : b10 ≠ g := fun e => n3 e.symm
  have n5 : g ≠ b9 := hp_ne S.out.hg S.out.h9 (by decide)
  have n6 : b9 ≠ g := fun e => n5 e.symm
  have n7 : b6 ≠ b9 := S.out.d.1
  have n8 : b9 ≠ b6 := fun e => n7 e.symm
  have y9 := hp_lt S.out.h9
  have yg := hp_lt S.out.hg
  have y10 := hp_lt S.out.h10
  have v0 : w3.cell? ⟨g, 0, none⟩ = some (.int .u64 0) := vc_at S.out.hg rfl
  have v1 : w3.cell? ⟨g, 1, none⟩ = some (.int .u64 0) := vc_at S.out.hg rfl
  have z0 := hp_frozen S.out.h9 0
  have z1 := hp_frozen S.out.h9 1
  have z2 := hp_frozen S.out.h9 2
  have z3 := hp_frozen S.out.h9 3
  have c0 : w3.cell? ⟨b9, 0, none⟩ = some (.int .i64 (-1)) := hp_cell S.out.h9 0
  have c1 : w3.cell? ⟨b9, 1, none⟩ = some (.int .i64 0) := hp_cell S.out.h9 1
  have c2 : w3.cell? ⟨b9, 2, none⟩ = some (.int .i64 0) := hp_cell S.out.h9 2
  have HAL := Lib.hid (fun n => (also_any n b10 w3 S.out.h10).mono (R' := fun e w' => e = .returned (.int .i64 n) ∧ ShK w w' g b6 b9 b10 [0, 0, 0, 0, 0, 0] #[.int .i64 (-1), .int .i64 0, .int .i64 0, .slice none 0 0]) (fun e w' hh => ⟨hh.1, by rw [← hh.2]; exact S.out.ok⟩))
  go_upto_region 19 with (first | (go_at_call 39; refine (cwhole0 (4) (by decide) _).mono ?_; rintro e w' ⟨rfl, rfl⟩) | (go_at_call 38; refine (HAL.out _).mono ?_; rintro e u4 ⟨rfl, hS⟩; have SA := Lib.hid hS; clear hS n1 n2 n3 n4 n5 n6 n7 n8 y9 yg y10 v0 v1 z0 z1 z2 z3 c0 c1 c2; have n1 : b9 ≠ b10 := hp_ne SA.out.h9 SA.out.h10 (by decide); have n2 : b10 ≠ b9 := fun e => n1 e.symm; have n3 : g ≠ b10 := hp_ne SA.out.hg SA.out.h10 (by decide); have n4 : b10 ≠ g := fun e => n3 e.symm; have n5 : g ≠ b9 := hp_ne SA.out.hg SA.out.h9 (by decide); have n6 : b9 ≠ g := fun e => n5 e.symm; have n7 : b6 ≠ b9 := SA.out.d.1; have n8 : b9 ≠ b6 := fun e => n7 e.symm; have y9 := hp_lt SA.out.h9; have yg := hp_lt SA.out.hg; have y10 := hp_lt SA.out.h10; have v0 : u4.cell? ⟨g, 0, none⟩ = some (.int .u64 0) := vc_at SA.out.hg rfl; have v1 : u4.cell? ⟨g, 1, none⟩ = some (.int .u64 0) := vc_at SA.out.hg rfl; have z0 := hp_frozen SA.out.h9 0; have z1 := hp_frozen SA.out.h9 1; have z2 := hp_frozen SA.out.h9 2; have z3 := hp_frozen SA.out.h9 3; have c0 : u4.cell? ⟨b9, 0, none⟩ = some (.int .i64 (-1)) := hp_cell SA.out.h9 0; have c1 : u4.cell? ⟨b9, 1, none⟩ = some (.int .i64 0) := hp_cell SA.out.h9 1; have c2 : u4.cell? ⟨b9, 2, none⟩ = some (.int .i64 0) := hp_cell SA.out.h9 2))
  replace S := SA
  clear HAL SA
  clear n1 n2 n3 n4 n5 n6 n7 n8 y9 yg y10 v0 v1 z0 z1 z2 z3 c0 c1 c2
  have n1 : b9 ≠ b10 := hp_ne S.out.h9 S.out.h10 (by decide)
  have n2 : b10 ≠ b9 := fun e => n1 e.symm
  have n3 : g ≠ b10 := hp_ne S.out.hg S.out.h10 (by decide)
  have n4 : b10 ≠ g := fun e => n3 e.symm
  have n5 : g ≠ b9 := hp_ne S.out.hg S.out.h9 (by decide)
  have n6 : b9 ≠ g := fun e => n5 e.symm
  have n7 : b6 ≠ b9 := S.out.d.1
  have n8 : b9 ≠ b6 := fun e => n7 e.symm
  have y9 := hp_lt S.out.h9
  have yg := hp_lt S.out.hg
  have y10 := hp_lt S.out.h10
  have v0 : u4.cell? ⟨g, 0, none⟩ = some (.int .u64 0) := vc_at S.out.hg rfl
  have v1 : u4.cell? ⟨g, 1, none⟩ = some (.int .u64 0) := vc_at S.out.hg rfl
  have z0 := hp_frozen S.out.h9 0
  have z1 := hp_frozen S.out.h9 1
  have z2 := hp_frozen S.out.h9 2
  have z3 := hp_frozen S.out.h9 3
  have c0 : u4.cell? ⟨b9, 0, none⟩ = some (.int .i64 (-1)) := hp_cell S.out.h9 0
  have c1 : u4.cell? ⟨b9, 1, none⟩ = some (.int .i64 0) := hp_cell S.out.h9 1
  have c2 : u4.cell? ⟨b9, 2, none⟩ = some (.int .i64 0) := hp_cell S.out.h9 2
  have HAL := Lib.hid (fun n => (also_any n b10 u4 S.out.h10).mono (R' := fun e w' => e = .returned (.int .i64 n) ∧ ShK w w' g b6 b9 b10 [0, 0, 0, 0, 0, 0] #[.int .i64 (-1), .int .i64 0, .int .i64 0, .slice none 0 0]) (fun e w' hh => ⟨hh.1, by rw [← hh.2]; exact S.out.ok⟩))
  go_upto_region 20 with (first | (go_at_call 39; refine (cwhole0 (3) (by decide) _).mono ?_; rintro e w' ⟨rfl, rfl⟩) | (go_at_call 38; refine (HAL.out _).mono ?_; rintro e u5 ⟨rfl, hS⟩; have SA := Lib.hid hS; clear hS n1 n2 n3 n4 n5 n6 n7 n8 y9 yg y10 v0 v1 z0 z1 z2 z3 c0 c1 c2; have n1 : b9 ≠ b10 := hp_ne SA.out.h9 SA.out.h10 (by decide); have n2 : b10 ≠ b9 := fun e => n1 e.symm; have n3 : g ≠ b10 := hp_ne SA.out.hg SA.out.h10 (by decide); have n4 : b10 ≠ g := fun e => n3 e.symm; have n5 : g ≠ b9 := hp_ne SA.out.hg SA.out.h9 (by decide); have n6 : b9 ≠ g := fun e => n5 e.symm; have n7 : b6 ≠ b9 := SA.out.d.1; have n8 : b9 ≠ b6 := fun e => n7 e.symm; have y9 := hp_lt SA.out.h9; have yg := hp_lt SA.out.hg; have y10 := hp_lt SA.out.h10; have v0 : u5.cell? ⟨g, 0, none⟩ = some (.int .u64 0) := vc_at SA.out.hg rfl; have v1 : u5.cell? ⟨g, 1, none⟩ = some (.int .u64 0) := vc_at SA.out.hg rfl; have z0 := hp_frozen SA.out.h9 0; have z1 := hp_frozen SA.out.h9 1; have z2 := hp_frozen SA.out.h9 2; have z3 := hp_frozen SA.out.h9 3; have c0 : u5.cell? ⟨b9, 0, none⟩ = some (.int .i64 (-1)) := hp_cell SA.out.h9 0; have c1 : u5.cell? ⟨b9, 1, none⟩ = some (.int .i64 0) := hp_cell SA.out.h9 1; have c2 : u5.cell? ⟨b9, 2, none⟩ = some (.int .i64 0) := hp_cell SA.out.h9 2))
  replace S := SA
  clear HAL SA
  clear n1 n2 n3 n4 n5 n6 n7 n8 y9 yg y10 v0 v1 z0 z1 z2 z3 c0 c1 c2
  have n1 : b9 ≠ b10 := hp_ne S.out.h9 S.out.h10 (by decide)
  have n2 : b10 ≠ b9 := fun e => n1 e.symm
  have n3 : g ≠ b10 := hp_ne S.out.hg S.out.h10 (by decide)
  have n4 : b10 ≠ g := fun e => n3 e.symm
  have n5 : g ≠ b9 := hp_ne S.out.hg S.out.h9 (by decide)
  have n6 : b9 ≠ g := fun e => n5 e.symm
  have n7 : b6 ≠ b9 := S.out.d.1
  have n8 : b9 ≠ b6 := fun e => n7 e.symm
  have y9 := hp_lt S.out.h9
  have yg := hp_lt S.out.hg
  have y10 := hp_lt S.out.h10
  have v0 : u5.cell? ⟨g, 0, none⟩ = some (.int .u64 0) := vc_at S.out.hg rfl
  have v1 : u5.cell? ⟨g, 1, none⟩ = some (.int .u64 0) := vc_at S.out.hg rfl
  have z0 := hp_frozen S.out.h9 0
  have z1 := hp_frozen S.out.h9 1
  have z2 := hp_frozen S.out.h9 2
  have z3 := hp_frozen S.out.h9 3
  have c0 : u5.cell? ⟨b9, 0, none⟩ = some (.int .i64 (-1)) := hp_cell S.out.h9 0
  have c1 : u5.cell? ⟨b9, 1, none⟩ = some (.int .i64 0) := hp_cell S.out.h9 1
  have c2 : u5.cell? ⟨b9, 2, none⟩ = some (.int .i64 0) := hp_cell S.out.h9 2
  have c10 : u5.cell? ⟨b10, 0, none⟩ = some (.bool true) := hp_cell S.out.h10 0
  go_upto_region 22 with fail
  go_loopg [102] 1 (fun gm s102 wx => gm = 1 ∧ s102 = .int .i64 0 ∧ u5 = wx)
  case atStart => exact ⟨rfl, rfl, rfl⟩
  case round =>
  obtain ⟨rfl, rfl, rfl⟩ := hrel
  have c3 : u5.cell? ⟨b9, 3, none⟩ = some (.slice none 0 0) := hp_cell S.out.h9 3
  have q6 := hp_lt S.out.h6
  have d0 : u5.cell? ⟨b6, 0, none⟩ = some (.int .i64 0) := hp_cell S.out.h6 0
  have d1 : u5.cell? ⟨b6, 1, none⟩ = some (.int .i64 0) := hp_cell S.out.h6 1
  have d2 : u5.cell? ⟨b6, 2, none⟩ = some (.int .i64 0) := hp_cell S.out.h6 2
  have d3 : u5.cell? ⟨b6, 3, none⟩ = some (.slice none 0 0) := hp_cell S.out.h6 3
  have e0 := hp_frozen S.out.h6 0
  have e1 := hp_frozen S.out.h6 1
  have e2 := hp_frozen S.out.h6 2
  have e3 := hp_frozen S.out.h6 3
  have p0 := hp_put (cs' := #[.int .i64 (-1), .int .i64 0, .int .i64 0, .slice none 0 0]) S.out.h6 0 (.int .i64 (-1)) (by simp)
  have p1 := hp_put (cs' := #[.int .i64 (-1), .int .i64 0, .int .i64 0, .slice none 0 0]) p0 1 (.int .i64 0) (by simp)
  have p2 := hp_put (cs' := #[.int .i64 (-1), .int .i64 0, .int .i64 0, .slice none 0 0]) p1 2 (.int .i64 0) (by simp)
  have p3 := hp_put (cs' := #[.int .i64 (-1), .int .i64 0, .int .i64 0, .slice none 0 0]) p2 3 (.slice none 0 0) (by simp)
  have Q := Lib.hid p3
  have bl := (((S.out.bl.setCell (p := ⟨b6, 0, none⟩) S.out.d.2.1 (.int .i64 (-1))).setCell (p := ⟨b6, 1, none⟩) S.out.d.2.1 (.int .i64 0)).setCell (p := ⟨b6, 2, none⟩) S.out.d.2.1 (.int .i64 0)).setCell (p := ⟨b6, 3, none⟩) S.out.d.2.1 (.slice none 0 0)
  have BL := Lib.hid bl
  clear p0 p1 p2 p3 bl
  go_wp2_with fail
  generalize World.setCell _ _ _ = w9 at Q BL ⊢
  have r0 := hp_cell Q.out 0
  have r1 := hp_cell Q.out 1
  have r2 := hp_cell Q.out 2
  have r3 := hp_cell Q.out 3
  refine bodyPost_ret (by simp [results, Try.results15, go_sem, r0, r1, r2, r3]; try rfl) rfl ?_
  exact ⟨rfl, BL.out⟩
end Go.Proofs.Ytmmfadakhnagpaa
