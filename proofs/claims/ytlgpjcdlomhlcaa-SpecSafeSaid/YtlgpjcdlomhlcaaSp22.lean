
/-
  spec's laws: live; lists that are laid by a literal.
-/
import Derived.Test.YtlgpjcdlomhlcaaSp21
import Derived.Test.YtlgpjcdlomhlcaaSp22a
import Derived.Deep.CutBlock
namespace Go.Proofs.Ytlgpjcdlomhlcaa
open Go.RowKit Go.ChangeShapes Go.WideShapes
set_option linter.unusedSimpArgs false
set_option linter.unusedVariables false

def liveL : List Ins3 := [⟨21, 5, 0⟩, ⟨23, 3, 0⟩, ⟨26, 0, 0⟩, ⟨24, 4, 0⟩, ⟨25, 0, 0⟩, ⟨22, 0, 0⟩, ⟨28, 0, 0⟩]
theorem liveB : ocF St.zero [0] (blockF liveL St.zero [0] (fuelF 50).toNat) = ⟨1, ⟨6, [], 0, 0, 0, 0, []⟩, [0], [false], 0⟩ := by kernel_rfl
theorem liveR : runF liveL (fuelF 50).toNat 20 St.zero [0] [] = ⟨1, ⟨6, [], 0, 0, 0, 0, []⟩, [0], [false], 0⟩ := by kernel_rfl
set_option maxRecDepth 20000 in
set_option maxHeartbeats 8000000 in
theorem live_any (w : World) : Calls Try.prog 14 #[] w fun e w' => e = .returned (.bool true) ∧ Below w.heap.size w w' := by
  have X0 := heap_alloc_new w (.cells (insC liveL).toArray 42)
  have b0 := (Below.refl w.heap.size w).alloc (Nat.le_refl _) (.cells (insC liveL).toArray 42)
  go_enter Try.func14, Try.ntmps14
  go_upto_region 2 with fail
  change Code.wp _ _ _ _ (w.alloc (.cells (insC liveL).toArray 42))
  have I1 := Lib.hid (inss_made X0 (by decide) (by decide))
  have B1 := Lib.hid b0
  clear X0 b0
  generalize w.alloc _ = w1 at I1 B1 ⊢
  have l1 := (xn_some I1.out (j := 0) (by decide))
  have l1 := Lib.hid (inAt_lt l1)
  generalize w.heap.size = g at I1 l1 ⊢
  go_upto_region 3 with (first | (go_at_call 22; refine (block_sp liveL 7 (some ⟨g, 0, none⟩) (by decide) (by decide) St.zero zero_ok [0] 50 (by decide) (by decide) (by decide) none 0 none 0 (some ⟨w1.heap.size, 0, none⟩) 1 _ (Src.row (row_nil _ 0) (by decide)) (Src.row (row_nil _ 0) (by decide)) (src_made (l := [0]) (heap_alloc_new w1 _) (by decide) (by decide)) (inss_below I1.out ((Below.refl _ _).alloc (Nat.le_refl _) _))).mono ?_; rintro e w2 hp2; rw [liveB] at hp2; obtain ⟨hb2, A1, c1, A2, c2, A3, c3, Aa, ca, rfl, hat⟩ := hp2; unfold ocC; have B2 := Lib.hid hb2; have T2 := Lib.hid hat; clear hb2 hat))
  obtain ⟨ga, eA, xa, _⟩ := grow_at (vs := []) (v := .bool false) (by exact T2.out.2.2.2.2.1)
  subst eA
  have la := Lib.hid (World.block_lt_of_cell? w2 _ xa)
  have XA := Lib.hid ((World.cell?_of_block (((Below.refl w2.heap.size w2).alloc (Nat.le_refl _) (.cells (ocC ⟨1, ⟨6, [], 0, 0, 0, 0, []⟩, [0], [false], 0⟩ A1 c1 A2 c2 A3 c3 (some ⟨ga, 0, none⟩) ca) 46)).block ga la.out)).trans xa)
  have X3 := Lib.hid (heap_alloc_new w2 (.cells (ocC ⟨1, ⟨6, [], 0, 0, 0, 0, []⟩, [0], [false], 0⟩ A1 c1 A2 c2 A3 c3 (some ⟨ga, 0, none⟩) ca) 46))
  have B3 := Lib.hid (((B1.out.alloc B1.out.size (.cells (valsC [0]).toArray 25)).trans (B2.out.mono (Nat.le_trans B1.out.size (by simp)))).alloc (Nat.le_trans B1.out.size (Nat.le_trans (by simp) B2.out.size)) (.cells (ocC ⟨1, ⟨6, [], 0, 0, 0, 0, []⟩, [0], [false], 0⟩ A1 c1 A2 c2 A3 c3 (some ⟨ga, 0, none⟩) ca) 46))
  have I3 := Lib.hid (inss_below (inss_below (inss_below I1.out ((Below.refl _ _).alloc (Nat.le_refl _) (.cells (valsC [0]).toArray 25))) B2.out) ((Below.refl _ _).alloc (Nat.le_refl _) (.cells (ocC ⟨1, ⟨6, [], 0, 0, 0, 0, []⟩, [0], [false], 0⟩ A1 c1 A2 c2 A3 c3 (some ⟨ga, 0, none⟩) ca) 46)))
  unfold ocC at XA X3 B3 I3
  dsimp only [List.length_nil, List.length_cons] at XA X3 B3 I3
  clear xa la T2 B2 l1
  generalize w2.alloc _ = w3 at XA X3 B3 I3 ⊢
  obtain ⟨g2, hg2⟩ : ∃ x, w2.heap.size = x := ⟨_, rfl⟩
  rw [hg2] at X3 ⊢
  clear hg2 B1 I1
  go_upto_region 4 with (first | (go_at_call 17; refine (run_all liveL 7 (some ⟨g, 0, none⟩) (by decide) (by decide) [0] 50 (by decide) (some ⟨w3.heap.size, 0, none⟩) 1 _ (src_made (l := [0]) (heap_alloc_new w3 _) (by decide) (by decide)) (inss_below I3.out ((Below.refl _ _).alloc (Nat.le_refl _) _))).mono ?_; rintro e w4 hp4; rw [liveR] at hp4; obtain ⟨hb4, E1, e1, E2, e2, E3, e3, Ea, ea, rfl, hat⟩ := hp4; unfold ocC; have B4 := Lib.hid hb4; have T4 := Lib.hid hat; clear hb4 hat))
  have z4 := ((Below.refl w3.heap.size w3).alloc (Nat.le_refl _) (.cells (valsC [0]).toArray 25)).trans (B4.out.mono (by simp))
  have z5 := z4.alloc z4.size (.cells (ocC ⟨1, ⟨6, [], 0, 0, 0, 0, []⟩, [0], [false], 0⟩ E1 e1 E2 e2 E3 e3 Ea ea) 46)
  have X5 := Lib.hid (hp_below X3.out z5)
  have Y5 := Lib.hid (heap_alloc_new w4 (.cells (ocC ⟨1, ⟨6, [], 0, 0, 0, 0, []⟩, [0], [false], 0⟩ E1 e1 E2 e2 E3 e3 Ea ea) 46))
  have B5 := Lib.hid (B3.out.trans (z5.mono B3.out.size))
  have la := World.block_lt_of_cell? w3 _ XA.out
  have XA5 := Lib.hid ((World.cell?_of_block (z5.block ga la)).trans XA.out)
  clear la z4 z5
  unfold ocC at X5 Y5 B5 XA5
  dsimp only [List.length_nil, List.length_cons] at X5 Y5 B5 XA5
  clear B4 T4 X3 B3 I3 XA
  generalize w4.alloc _ = w5 at X5 Y5 B5 XA5 ⊢
  obtain ⟨g4, hg4⟩ : ∃ x, w4.heap.size = x := ⟨_, rfl⟩
  rw [hg4] at Y5 ⊢
  clear hg4
  have x0 : w5.cell? ⟨g2, 0, none⟩ = some (.int .u8 1) := hp_cell X5.out 0; have x1 : w5.cell? ⟨g2, 1, none⟩ = some (.int .i64 6) := hp_cell X5.out 1; have x2 : w5.cell? ⟨g2, 2, none⟩ = some (.slice A1 0 c1) := hp_cell X5.out 2; have x3 : w5.cell? ⟨g2, 3, none⟩ = some (.int .u64 0) := hp_cell X5.out 3; have x4 : w5.cell? ⟨g2, 4, none⟩ = some (.int .u64 0) := hp_cell X5.out 4; have x5 : w5.cell? ⟨g2, 5, none⟩ = some (.int .u64 0) := hp_cell X5.out 5; have x6 : w5.cell? ⟨g2, 6, none⟩ = some (.int .u64 0) := hp_cell X5.out 6; have x7 : w5.cell? ⟨g2, 7, none⟩ = some (.slice A2 0 c2) := hp_cell X5.out 7; have x8 : w5.cell? ⟨g2, 8, none⟩ = some (.slice A3 1 c3) := hp_cell X5.out 8; have x9 : w5.cell? ⟨g2, 9, none⟩ = some (.slice (some ⟨ga, 0, none⟩) 1 ca) := hp_cell X5.out 9; have x10 : w5.cell? ⟨g2, 10, none⟩ = some (.int .i64 0) := hp_cell X5.out 10; have xl := hp_lt X5.out
  have y0 : w5.cell? ⟨g4, 0, none⟩ = some (.int .u8 1) := hp_cell Y5.out 0; have y1 : w5.cell? ⟨g4, 1, none⟩ = some (.int .i64 6) := hp_cell Y5.out 1; have y2 : w5.cell? ⟨g4, 2, none⟩ = some (.slice E1 0 e1) := hp_cell Y5.out 2; have y3 : w5.cell? ⟨g4, 3, none⟩ = some (.int .u64 0) := hp_cell Y5.out 3; have y4 : w5.cell? ⟨g4, 4, none⟩ = some (.int .u64 0) := hp_cell Y5.out 4; have y5 : w5.cell? ⟨g4, 5, none⟩ = some (.int .u64 0) := hp_cell Y5.out 5; have y6 : w5.cell? ⟨g4, 6, none⟩ = some (.int .u64 0) := hp_cell Y5.out 6; have y7 : w5.cell? ⟨g4, 7, none⟩ = some (.slice E2 0 e2) := hp_cell Y5.out 7; have y8 : w5.cell? ⟨g4, 8, none⟩ = some (.slice E3 1 e3) := hp_cell Y5.out 8; have y9 : w5.cell? ⟨g4, 9, none⟩ = some (.slice Ea 1 ea) := hp_cell Y5.out 9; have y10 : w5.cell? ⟨g4, 10, none⟩ = some (.int .i64 0) := hp_cell Y5.out 10; have yl := hp_lt Y5.out
  have xa := XA5.out
  have la := World.block_lt_of_cell? w5 _ XA5.out
  go_wp2_with fail
  go_ret
  exact ⟨rfl, B5.out⟩
end Go.Proofs.Ytlgpjcdlomhlcaa
