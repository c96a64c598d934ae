
/-
  TopFirst: the walk.
-/
import Derived.Test.YtlgpjcdlomhlcaaSp26
import Derived.Deep.CutBlock
namespace Go.Proofs.Ytlgpjcdlomhlcaa
open Go.RowKit Go.ChangeShapes Go.WideShapes
set_option linter.unusedSimpArgs false
set_option linter.unusedVariables false

theorem nrow_made (w : World) (base : Nat) (l : List Ins3) (hok : ∀ x ∈ l, x.ok) (hb : base ≤ w.heap.size) (hl : l.length ≤ 1000) : NRow (w.alloc (.cells (insC l).toArray 42)) base (some ⟨w.heap.size, 0, none⟩) l.length l :=
  ⟨⟨insC_len l, .inr ⟨w.heap.size, l.length, (insC l).toArray, rfl, hb, heap_alloc_new w _, Nat.le_refl _, by unfold maxLen; omega, by simp [insC_len], by rw [List.take_of_length_le (by simp [insC_len])]⟩⟩, hok⟩
theorem made_cells (w : World) (l : List Ins3) : ∀ (j : Nat) (u : Value), (insC l)[j]? = some u → (w.alloc (.cells (insC l).toArray 42)).cell? (Addr.add ⟨w.heap.size, 0, none⟩ j) = some u := fun j u hu => by
  rw [add_at, Nat.zero_add, hp_cell (heap_alloc_new w _)]
  simpa using hu
/-- A row of instructions that grows. -/
structure RI (W w : World) (A : Option Addr) (c : Nat) (l : List Ins3) : Prop where
  row : NRow w W.heap.size A c l
  bl : Below W.heap.size W w
theorem RI.alloc {W w : World} {A : Option Addr} {c : Nat} {l : List Ins3} (h : RI W w A c l) (o : Obj) : RI W (w.alloc o) A c l := ⟨nrow_below h.row ((Below.refl _ _).alloc (Nat.le_refl _) o), h.bl.alloc h.bl.size o⟩
theorem RI.more {W w w1 : World} {A A1 : Option Addr} {c c1 : Nat} {l l1 : List Ins3} (h : RI W w A c l) (hr : NRow w1 W.heap.size A1 c1 l1) (hg : w.grownBy w1 (Value.slice A l.length c).ownBlock) : RI W w1 A1 c1 l1 := ⟨hr, h.bl.grown hg h.bl.size (fun k hk => (h.row.1.lt k hk).1)⟩
set_option maxRecDepth 20000 in
set_option maxHeartbeats 16000000 in
theorem topFirst_walk (a : Int) (ha : (Lit.int .u8 a).wf = true) (b : Int) (hb : (Lit.int .u8 b).wf = true) (W : World) :
    Calls Try.prog 9 #[.int .u8 a, .int .u8 b] W fun e w' => e = .returned (.bool true) ∧ Below W.heap.size W w' := by
  have ha' := bounds_u8 ha
  have hb' := bounds_u8 hb
  obtain ⟨x, hx, hx3⟩ : ∃ x, intV ((wrap64 a).tmod 3) = x ∧ (x = 0 ∨ x = ONE ∨ x = TWO) := by
    refine ⟨_, rfl, ?_⟩
    rw [show wrap64 a = a by unfold wrap64; omega, Int.tmod_eq_emod_of_nonneg (by omega)]
    rcases (show a % 3 = 0 ∨ a % 3 = 1 ∨ a % 3 = 2 by omega) with h | h | h <;> rw [h]
    · exact .inl int_vals.1
    · exact .inr (.inl int_vals.2.1)
    · exact .inr (.inr int_vals.2.2)
  obtain ⟨y, hy, hy3⟩ : ∃ x, intV ((wrap64 b).tmod 3) = x ∧ (x = 0 ∨ x = ONE ∨ x = TWO) := by
    refine ⟨_, rfl, ?_⟩
    rw [show wrap64 b = b by unfold wrap64; omega, Int.tmod_eq_emod_of_nonneg (by omega)]
    rcases (show b % 3 = 0 ∨ b % 3 = 1 ∨ b % 3 = 2 by omega) with h | h | h <;> rw [h]
    · exact .inl int_vals.1
    · exact .inr (.inl int_vals.2.1)
    · exact .inr (.inr int_vals.2.2)
  have HX := Lib.hid hx
  have HY := Lib.hid hy
  have HX3 := Lib.hid hx3
  have HY3 := Lib.hid hy3
  obtain ⟨i1, hi1⟩ : ∃ i, intOk ((wrap64 a).tmod 3) = i := ⟨_, rfl⟩
  obtain ⟨i2, hi2⟩ : ∃ i, intOk ((wrap64 b).tmod 3) = i := ⟨_, rfl⟩
  have HI1 := Lib.hid (fun w => by have := int_any ((wrap64 a).tmod 3) w; rw [hx, hi1] at this; exact this)
  have HI2 := Lib.hid (fun w => by have := int_any ((wrap64 b).tmod 3) w; rw [hy, hi2] at this; exact this)
  clear hx hx3 hy hy3 hi1 hi2 ha' hb' ha hb
  go_enter Try.func9, Try.ntmps9
  go_upto_region 4 with (go_at_call 24; first | ((with_reducible refine (HI1.out _).mono ?_); rintro e w' ⟨rfl, rfl⟩) | ((with_reducible refine (HI2.out _).mono ?_); rintro e w' ⟨rfl, rfl⟩))
  have R1 := Lib.hid (RI.mk (W := W) (nrow_made W W.heap.size [⟨21, 20, 0⟩, ⟨23, 10, 0⟩] (by decide) (Nat.le_refl _) (by decide)) ((Below.refl _ _).alloc (Nat.le_refl _) _))
  change Code.wp _ _ _ _ (W.alloc (.cells (insC [⟨21, 20, 0⟩, ⟨23, 10, 0⟩]).toArray 42))
  generalize hw1 : W.alloc (.cells (insC [⟨21, 20, 0⟩, ⟨23, 10, 0⟩]).toArray 42) = w1 at R1 ⊢
  clear hw1
  obtain ⟨g0, hg0⟩ : ∃ g, W.heap.size = g := ⟨_, rfl⟩
  obtain ⟨l4, hl4⟩ : ∃ l, [⟨21, 20, 0⟩, ⟨23, 10, 0⟩] ++ armL 0 2 = l := ⟨_, rfl⟩
  obtain ⟨l5, hl5⟩ : ∃ l, l4 ++ [⟨24, 19, 0⟩] = l := ⟨_, rfl⟩
  obtain ⟨l7, hl7⟩ : ∃ l, l5 ++ armL 1 11 = l := ⟨_, rfl⟩
  obtain ⟨l9, hl9⟩ : ∃ l, l7 ++ [⟨25, 0, 0⟩, ⟨22, 0, 0⟩, ⟨28, 0, 0⟩] = l := ⟨_, rfl⟩
  have HF := Lib.hid (show l9 = firstL by rw [← hl9, ← hl7, ← hl5, ← hl4]; rfl)
  have n4 : l4.length = 10 := by rw [← hl4]; rfl
  have n5 : l5.length = 11 := by rw [← hl5, List.length_append, n4]; rfl
  have n7 : l7.length = 19 := by rw [← hl7, List.length_append, n5]; rfl
  have N4 := Lib.hid n4
  have N5 := Lib.hid n5
  have N7 := Lib.hid n7
  have H4 := Lib.hid hl4
  have H5 := Lib.hid hl5
  have H7 := Lib.hid hl7
  have H9 := Lib.hid hl9
  clear n4 n5 n7 hl4 hl5 hl7 hl9
  have R1 : Hid (RI W w1 (some ⟨g0, 0, none⟩) 2 [⟨21, 20, 0⟩, ⟨23, 10, 0⟩]) := Lib.hid (by rw [← hg0]; exact R1.out)
  rw [hg0]
  have G0 := Lib.hid hg0
  clear hg0
  go_upto_region 5 with (first | (go_at_call 25; refine (arm_any 0 2 (by kernel_rfl) (by kernel_rfl) _).mono ?_; rintro e w' ⟨rfl, rfl⟩) | (at_builtin; refine append_inss rfl (.tmp 28) (.tmp 29) rfl W.heap.size (.slice (some ⟨g0, 0, none⟩) 2 2) [⟨21, 20, 0⟩, ⟨23, 10, 0⟩] rfl (R1.out.alloc _).row.1 (by decide) ⟨w1.heap.size, 0, none⟩ 8 8 (armL 0 2) rfl rfl (made_cells w1 (armL 0 2)) (by decide) (by decide) (R1.out.alloc (.cells (insC (armL 0 2)).toArray 42)).bl.size l4 H4.out ?_; intro A3 c3 w3 hr hg; have R3 := Lib.hid ((R1.out.alloc (.cells (insC (armL 0 2)).toArray 42)).more hr hg); clear hr hg))
  clear R1
  go_upto_region 6 with (at_builtin; refine append_inss rfl (.tmp 31) (.tmp 33) rfl W.heap.size (.slice A3 l4.length c3) l4 rfl (R3.out.alloc _).row.1 R3.out.row.2 ⟨w3.heap.size, 0, none⟩ 1 1 [⟨24, 19, 0⟩] rfl rfl (made_cells w3 [⟨24, 19, 0⟩]) (by decide) (by rw [N4.out]; decide) (R3.out.alloc (.cells (insC [⟨24, 19, 0⟩]).toArray 42)).bl.size l5 H5.out ?_; intro A5 c5 w5 hr hg; have R5 := Lib.hid ((R3.out.alloc (.cells (insC [⟨24, 19, 0⟩]).toArray 42)).more hr hg); clear hr hg)
  clear R3
  go_upto_region 7 with (first | (go_at_call 25; refine (arm_any 1 11 (by kernel_rfl) (by kernel_rfl) _).mono ?_; rintro e w' ⟨rfl, rfl⟩) | (at_builtin; refine append_inss rfl (.tmp 35) (.tmp 36) rfl W.heap.size (.slice A5 l5.length c5) l5 rfl (R5.out.alloc _).row.1 R5.out.row.2 ⟨w5.heap.size, 0, none⟩ 8 8 (armL 1 11) rfl rfl (made_cells w5 (armL 1 11)) (by decide) (by rw [N5.out]; decide) (R5.out.alloc (.cells (insC (armL 1 11)).toArray 42)).bl.size l7 H7.out ?_; intro A7 c7 w7 hr hg; have R7 := Lib.hid ((R5.out.alloc (.cells (insC (armL 1 11)).toArray 42)).more hr hg); clear hr hg))
  clear R5
  go_upto_region 8 with (at_builtin; refine append_inss rfl (.tmp 38) (.tmp 42) rfl W.heap.size (.slice A7 l7.length c7) l7 rfl (R7.out.alloc _).row.1 R7.out.row.2 ⟨w7.heap.size, 0, none⟩ 3 3 [⟨25, 0, 0⟩, ⟨22, 0, 0⟩, ⟨28, 0, 0⟩] rfl rfl (made_cells w7 [⟨25, 0, 0⟩, ⟨22, 0, 0⟩, ⟨28, 0, 0⟩]) (by decide) (by rw [N7.out]; decide) (R7.out.alloc (.cells (insC [⟨25, 0, 0⟩, ⟨22, 0, 0⟩, ⟨28, 0, 0⟩]).toArray 42)).bl.size l9 H9.out ?_; intro A9 c9 w9 hr hg; have R9 := Lib.hid ((R7.out.alloc (.cells (insC [⟨25, 0, 0⟩, ⟨22, 0, 0⟩, ⟨28, 0, 0⟩]).toArray 42)).more hr hg); clear hr hg)
  clear R7
  rcases HX3.out with hx0 | hx12
  · subst hx0
    rcases HY3.out with hy0 | hy12
    · subst hy0
      have hB := first_c
      have HO := Lib.hid (show ocF St.zero [0, 0] (blockF l9 St.zero [0, 0] (fuelF 60).toNat) = ⟨2, St.zero, [0, 0], [], 0⟩ by rw [HF.out]; exact hB)
      clear hB
      have HW := Lib.hid (show W64 0 ∧ W64 0 from by decide)
      obtain ⟨hin, hcp, _⟩ := nrow_inss R9.out.row (by rw [HF.out]; decide)
      have I9 := Lib.hid hin
      clear hin
      go_upto_block 0 with (go_at_call 22; refine (block_sp l9 c9 A9 hcp (by rw [HF.out]; decide) St.zero zero_ok [0, 0] 60 (by decide) (by decide) (by show 2 ≤ 100; decide) none 0 none 0 (some ⟨w9.heap.size, 0, none⟩) 2 _ (Src.row (row_nil _ 0) (by decide)) (Src.row (row_nil _ 0) (by decide)) (src_made (l := [0, 0]) (heap_alloc_new w9 _) (fun v hv => by simp only [List.mem_cons, List.not_mem_nil, or_false] at hv; rcases hv with rfl | rfl; exact HW.out.1; exact HW.out.2) (by show 2 ≤ 1000; decide)) (inss_below I9.out ((Below.refl _ _).alloc (Nat.le_refl _) _))).mono ?_; rintro e w11 hp2; rw [HO.out] at hp2; obtain ⟨hb2, C1, c1, C2, c2, C3, c3, Ca, ca, rfl, hat⟩ := hp2; unfold ocC; have B11 := Lib.hid hb2; have T11 := Lib.hid hat; clear hb2 hat)
      obtain ⟨gh, eH, xh0, _⟩ := row_head T11.out.2.2.2.1 (i := 0) (show 0 < 2 by decide)
      subst eH
      obtain ⟨gh', eH, xh1, _⟩ := row_head T11.out.2.2.2.1 (i := 1) (show 1 < 2 by decide)
      obtain rfl : gh = gh' := by simpa using eH
      have z := (Below.refl w11.heap.size w11).alloc (Nat.le_refl _) (.cells (ocC ⟨2, St.zero, [0, 0], [], 0⟩ C1 c1 C2 c2 (some ⟨gh, 0, none⟩) c3 Ca ca) 46)
      have X12 := Lib.hid (heap_alloc_new w11 (.cells (ocC ⟨2, St.zero, [0, 0], [], 0⟩ C1 c1 C2 c2 (some ⟨gh, 0, none⟩) c3 Ca ca) 46))
      have h0 := Lib.hid ((World.cell?_of_block (z.block gh (World.block_lt_of_cell? w11 _ xh0))).trans xh0)
      have h1 := Lib.hid ((World.cell?_of_block (z.block gh (World.block_lt_of_cell? w11 _ xh1))).trans xh1)
      have hg := Lib.hid True.intro
      have z9 := ((Below.refl w9.heap.size w9).alloc (Nat.le_refl _) (.cells (valsC [0, 0]).toArray 25)).trans ((B11.out.trans (z.mono B11.out.size)).mono (by simp))
      have I12 := Lib.hid (inss_below I9.out z9)
      have N12 := Lib.hid (nrow_below R9.out.row z9)
      have B12 := Lib.hid (R9.out.bl.trans (z9.mono R9.out.bl.size))
      clear z z9 xh0 xh1 eH T11 B11
      unfold ocC at X12 h0 h1 hg I12 N12 B12
      dsimp only [List.length_nil, List.length_cons] at X12 h0 h1 hg I12 N12 B12
      generalize w11.alloc _ = w12 at X12 h0 h1 hg I12 N12 B12 ⊢
      obtain ⟨q, hq⟩ : ∃ q, w11.heap.size = q := ⟨_, rfl⟩
      rw [hq] at X12 ⊢
      clear hq
      have o0 : w12.cell? ⟨q, 0, none⟩ = some (.int .u8 2) := hp_cell (X12.out) 0; have o1 : w12.cell? ⟨q, 1, none⟩ = some (.int .i64 0) := hp_cell (X12.out) 1; have o2 : w12.cell? ⟨q, 2, none⟩ = some (.slice C1 0 c1) := hp_cell (X12.out) 2; have o3 : w12.cell? ⟨q, 3, none⟩ = some (.int .u64 0) := hp_cell (X12.out) 3; have o4 : w12.cell? ⟨q, 4, none⟩ = some (.int .u64 0) := hp_cell (X12.out) 4; have o5 : w12.cell? ⟨q, 5, none⟩ = some (.int .u64 0) := hp_cell (X12.out) 5; have o6 : w12.cell? ⟨q, 6, none⟩ = some (.int .u64 0) := hp_cell (X12.out) 6; have o7 : w12.cell? ⟨q, 7, none⟩ = some (.slice C2 0 c2) := hp_cell (X12.out) 7; have o8 : w12.cell? ⟨q, 8, none⟩ = some (.slice (some ⟨gh, 0, none⟩) 2 c3) := hp_cell (X12.out) 8; have o9 : w12.cell? ⟨q, 9, none⟩ = some (.slice Ca 0 ca) := hp_cell (X12.out) 9; have o10 : w12.cell? ⟨q, 10, none⟩ = some (.int .i64 0) := hp_cell (X12.out) 10; have ol := hp_lt (X12.out)
      have e0 : w12.cell? ⟨gh, 0, none⟩ = some (.int .u64 (0)) := h0.out
      have e1 : w12.cell? ⟨gh, 1, none⟩ = some (.int .u64 (0)) := h1.out
      have el := World.block_lt_of_cell? w12 _ e0
      skip
      skip
      have nt := Lib.hid (newThread)
      obtain ⟨gA, rfl⟩ : ∃ gA, A9 = some ⟨gA, 0, none⟩ := by
        rcases N12.out.1.2 with ⟨hn, h0⟩ | ⟨g', cap, cur, hv, _⟩
        · rw [HF.out] at h0; simp [firstL, armL] at h0
        · simp only [Value.slice.injEq] at hv; exact ⟨_, hv.1⟩
      go_wp2_with (go_at_call 27; refine (newThread gA c9 l9 hcp (by rw [HF.out]; decide) (by rw [HF.out]; decide) _ I12.out).mono ?_; rintro e w13 ⟨⟨ad, rfl⟩, hb13⟩; have B13 := Lib.hid (B12.out.trans (hb13.mono B12.out.size)); clear hb13)
      go_ret
      exact ⟨rfl, B13.out⟩
    · have hB := first_b y hy12
      unfold ONE at hB
      have HO := Lib.hid (show ocF St.zero [0, y] (blockF l9 St.zero [0, y] (fuelF 60).toNat) = ⟨1, ⟨21, [], 0, 0, 0, 0, []⟩, [0, fop .sub y 4607182418800017408], [false], 0⟩ by rw [HF.out]; exact hB)
      clear hB
      have HW := Lib.hid (show W64 0 ∧ W64 y from ⟨by decide, by rcases HY3.out with h | h | h <;> (rw [h]; decide)⟩)
      obtain ⟨hin, hcp, _⟩ := nrow_inss R9.out.row (by rw [HF.out]; decide)
      have I9 := Lib.hid hin
      clear hin
      go_upto_block 0 with (go_at_call 22; refine (block_sp l9 c9 A9 hcp (by rw [HF.out]; decide) St.zero zero_ok [0, y] 60 (by decide) (by decide) (by show 2 ≤ 100; decide) none 0 none 0 (some ⟨w9.heap.size, 0, none⟩) 2 _ (Src.row (row_nil _ 0) (by decide)) (Src.row (row_nil _ 0) (by decide)) (src_made (l := [0, y]) (heap_alloc_new w9 _) (fun v hv => by simp only [List.mem_cons, List.not_mem_nil, or_false] at hv; rcases hv with rfl | rfl; exact HW.out.1; exact HW.out.2) (by show 2 ≤ 1000; decide)) (inss_below I9.out ((Below.refl _ _).alloc (Nat.le_refl _) _))).mono ?_; rintro e w11 hp2; rw [HO.out] at hp2; obtain ⟨hb2, C1, c1, C2, c2, C3, c3, Ca, ca, rfl, hat⟩ := hp2; unfold ocC; have B11 := Lib.hid hb2; have T11 := Lib.hid hat; clear hb2 hat)
      obtain ⟨ga, eA, xga, _⟩ := grow_at (vs := []) (v := .bool false) (by exact T11.out.2.2.2.2.1)
      subst eA
      have lga := Lib.hid (World.block_lt_of_cell? w11 _ xga)
      have XG := Lib.hid (show w11.cell? ⟨ga, 0, none⟩ = some (.bool false) from xga)
      clear xga
      obtain ⟨gh, eH, xh0, _⟩ := row_head T11.out.2.2.2.1 (i := 0) (show 0 < 2 by decide)
      subst eH
      obtain ⟨gh', eH, xh1, _⟩ := row_head T11.out.2.2.2.1 (i := 1) (show 1 < 2 by decide)
      obtain rfl : gh = gh' := by simpa using eH
      have z := (Below.refl w11.heap.size w11).alloc (Nat.le_refl _) (.cells (ocC ⟨1, ⟨21, [], 0, 0, 0, 0, []⟩, [0, fop .sub y 4607182418800017408], [false], 0⟩ C1 c1 C2 c2 (some ⟨gh, 0, none⟩) c3 (some ⟨ga, 0, none⟩) ca) 46)
      have X12 := Lib.hid (heap_alloc_new w11 (.cells (ocC ⟨1, ⟨21, [], 0, 0, 0, 0, []⟩, [0, fop .sub y 4607182418800017408], [false], 0⟩ C1 c1 C2 c2 (some ⟨gh, 0, none⟩) c3 (some ⟨ga, 0, none⟩) ca) 46))
      have h0 := Lib.hid ((World.cell?_of_block (z.block gh (World.block_lt_of_cell? w11 _ xh0))).trans xh0)
      have h1 := Lib.hid ((World.cell?_of_block (z.block gh (World.block_lt_of_cell? w11 _ xh1))).trans xh1)
      have hg := Lib.hid ((World.cell?_of_block (z.block ga lga.out)).trans XG.out)
      have z9 := ((Below.refl w9.heap.size w9).alloc (Nat.le_refl _) (.cells (valsC [0, y]).toArray 25)).trans ((B11.out.trans (z.mono B11.out.size)).mono (by simp))
      have I12 := Lib.hid (inss_below I9.out z9)
      have N12 := Lib.hid (nrow_below R9.out.row z9)
      have B12 := Lib.hid (R9.out.bl.trans (z9.mono R9.out.bl.size))
      clear z z9 xh0 xh1 eH T11 B11
      unfold ocC at X12 h0 h1 hg I12 N12 B12
      dsimp only [List.length_nil, List.length_cons] at X12 h0 h1 hg I12 N12 B12
      generalize w11.alloc _ = w12 at X12 h0 h1 hg I12 N12 B12 ⊢
      obtain ⟨q, hq⟩ : ∃ q, w11.heap.size = q := ⟨_, rfl⟩
      rw [hq] at X12 ⊢
      clear hq
      have o0 : w12.cell? ⟨q, 0, none⟩ = some (.int .u8 1) := hp_cell (X12.out) 0; have o1 : w12.cell? ⟨q, 1, none⟩ = some (.int .i64 21) := hp_cell (X12.out) 1; have o2 : w12.cell? ⟨q, 2, none⟩ = some (.slice C1 0 c1) := hp_cell (X12.out) 2; have o3 : w12.cell? ⟨q, 3, none⟩ = some (.int .u64 0) := hp_cell (X12.out) 3; have o4 : w12.cell? ⟨q, 4, none⟩ = some (.int .u64 0) := hp_cell (X12.out) 4; have o5 : w12.cell? ⟨q, 5, none⟩ = some (.int .u64 0) := hp_cell (X12.out) 5; have o6 : w12.cell? ⟨q, 6, none⟩ = some (.int .u64 0) := hp_cell (X12.out) 6; have o7 : w12.cell? ⟨q, 7, none⟩ = some (.slice C2 0 c2) := hp_cell (X12.out) 7; have o8 : w12.cell? ⟨q, 8, none⟩ = some (.slice (some ⟨gh, 0, none⟩) 2 c3) := hp_cell (X12.out) 8; have o9 : w12.cell? ⟨q, 9, none⟩ = some (.slice (some ⟨ga, 0, none⟩) 1 ca) := hp_cell (X12.out) 9; have o10 : w12.cell? ⟨q, 10, none⟩ = some (.int .i64 0) := hp_cell (X12.out) 10; have ol := hp_lt (X12.out)
      have e0 : w12.cell? ⟨gh, 0, none⟩ = some (.int .u64 (0)) := h0.out
      have e1 : w12.cell? ⟨gh, 1, none⟩ = some (.int .u64 (fop .sub y 4607182418800017408)) := h1.out
      have el := World.block_lt_of_cell? w12 _ e0
      have eg : w12.cell? ⟨ga, 0, none⟩ = some (.bool false) := hg.out
      have egl := World.block_lt_of_cell? w12 _ eg
      have ky : (y != 0) = true := by rw [bne_iff_ne]; rcases hy12 with h | h <;> (rw [h]; decide)
      clear hy12
      go_wp2_with fail
      (go_quiet ((go_at_call 26; exact Calls.quiet_of ((sub_any y 4607182418800017408 HW.out.2 ⟨by decide, by decide⟩ _).mono (fun _ _ h => h)))))
      go_wp2_with fail
      go_ret
      exact ⟨rfl, bl_drewN B12.out _⟩
  · have hB := first_a x y hx12 HY3.out
    unfold ONE at hB
    have HO := Lib.hid (show ocF St.zero [x, y] (blockF l9 St.zero [x, y] (fuelF 60).toNat) = ⟨1, ⟨21, [], 0, 0, 0, 0, []⟩, [fop .sub x 4607182418800017408, y], [true], 0⟩ by rw [HF.out]; exact hB)
    clear hB
    have HW := Lib.hid (show W64 x ∧ W64 y from ⟨by rcases HX3.out with h | h | h <;> (rw [h]; decide), by rcases HY3.out with h | h | h <;> (rw [h]; decide)⟩)
    obtain ⟨hin, hcp, _⟩ := nrow_inss R9.out.row (by rw [HF.out]; decide)
    have I9 := Lib.hid hin
    clear hin
    go_upto_block 0 with (go_at_call 22; refine (block_sp l9 c9 A9 hcp (by rw [HF.out]; decide) St.zero zero_ok [x, y] 60 (by decide) (by decide) (by show 2 ≤ 100; decide) none 0 none 0 (some ⟨w9.heap.size, 0, none⟩) 2 _ (Src.row (row_nil _ 0) (by decide)) (Src.row (row_nil _ 0) (by decide)) (src_made (l := [x, y]) (heap_alloc_new w9 _) (fun v hv => by simp only [List.mem_cons, List.not_mem_nil, or_false] at hv; rcases hv with rfl | rfl; exact HW.out.1; exact HW.out.2) (by show 2 ≤ 1000; decide)) (inss_below I9.out ((Below.refl _ _).alloc (Nat.le_refl _) _))).mono ?_; rintro e w11 hp2; rw [HO.out] at hp2; obtain ⟨hb2, C1, c1, C2, c2, C3, c3, Ca, ca, rfl, hat⟩ := hp2; unfold ocC; have B11 := Lib.hid hb2; have T11 := Lib.hid hat; clear hb2 hat)
    obtain ⟨ga, eA, xga, _⟩ := grow_at (vs := []) (v := .bool true) (by exact T11.out.2.2.2.2.1)
    subst eA
    have lga := Lib.hid (World.block_lt_of_cell? w11 _ xga)
    have XG := Lib.hid (show w11.cell? ⟨ga, 0, none⟩ = some (.bool true) from xga)
    clear xga
    obtain ⟨gh, eH, xh0, _⟩ := row_head T11.out.2.2.2.1 (i := 0) (show 0 < 2 by decide)
    subst eH
    obtain ⟨gh', eH, xh1, _⟩ := row_head T11.out.2.2.2.1 (i := 1) (show 1 < 2 by decide)
    obtain rfl : gh = gh' := by simpa using eH
    have z := (Below.refl w11.heap.size w11).alloc (Nat.le_refl _) (.cells (ocC ⟨1, ⟨21, [], 0, 0, 0, 0, []⟩, [fop .sub x 4607182418800017408, y], [true], 0⟩ C1 c1 C2 c2 (some ⟨gh, 0, none⟩) c3 (some ⟨ga, 0, none⟩) ca) 46)
    have X12 := Lib.hid (heap_alloc_new w11 (.cells (ocC ⟨1, ⟨21, [], 0, 0, 0, 0, []⟩, [fop .sub x 4607182418800017408, y], [true], 0⟩ C1 c1 C2 c2 (some ⟨gh, 0, none⟩) c3 (some ⟨ga, 0, none⟩) ca) 46))
    have h0 := Lib.hid ((World.cell?_of_block (z.block gh (World.block_lt_of_cell? w11 _ xh0))).trans xh0)
    have h1 := Lib.hid ((World.cell?_of_block (z.block gh (World.block_lt_of_cell? w11 _ xh1))).trans xh1)
    have hg := Lib.hid ((World.cell?_of_block (z.block ga lga.out)).trans XG.out)
    have z9 := ((Below.refl w9.heap.size w9).alloc (Nat.le_refl _) (.cells (valsC [x, y]).toArray 25)).trans ((B11.out.trans (z.mono B11.out.size)).mono (by simp))
    have I12 := Lib.hid (inss_below I9.out z9)
    have N12 := Lib.hid (nrow_below R9.out.row z9)
    have B12 := Lib.hid (R9.out.bl.trans (z9.mono R9.out.bl.size))
    clear z z9 xh0 xh1 eH T11 B11
    unfold ocC at X12 h0 h1 hg I12 N12 B12
    dsimp only [List.length_nil, List.length_cons] at X12 h0 h1 hg I12 N12 B12
    generalize w11.alloc _ = w12 at X12 h0 h1 hg I12 N12 B12 ⊢
    obtain ⟨q, hq⟩ : ∃ q, w11.heap.size = q := ⟨_, rfl⟩
    rw [hq] at X12 ⊢
    clear hq
    have o0 : w12.cell? ⟨q, 0, none⟩ = some (.int .u8 1) := hp_cell (X12.out) 0; have o1 : w12.cell? ⟨q, 1, none⟩ = some (.int .i64 21) := hp_cell (X12.out) 1; have o2 : w12.cell? ⟨q, 2, none⟩ = some (.slice C1 0 c1) := hp_cell (X12.out) 2; have o3 : w12.cell? ⟨q, 3, none⟩ = some (.int .u64 0) := hp_cell (X12.out) 3; have o4 : w12.cell? ⟨q, 4, none⟩ = some (.int .u64 0) := hp_cell (X12.out) 4; have o5 : w12.cell? ⟨q, 5, none⟩ = some (.int .u64 0) := hp_cell (X12.out) 5; have o6 : w12.cell? ⟨q, 6, none⟩ = some (.int .u64 0) := hp_cell (X12.out) 6; have o7 : w12.cell? ⟨q, 7, none⟩ = some (.slice C2 0 c2) := hp_cell (X12.out) 7; have o8 : w12.cell? ⟨q, 8, none⟩ = some (.slice (some ⟨gh, 0, none⟩) 2 c3) := hp_cell (X12.out) 8; have o9 : w12.cell? ⟨q, 9, none⟩ = some (.slice (some ⟨ga, 0, none⟩) 1 ca) := hp_cell (X12.out) 9; have o10 : w12.cell? ⟨q, 10, none⟩ = some (.int .i64 0) := hp_cell (X12.out) 10; have ol := hp_lt (X12.out)
    have e0 : w12.cell? ⟨gh, 0, none⟩ = some (.int .u64 (fop .sub x 4607182418800017408)) := h0.out
    have e1 : w12.cell? ⟨gh, 1, none⟩ = some (.int .u64 (y)) := h1.out
    have el := World.block_lt_of_cell? w12 _ e0
    have eg : w12.cell? ⟨ga, 0, none⟩ = some (.bool true) := hg.out
    have egl := World.block_lt_of_cell? w12 _ eg
    have kx : (x != 0) = true := by rw [bne_iff_ne]; rcases hx12 with h | h <;> (rw [h]; decide)
    clear hx12
    go_wp2_with fail
    (go_quiet ((go_at_call 26; exact Calls.quiet_of ((sub_any x 4607182418800017408 HW.out.1 ⟨by decide, by decide⟩ _).mono (fun _ _ h => h)))))
    go_wp2_with fail
    go_ret
    exact ⟨rfl, bl_drewN B12.out _⟩
end Go.Proofs.Ytlgpjcdlomhlcaa
