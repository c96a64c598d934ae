
/-
  SpecLeft: the walk.
-/
import Derived.Test.YtlgpjcdlomhlcaaSp23
import Derived.Test.YtlgpjcdlomhlcaaSp24
namespace Go.Proofs.Ytlgpjcdlomhlcaa
open Go.RowKit Go.ChangeShapes Go.WideShapes
set_option linter.unusedSimpArgs false
set_option linter.unusedVariables false

def V2 (v : Value) : Prop := ∃ a b : Int, v = .agg #[.int .u64 a, .int .u64 b] ∧ W64 a ∧ W64 b
set_option maxRecDepth 100000 in
theorem v2_of {H : Type} {enc : TypeId × Value → H} {W : World} {base base' : Nat} {spare : Nat → Bool} {held : Bool} {v : Value} {d : DataW H} {p : List MemPlace} (hv : Value.okWide Try.prog W .any base' 38 v) (h : DataW.Trod enc Try.prog W base spare held 38 v d p) : V2 v := by
  have hu := Try.underlying38
  simp only [Value.okWide, hu] at hv
  obtain ⟨cs, rfl, hsz, _⟩ := hv
  have hC : Program.cellsOf Try.prog 38 = 2 := by kernel_rfl
  obtain ⟨c0, c1, rfl⟩ := Go.Joins.array2 (hsz.trans hC)
  obtain ⟨fuel, hf⟩ := h
  obtain ⟨xs, m, _, _, _, hx, hi⟩ := DataW.trod_array hu hf
  match xs, hx with
  | [y0, y1], _ =>
    obtain ⟨n0, e0, _, b0⟩ := DataW.trod_int (cs := [c0]) Try.underlying25 ((congrArg _ (by kernel_rfl)).trans (hi 0 (by decide)))
    obtain ⟨n1, e1, _, b1⟩ := DataW.trod_int (cs := [c1]) Try.underlying25 ((congrArg _ (by kernel_rfl)).trans (hi 1 (by decide)))
    simp only [List.cons.injEq, and_true] at e0 e1
    subst e0 e1
    have q0 := bounds_u64 b0
    have q1 := bounds_u64 b1
    exact ⟨n0, n1, rfl, ⟨by omega, by omega⟩, ⟨by omega, by omega⟩⟩
set_option maxRecDepth 20000 in
set_option maxHeartbeats 8000000 in
theorem specLeft_walk (W : World) (v0 : Value) (h0 : U2 v0) (v1 : Value) (h1 : V2 v1) (loc : Bool) :
    Calls Try.prog 4 #[v0, v1, .bool loc] W fun e w' => e = .returned (.bool true) ∧ Below W.heap.size W w' := by
  obtain ⟨f0, f1, rfl, hf0, hf1⟩ := h0
  obtain ⟨a, b, rfl, ha, hb⟩ := h1
  have HF0 := Lib.hid hf0
  have HF1 := Lib.hid hf1
  have HA := Lib.hid ha
  have HB := Lib.hid hb
  have z0 := (Below.refl W.heap.size W).alloc (Nat.le_refl _) (.cells #[.int .u8 f0, .int .u8 f1] 37)
  have z1 := z0.alloc z0.size (.cells #[.int .u64 a, .int .u64 b] 38)
  have X0 := Lib.hid (hp_alloc (heap_alloc_new W (.cells #[.int .u8 f0, .int .u8 f1] 37)) (.cells #[.int .u64 a, .int .u64 b] 38))
  have X1 := Lib.hid (show ((W.alloc (.cells #[.int .u8 f0, .int .u8 f1] 37)).alloc (.cells #[.int .u64 a, .int .u64 b] 38)).heap[W.heap.size + 1]? = _ from (congrArg _ (by simp)).trans (heap_alloc_new (W.alloc (.cells #[.int .u8 f0, .int .u8 f1] 37)) (.cells #[.int .u64 a, .int .u64 b] 38)))
  have B1 := Lib.hid z1
  clear hf0 hf1 ha hb z0 z1
  go_enter Try.func4, Try.ntmps4
  go_upto_region 1 with fail
  generalize World.alloc _ _ = w1 at X0 X1 B1 ⊢
  obtain ⟨g0, hg0⟩ : ∃ x, W.heap.size = x := ⟨_, rfl⟩
  obtain ⟨g1, hg1⟩ : ∃ x, W.heap.size + 1 = x := ⟨_, rfl⟩
  rw [hg0] at X0
  rw [hg1] at X1
  rw [hg1, hg0]
  clear hg0 hg1
  have x0 : w1.cell? ⟨g0, 0, none⟩ = some (.int .u8 f0) := hp_cell X0.out 0
  have x1 : w1.cell? ⟨g0, 1, none⟩ = some (.int .u8 f1) := hp_cell X0.out 1
  have y0 : w1.cell? ⟨g1, 0, none⟩ = some (.int .u64 a) := hp_cell X1.out 0
  have y1 : w1.cell? ⟨g1, 1, none⟩ = some (.int .u64 b) := hp_cell X1.out 1
  have l0 := hp_lt X0.out
  have l1 := hp_lt X1.out
  go_quiet (fail)
  go_wp2_with fail
  have X2 := Lib.hid (show (w1.drewN nq).heap[g1]? = _ from X1.out)
  have B2 := Lib.hid (bl_drewN B1.out nq)
  clear X0 X1 B1 x0 x1 y0 y1 l0 l1
  generalize w1.drewN nq = w2 at X2 B2 ⊢
  have y0 : w2.cell? ⟨g1, 0, none⟩ = some (.int .u64 a) := hp_cell X2.out 0
  have y1 : w2.cell? ⟨g1, 1, none⟩ = some (.int .u64 b) := hp_cell X2.out 1
  have l1 := hp_lt X2.out
  obtain ⟨t, ht, ht4⟩ : ∃ t, (wrap64 f0).tmod 4 = t ∧ (t = 0 ∨ t = 1 ∨ t = 2 ∨ t = 3) := ⟨_, rfl, by have := HF0.out; rw [show wrap64 f0 = f0 by unfold wrap64; omega, Int.tmod_eq_emod_of_nonneg (by omega)]; omega⟩
  obtain ⟨u, hu, hu4⟩ : ∃ t, (wrap64 f1).tmod 4 = t ∧ (t = 0 ∨ t = 1 ∨ t = 2 ∨ t = 3) := ⟨_, rfl, by have := HF1.out; rw [show wrap64 f1 = f1 by unfold wrap64; omega, Int.tmod_eq_emod_of_nonneg (by omega)]; omega⟩
  rw [ht, hu]
  have HT := Lib.hid ht4
  have HU := Lib.hid hu4
  clear ht hu ht4 hu4
  go_quiet ((go_at_call 16; first | exact Calls.quiet_of_same ((refCanon_any a HA.out _).mono (fun _ _ h => ⟨h.1, h.2.symm⟩)) | exact Calls.quiet_of_same ((refCanon_any b HB.out _).mono (fun _ _ h => ⟨h.1, h.2.symm⟩))))
  have B3 := Lib.hid (bl_drewN B2.out nq)
  clear X2 B2 y0 y1 l1
  generalize w2.drewN nq = w3 at B3 ⊢
  obtain ⟨v, hv, hv1, hv2⟩ : ∃ v, canon a = v ∧ rightB v = true ∧ W64 v := ⟨_, rfl, canon_right, canon_w64 HA.out⟩
  obtain ⟨w', hw, hw1, hw2⟩ : ∃ v, canon b = v ∧ rightB v = true ∧ W64 v := ⟨_, rfl, canon_right, canon_w64 HB.out⟩
  rw [hv, hw]
  have HV := Lib.hid (And.intro hv1 hv2)
  have HW := Lib.hid (And.intro hw1 hw2)
  clear hv hw hv1 hv2 hw1 hw2
  cases loc
  · go_upto_region 6 with fail
    have L4 := Lib.hid (heap_alloc_new w3 (.cells #[.int .u8 5, .int .i64 t, .int .u64 0] 42))
    have B4 := Lib.hid (B3.out.alloc B3.out.size (.cells #[.int .u8 5, .int .i64 t, .int .u64 0] 42))
    clear B3
    generalize World.alloc _ _ = w4 at L4 B4 ⊢
    generalize w3.heap.size = gL at L4 ⊢
    have s0 : w4.cell? ⟨gL, 0, none⟩ = some (.int .u8 5) := hp_cell L4.out 0
    have s1 : w4.cell? ⟨gL, 1, none⟩ = some (.int .i64 t) := hp_cell L4.out 1
    have s2 : w4.cell? ⟨gL, 2, none⟩ = some (.int .u64 0) := hp_cell L4.out 2
    have sl := hp_lt L4.out
    go_upto_region 9 with fail
    have e5 := heap_alloc_new w4 (.cells (insC (leftL t u v w' false)).toArray 42)
    have b5 := (Below.refl w4.heap.size w4).alloc (Nat.le_refl _) (.cells (insC (leftL t u v w' false)).toArray 42)
    have e6 := heap_alloc_new (w4.alloc (.cells (insC (leftL t u v w' false)).toArray 42)) (.cells (insC (rightL u w')).toArray 42)
    have e7 := heap_alloc_new ((w4.alloc (.cells (insC (leftL t u v w' false)).toArray 42)).alloc (.cells (insC (rightL u w')).toArray 42)) (.cells (valsC heap4).toArray 25)
    have e5 := hp_alloc (hp_alloc e5 (.cells (insC (rightL u w')).toArray 42)) (.cells (valsC heap4).toArray 25)
    have e6 := hp_alloc e6 (.cells (valsC heap4).toArray 25)
    have HB7 := (b5.alloc b5.size (.cells (insC (rightL u w')).toArray 42))
    have HB7 := HB7.alloc HB7.size (.cells (valsC heap4).toArray 25)
    have B7 := Lib.hid (B4.out.trans (HB7.mono B4.out.size))
    have n6 : (w4.alloc (.cells (insC (leftL t u v w' false)).toArray 42)).heap.size = w4.heap.size + 1 := by simp
    have n7 : ((w4.alloc (.cells (insC (leftL t u v w' false)).toArray 42)).alloc (.cells (insC (rightL u w')).toArray 42)).heap.size = w4.heap.size + 2 := by simp
    rw [n6] at e6
    rw [n7] at e7
    have okl : ∀ x ∈ leftL t u v w' false, x.ok := by
      have h1 := HT.out
      have h2 := HU.out
      have h3 := HV.out.2
      have h4 := HW.out.2
      unfold W64 at h3 h4
      intro x hx
      simp only [leftL, List.mem_cons, List.not_mem_nil, or_false] at hx
      rcases hx with rfl | rfl | rfl | rfl | rfl | rfl | rfl | rfl | rfl | rfl | rfl <;> (unfold Ins3.ok I64 W64; dsimp only [cond]; omega)
    have okr : ∀ x ∈ rightL u w', x.ok := by
      have h2 := HU.out
      have h4 := HW.out.2
      unfold W64 at h4
      intro x hx
      simp only [rightL, List.mem_cons, List.not_mem_nil, or_false] at hx
      rcases hx with rfl | rfl | rfl | rfl | rfl <;> (unfold Ins3.ok I64 W64; dsimp only [cond]; omega)
    have IL := Lib.hid (inss_made e5 okl (show 11 ≤ 1000 by decide))
    have IR := Lib.hid (inss_made e6 okr (show 5 ≤ 1000 by decide))
    have SH := Lib.hid (src_made (l := heap4) e7 (by decide) (by decide))
    clear e5 e6 e7 b5 HB7 n6 n7 okl okr B4 L4 s0 s1 s2 sl
    change Code.wp _ _ _ _ (((w4.alloc (.cells (insC (leftL t u v w' false)).toArray 42)).alloc (.cells (insC (rightL u w')).toArray 42)).alloc (.cells (valsC heap4).toArray 25))
    generalize World.alloc _ _ = w7 at IL IR SH B7 ⊢
    obtain ⟨q5, hq5⟩ : ∃ x, w4.heap.size = x := ⟨_, rfl⟩
    obtain ⟨q6, hq6⟩ : ∃ x, w4.heap.size + 1 = x := ⟨_, rfl⟩
    obtain ⟨q7, hq7⟩ : ∃ x, w4.heap.size + 2 = x := ⟨_, rfl⟩
    rw [hq5] at IL
    rw [hq6] at IR
    rw [hq7] at SH
    rw [hq7, hq6, hq5]
    clear hq5 hq6 hq7
    obtain ⟨H, hH, hHL⟩ : ∃ H, heap4.set u.toNat w' = H ∧ H.length ≤ 1000 := ⟨_, rfl, by rw [List.length_set]; decide⟩
    have HLL := Lib.hid hHL
    have RL := Lib.hid (show runF (leftL t u v w' false) (fuelF 100).toNat 20 St.zero heap4 [] = ⟨1, ⟨10, [], 0, 0, 0, 0, []⟩, heap4.set u.toNat w', [false], 0⟩ by rw [show (fuelF 100).toNat = 100 by decide]; exact left_run t u v w' false HT.out HU.out HV.out.1 HW.out.1)
    have RR := Lib.hid (show runF (rightL u w') (fuelF 100).toNat 20 St.zero heap4 [] = ⟨1, ⟨4, [], 0, 0, 0, 0, []⟩, heap4.set u.toNat w', [], 0⟩ by rw [show (fuelF 100).toNat = 100 by decide]; exact right_run u w' HU.out HW.out.1)
    rw [hH] at RL RR
    clear hH hHL
    go_upto_region 10 with (go_at_call 17; first | (have hx0 := T8; clear hx0; (refine (run_all (rightL u w') 5 (some ⟨q6, 0, none⟩) (Nat.le_refl 5) (show 5 ≤ 900 by decide) heap4 100 (by decide) (some ⟨q7, 0, none⟩) 4 _ (SH.out.below B8.out) (inss_below IR.out B8.out)).mono ?_); rintro e w9 hp9; rw [RR.out] at hp9; obtain ⟨hb9, D1, d1, D2, d2, D3, d3, Da, da, rfl, hat⟩ := hp9; unfold ocC; have B9 := Lib.hid hb9; have T9 := Lib.hid hat; clear hb9 hat) | ((refine (run_all (leftL t u v w' false) 11 (some ⟨q5, 0, none⟩) (Nat.le_refl 11) (show 11 ≤ 900 by decide) heap4 100 (by decide) (some ⟨q7, 0, none⟩) 4 _ SH.out IL.out).mono ?_); rintro e w8 hp8; rw [RL.out] at hp8; obtain ⟨hb8, C1, c1, C2, c2, C3, c3, Ca, ca, rfl, hat⟩ := hp8; unfold ocC; have B8 := Lib.hid hb8; have T8 := Lib.hid hat; clear hb8 hat))
    have z1 := (Below.refl w9.heap.size w9).alloc (Nat.le_refl _) (.cells (ocC ⟨1, ⟨10, [], 0, 0, 0, 0, []⟩, H, [false], 0⟩ C1 c1 C2 c2 C3 c3 Ca ca) 46)
    have z2 := z1.alloc z1.size (.cells (ocC ⟨1, ⟨4, [], 0, 0, 0, 0, []⟩, H, [], 0⟩ D1 d1 D2 d2 D3 d3 Da da) 46)
    have XA := Lib.hid (hp_alloc (heap_alloc_new w9 (.cells (ocC ⟨1, ⟨10, [], 0, 0, 0, 0, []⟩, H, [false], 0⟩ C1 c1 C2 c2 C3 c3 Ca ca) 46)) (.cells (ocC ⟨1, ⟨4, [], 0, 0, 0, 0, []⟩, H, [], 0⟩ D1 d1 D2 d2 D3 d3 Da da) 46))
    have XB := Lib.hid (show ((w9.alloc (.cells (ocC ⟨1, ⟨10, [], 0, 0, 0, 0, []⟩, H, [false], 0⟩ C1 c1 C2 c2 C3 c3 Ca ca) 46)).alloc (.cells (ocC ⟨1, ⟨4, [], 0, 0, 0, 0, []⟩, H, [], 0⟩ D1 d1 D2 d2 D3 d3 Da da) 46)).heap[w9.heap.size + 1]? = _ from (congrArg _ (by simp)).trans (heap_alloc_new (w9.alloc (.cells (ocC ⟨1, ⟨10, [], 0, 0, 0, 0, []⟩, H, [false], 0⟩ C1 c1 C2 c2 C3 c3 Ca ca) 46)) (.cells (ocC ⟨1, ⟨4, [], 0, 0, 0, 0, []⟩, H, [], 0⟩ D1 d1 D2 d2 D3 d3 Da da) 46)))
    have GA := Lib.hid (grow_below (grow_below T8.out.2.2.2.2.1 B9.out) z2)
    have HA3 := Lib.hid (row_below (row_below T8.out.2.2.2.1 B9.out) z2)
    have HB3 := Lib.hid (row_below T9.out.2.2.2.1 z2)
    have BF := Lib.hid (B7.out.trans ((B8.out.trans ((B9.out.trans (z2.mono B9.out.size)).mono B8.out.size)).mono B7.out.size))
    clear z1 z2 T8 T9 B8 B9 B7 IL IR SH RL RR
    unfold ocC at XA XB GA HA3 HB3 BF
    generalize World.alloc _ _ = w10 at XA XB GA HA3 HB3 BF ⊢
    obtain ⟨qa, hqa⟩ : ∃ x, w9.heap.size = x := ⟨_, rfl⟩
    obtain ⟨qb, hqb⟩ : ∃ x, w9.heap.size + 1 = x := ⟨_, rfl⟩
    rw [hqa] at XA
    rw [hqb] at XB
    rw [hqb, hqa]
    clear hqa hqb
    obtain ⟨ga, eA, xga, _⟩ := grow_at (vs := []) (v := .bool false) (by exact GA.out)
    subst eA
    have XG := Lib.hid (show w10.cell? ⟨ga, 0, none⟩ = some (.bool false) from xga)
    clear xga GA
    dsimp only [List.length_nil, List.length_cons] at XA XB
    have q27 : ∀ (a b c d : Int) (w : World), (binOp .eql 26 (.agg #[.int .u64 a, .int .u64 b, .int .u64 c, .int .u64 d]) (.agg #[.int .u64 a, .int .u64 b, .int .u64 c, .int .u64 d])).run Try.prog w = .ok (.bool true) w := fun a b c d w => by simp [binOp, go_sem, run_eq_loc]
    go_wp2_with (first | (go_at_call 14; go_loud (refine (live_any _).mono ?_); rintro e w11 ⟨rfl, hb11⟩; have YA := Lib.hid (hp_below XA.out hb11); have YB := Lib.hid (hp_below XB.out hb11); have YG := Lib.hid ((World.cell?_of_block (hb11.block ga (World.block_lt_of_cell? w10 _ XG.out))).trans XG.out); have RA := Lib.hid (row_below HA3.out hb11); have RB := Lib.hid (row_below HB3.out hb11); have BG := Lib.hid (BF.out.trans (hb11.mono BF.out.size)); clear hb11 XA XB XG HA3 HB3 BF; have x0 : w11.cell? ⟨qa, 0, none⟩ = some (.int .u8 1) := hp_cell (YA.out) 0; have x1 : w11.cell? ⟨qa, 1, none⟩ = some (.int .i64 10) := hp_cell (YA.out) 1; have x2 : w11.cell? ⟨qa, 2, none⟩ = some (.slice C1 0 c1) := hp_cell (YA.out) 2; have x3 : w11.cell? ⟨qa, 3, none⟩ = some (.int .u64 0) := hp_cell (YA.out) 3; have x4 : w11.cell? ⟨qa, 4, none⟩ = some (.int .u64 0) := hp_cell (YA.out) 4; have x5 : w11.cell? ⟨qa, 5, none⟩ = some (.int .u64 0) := hp_cell (YA.out) 5; have x6 : w11.cell? ⟨qa, 6, none⟩ = some (.int .u64 0) := hp_cell (YA.out) 6; have x7 : w11.cell? ⟨qa, 7, none⟩ = some (.slice C2 0 c2) := hp_cell (YA.out) 7; have x8 : w11.cell? ⟨qa, 8, none⟩ = some (.slice C3 H.length c3) := hp_cell (YA.out) 8; have x9 : w11.cell? ⟨qa, 9, none⟩ = some (.slice (some ⟨ga, 0, none⟩) 1 ca) := hp_cell (YA.out) 9; have x10 : w11.cell? ⟨qa, 10, none⟩ = some (.int .i64 0) := hp_cell (YA.out) 10; have xl := hp_lt (YA.out); have y0 : w11.cell? ⟨qb, 0, none⟩ = some (.int .u8 1) := hp_cell (YB.out) 0; have y1 : w11.cell? ⟨qb, 1, none⟩ = some (.int .i64 4) := hp_cell (YB.out) 1; have y2 : w11.cell? ⟨qb, 2, none⟩ = some (.slice D1 0 d1) := hp_cell (YB.out) 2; have y3 : w11.cell? ⟨qb, 3, none⟩ = some (.int .u64 0) := hp_cell (YB.out) 3; have y4 : w11.cell? ⟨qb, 4, none⟩ = some (.int .u64 0) := hp_cell (YB.out) 4; have y5 : w11.cell? ⟨qb, 5, none⟩ = some (.int .u64 0) := hp_cell (YB.out) 5; have y6 : w11.cell? ⟨qb, 6, none⟩ = some (.int .u64 0) := hp_cell (YB.out) 6; have y7 : w11.cell? ⟨qb, 7, none⟩ = some (.slice D2 0 d2) := hp_cell (YB.out) 7; have y8 : w11.cell? ⟨qb, 8, none⟩ = some (.slice D3 H.length d3) := hp_cell (YB.out) 8; have y9 : w11.cell? ⟨qb, 9, none⟩ = some (.slice Da 0 da) := hp_cell (YB.out) 9; have y10 : w11.cell? ⟨qb, 10, none⟩ = some (.int .i64 0) := hp_cell (YB.out) 10; have yl := hp_lt (YB.out)) | (go_at_call 18; refine (sameVals_yes C3 D3 c3 d3 H _ (Src.row RA.out HLL.out) (Src.row RB.out HLL.out)).mono ?_; rintro e w12 ⟨rfl, hd12⟩; have u0 : w12.cell? ⟨qa, 0, none⟩ = some (.int .u8 1) := hp_cell (drewN_hp hd12 YA.out) 0; have u1 : w12.cell? ⟨qa, 1, none⟩ = some (.int .i64 10) := hp_cell (drewN_hp hd12 YA.out) 1; have u2 : w12.cell? ⟨qa, 2, none⟩ = some (.slice C1 0 c1) := hp_cell (drewN_hp hd12 YA.out) 2; have u3 : w12.cell? ⟨qa, 3, none⟩ = some (.int .u64 0) := hp_cell (drewN_hp hd12 YA.out) 3; have u4 : w12.cell? ⟨qa, 4, none⟩ = some (.int .u64 0) := hp_cell (drewN_hp hd12 YA.out) 4; have u5 : w12.cell? ⟨qa, 5, none⟩ = some (.int .u64 0) := hp_cell (drewN_hp hd12 YA.out) 5; have u6 : w12.cell? ⟨qa, 6, none⟩ = some (.int .u64 0) := hp_cell (drewN_hp hd12 YA.out) 6; have u7 : w12.cell? ⟨qa, 7, none⟩ = some (.slice C2 0 c2) := hp_cell (drewN_hp hd12 YA.out) 7; have u8 : w12.cell? ⟨qa, 8, none⟩ = some (.slice C3 H.length c3) := hp_cell (drewN_hp hd12 YA.out) 8; have u9 : w12.cell? ⟨qa, 9, none⟩ = some (.slice (some ⟨ga, 0, none⟩) 1 ca) := hp_cell (drewN_hp hd12 YA.out) 9; have u10 : w12.cell? ⟨qa, 10, none⟩ = some (.int .i64 0) := hp_cell (drewN_hp hd12 YA.out) 10; have ul := hp_lt (drewN_hp hd12 YA.out); have v0 : w12.cell? ⟨qb, 0, none⟩ = some (.int .u8 1) := hp_cell (drewN_hp hd12 YB.out) 0; have v1 : w12.cell? ⟨qb, 1, none⟩ = some (.int .i64 4) := hp_cell (drewN_hp hd12 YB.out) 1; have v2 : w12.cell? ⟨qb, 2, none⟩ = some (.slice D1 0 d1) := hp_cell (drewN_hp hd12 YB.out) 2; have v3 : w12.cell? ⟨qb, 3, none⟩ = some (.int .u64 0) := hp_cell (drewN_hp hd12 YB.out) 3; have v4 : w12.cell? ⟨qb, 4, none⟩ = some (.int .u64 0) := hp_cell (drewN_hp hd12 YB.out) 4; have v5 : w12.cell? ⟨qb, 5, none⟩ = some (.int .u64 0) := hp_cell (drewN_hp hd12 YB.out) 5; have v6 : w12.cell? ⟨qb, 6, none⟩ = some (.int .u64 0) := hp_cell (drewN_hp hd12 YB.out) 6; have v7 : w12.cell? ⟨qb, 7, none⟩ = some (.slice D2 0 d2) := hp_cell (drewN_hp hd12 YB.out) 7; have v8 : w12.cell? ⟨qb, 8, none⟩ = some (.slice D3 H.length d3) := hp_cell (drewN_hp hd12 YB.out) 8; have v9 : w12.cell? ⟨qb, 9, none⟩ = some (.slice Da 0 da) := hp_cell (drewN_hp hd12 YB.out) 9; have v10 : w12.cell? ⟨qb, 10, none⟩ = some (.int .i64 0) := hp_cell (drewN_hp hd12 YB.out) 10; have vl := hp_lt (drewN_hp hd12 YB.out); have yg := (World.cell?_of_block ((drew_below hd12).block ga (World.block_lt_of_cell? w11 _ YG.out))).trans YG.out; have lg := World.block_lt_of_cell? w12 _ yg; have BH := Lib.hid (BG.out.trans ((drew_below hd12).mono BG.out.size)); clear hd12))
    go_ret
    exact ⟨rfl, BH.out⟩
  · go_upto_region 6 with fail
    have L4 := Lib.hid (heap_alloc_new w3 (.cells #[.int .u8 3, .int .i64 t, .int .u64 0] 42))
    have B4 := Lib.hid (B3.out.alloc B3.out.size (.cells #[.int .u8 3, .int .i64 t, .int .u64 0] 42))
    clear B3
    generalize World.alloc _ _ = w4 at L4 B4 ⊢
    generalize w3.heap.size = gL at L4 ⊢
    have s0 : w4.cell? ⟨gL, 0, none⟩ = some (.int .u8 3) := hp_cell L4.out 0
    have s1 : w4.cell? ⟨gL, 1, none⟩ = some (.int .i64 t) := hp_cell L4.out 1
    have s2 : w4.cell? ⟨gL, 2, none⟩ = some (.int .u64 0) := hp_cell L4.out 2
    have sl := hp_lt L4.out
    go_upto_region 9 with fail
    have e5 := heap_alloc_new w4 (.cells (insC (leftL t u v w' true)).toArray 42)
    have b5 := (Below.refl w4.heap.size w4).alloc (Nat.le_refl _) (.cells (insC (leftL t u v w' true)).toArray 42)
    have e6 := heap_alloc_new (w4.alloc (.cells (insC (leftL t u v w' true)).toArray 42)) (.cells (insC (rightL u w')).toArray 42)
    have e7 := heap_alloc_new ((w4.alloc (.cells (insC (leftL t u v w' true)).toArray 42)).alloc (.cells (insC (rightL u w')).toArray 42)) (.cells (valsC heap4).toArray 25)
    have e5 := hp_alloc (hp_alloc e5 (.cells (insC (rightL u w')).toArray 42)) (.cells (valsC heap4).toArray 25)
    have e6 := hp_alloc e6 (.cells (valsC heap4).toArray 25)
    have HB7 := (b5.alloc b5.size (.cells (insC (rightL u w')).toArray 42))
    have HB7 := HB7.alloc HB7.size (.cells (valsC heap4).toArray 25)
    have B7 := Lib.hid (B4.out.trans (HB7.mono B4.out.size))
    have n6 : (w4.alloc (.cells (insC (leftL t u v w' true)).toArray 42)).heap.size = w4.heap.size + 1 := by simp
    have n7 : ((w4.alloc (.cells (insC (leftL t u v w' true)).toArray 42)).alloc (.cells (insC (rightL u w')).toArray 42)).heap.size = w4.heap.size + 2 := by simp
    rw [n6] at e6
    rw [n7] at e7
    have okl : ∀ x ∈ leftL t u v w' true, x.ok := by
      have h1 := HT.out
      have h2 := HU.out
      have h3 := HV.out.2
      have h4 := HW.out.2
      unfold W64 at h3 h4
      intro x hx
      simp only [leftL, List.mem_cons, List.not_mem_nil, or_false] at hx
      rcases hx with rfl | rfl | rfl | rfl | rfl | rfl | rfl | rfl | rfl | rfl | rfl <;> (unfold Ins3.ok I64 W64; dsimp only [cond]; omega)
    have okr : ∀ x ∈ rightL u w', x.ok := by
      have h2 := HU.out
      have h4 := HW.out.2
      unfold W64 at h4
      intro x hx
      simp only [rightL, List.mem_cons, List.not_mem_nil, or_false] at hx
      rcases hx with rfl | rfl | rfl | rfl | rfl <;> (unfold Ins3.ok I64 W64; dsimp only [cond]; omega)
    have IL := Lib.hid (inss_made e5 okl (show 11 ≤ 1000 by decide))
    have IR := Lib.hid (inss_made e6 okr (show 5 ≤ 1000 by decide))
    have SH := Lib.hid (src_made (l := heap4) e7 (by decide) (by decide))
    clear e5 e6 e7 b5 HB7 n6 n7 okl okr B4 L4 s0 s1 s2 sl
    change Code.wp _ _ _ _ (((w4.alloc (.cells (insC (leftL t u v w' true)).toArray 42)).alloc (.cells (insC (rightL u w')).toArray 42)).alloc (.cells (valsC heap4).toArray 25))
    generalize World.alloc _ _ = w7 at IL IR SH B7 ⊢
    obtain ⟨q5, hq5⟩ : ∃ x, w4.heap.size = x := ⟨_, rfl⟩
    obtain ⟨q6, hq6⟩ : ∃ x, w4.heap.size + 1 = x := ⟨_, rfl⟩
    obtain ⟨q7, hq7⟩ : ∃ x, w4.heap.size + 2 = x := ⟨_, rfl⟩
    rw [hq5] at IL
    rw [hq6] at IR
    rw [hq7] at SH
    rw [hq7, hq6, hq5]
    clear hq5 hq6 hq7
    obtain ⟨H, hH, hHL⟩ : ∃ H, heap4.set u.toNat w' = H ∧ H.length ≤ 1000 := ⟨_, rfl, by rw [List.length_set]; decide⟩
    have HLL := Lib.hid hHL
    have RL := Lib.hid (show runF (leftL t u v w' true) (fuelF 100).toNat 20 St.zero heap4 [] = ⟨1, ⟨10, [], 0, 0, 0, 0, []⟩, heap4.set u.toNat w', [false], 0⟩ by rw [show (fuelF 100).toNat = 100 by decide]; exact left_run t u v w' true HT.out HU.out HV.out.1 HW.out.1)
    have RR := Lib.hid (show runF (rightL u w') (fuelF 100).toNat 20 St.zero heap4 [] = ⟨1, ⟨4, [], 0, 0, 0, 0, []⟩, heap4.set u.toNat w', [], 0⟩ by rw [show (fuelF 100).toNat = 100 by decide]; exact right_run u w' HU.out HW.out.1)
    rw [hH] at RL RR
    clear hH hHL
    go_upto_region 10 with (go_at_call 17; first | (have hx0 := T8; clear hx0; (refine (run_all (rightL u w') 5 (some ⟨q6, 0, none⟩) (Nat.le_refl 5) (show 5 ≤ 900 by decide) heap4 100 (by decide) (some ⟨q7, 0, none⟩) 4 _ (SH.out.below B8.out) (inss_below IR.out B8.out)).mono ?_); rintro e w9 hp9; rw [RR.out] at hp9; obtain ⟨hb9, D1, d1, D2, d2, D3, d3, Da, da, rfl, hat⟩ := hp9; unfold ocC; have B9 := Lib.hid hb9; have T9 := Lib.hid hat; clear hb9 hat) | ((refine (run_all (leftL t u v w' true) 11 (some ⟨q5, 0, none⟩) (Nat.le_refl 11) (show 11 ≤ 900 by decide) heap4 100 (by decide) (some ⟨q7, 0, none⟩) 4 _ SH.out IL.out).mono ?_); rintro e w8 hp8; rw [RL.out] at hp8; obtain ⟨hb8, C1, c1, C2, c2, C3, c3, Ca, ca, rfl, hat⟩ := hp8; unfold ocC; have B8 := Lib.hid hb8; have T8 := Lib.hid hat; clear hb8 hat))
    have z1 := (Below.refl w9.heap.size w9).alloc (Nat.le_refl _) (.cells (ocC ⟨1, ⟨10, [], 0, 0, 0, 0, []⟩, H, [false], 0⟩ C1 c1 C2 c2 C3 c3 Ca ca) 46)
    have z2 := z1.alloc z1.size (.cells (ocC ⟨1, ⟨4, [], 0, 0, 0, 0, []⟩, H, [], 0⟩ D1 d1 D2 d2 D3 d3 Da da) 46)
    have XA := Lib.hid (hp_alloc (heap_alloc_new w9 (.cells (ocC ⟨1, ⟨10, [], 0, 0, 0, 0, []⟩, H, [false], 0⟩ C1 c1 C2 c2 C3 c3 Ca ca) 46)) (.cells (ocC ⟨1, ⟨4, [], 0, 0, 0, 0, []⟩, H, [], 0⟩ D1 d1 D2 d2 D3 d3 Da da) 46))
    have XB := Lib.hid (show ((w9.alloc (.cells (ocC ⟨1, ⟨10, [], 0, 0, 0, 0, []⟩, H, [false], 0⟩ C1 c1 C2 c2 C3 c3 Ca ca) 46)).alloc (.cells (ocC ⟨1, ⟨4, [], 0, 0, 0, 0, []⟩, H, [], 0⟩ D1 d1 D2 d2 D3 d3 Da da) 46)).heap[w9.heap.size + 1]? = _ from (congrArg _ (by simp)).trans (heap_alloc_new (w9.alloc (.cells (ocC ⟨1, ⟨10, [], 0, 0, 0, 0, []⟩, H, [false], 0⟩ C1 c1 C2 c2 C3 c3 Ca ca) 46)) (.cells (ocC ⟨1, ⟨4, [], 0, 0, 0, 0, []⟩, H, [], 0⟩ D1 d1 D2 d2 D3 d3 Da da) 46)))
    have GA := Lib.hid (grow_below (grow_below T8.out.2.2.2.2.1 B9.out) z2)
    have HA3 := Lib.hid (row_below (row_below T8.out.2.2.2.1 B9.out) z2)
    have HB3 := Lib.hid (row_below T9.out.2.2.2.1 z2)
    have BF := Lib.hid (B7.out.trans ((B8.out.trans ((B9.out.trans (z2.mono B9.out.size)).mono B8.out.size)).mono B7.out.size))
    clear z1 z2 T8 T9 B8 B9 B7 IL IR SH RL RR
    unfold ocC at XA XB GA HA3 HB3 BF
    generalize World.alloc _ _ = w10 at XA XB GA HA3 HB3 BF ⊢
    obtain ⟨qa, hqa⟩ : ∃ x, w9.heap.size = x := ⟨_, rfl⟩
    obtain ⟨qb, hqb⟩ : ∃ x, w9.heap.size + 1 = x := ⟨_, rfl⟩
    rw [hqa] at XA
    rw [hqb] at XB
    rw [hqb, hqa]
    clear hqa hqb
    obtain ⟨ga, eA, xga, _⟩ := grow_at (vs := []) (v := .bool false) (by exact GA.out)
    subst eA
    have XG := Lib.hid (show w10.cell? ⟨ga, 0, none⟩ = some (.bool false) from xga)
    clear xga GA
    dsimp only [List.length_nil, List.length_cons] at XA XB
    have q27 : ∀ (a b c d : Int) (w : World), (binOp .eql 26 (.agg #[.int .u64 a, .int .u64 b, .int .u64 c, .int .u64 d]) (.agg #[.int .u64 a, .int .u64 b, .int .u64 c, .int .u64 d])).run Try.prog w = .ok (.bool true) w := fun a b c d w => by simp [binOp, go_sem, run_eq_loc]
    go_wp2_with (first | (go_at_call 14; go_loud (refine (live_any _).mono ?_); rintro e w11 ⟨rfl, hb11⟩; have YA := Lib.hid (hp_below XA.out hb11); have YB := Lib.hid (hp_below XB.out hb11); have YG := Lib.hid ((World.cell?_of_block (hb11.block ga (World.block_lt_of_cell? w10 _ XG.out))).trans XG.out); have RA := Lib.hid (row_below HA3.out hb11); have RB := Lib.hid (row_below HB3.out hb11); have BG := Lib.hid (BF.out.trans (hb11.mono BF.out.size)); clear hb11 XA XB XG HA3 HB3 BF; have x0 : w11.cell? ⟨qa, 0, none⟩ = some (.int .u8 1) := hp_cell (YA.out) 0; have x1 : w11.cell? ⟨qa, 1, none⟩ = some (.int .i64 10) := hp_cell (YA.out) 1; have x2 : w11.cell? ⟨qa, 2, none⟩ = some (.slice C1 0 c1) := hp_cell (YA.out) 2; have x3 : w11.cell? ⟨qa, 3, none⟩ = some (.int .u64 0) := hp_cell (YA.out) 3; have x4 : w11.cell? ⟨qa, 4, none⟩ = some (.int .u64 0) := hp_cell (YA.out) 4; have x5 : w11.cell? ⟨qa, 5, none⟩ = some (.int .u64 0) := hp_cell (YA.out) 5; have x6 : w11.cell? ⟨qa, 6, none⟩ = some (.int .u64 0) := hp_cell (YA.out) 6; have x7 : w11.cell? ⟨qa, 7, none⟩ = some (.slice C2 0 c2) := hp_cell (YA.out) 7; have x8 : w11.cell? ⟨qa, 8, none⟩ = some (.slice C3 H.length c3) := hp_cell (YA.out) 8; have x9 : w11.cell? ⟨qa, 9, none⟩ = some (.slice (some ⟨ga, 0, none⟩) 1 ca) := hp_cell (YA.out) 9; have x10 : w11.cell? ⟨qa, 10, none⟩ = some (.int .i64 0) := hp_cell (YA.out) 10; have xl := hp_lt (YA.out); have y0 : w11.cell? ⟨qb, 0, none⟩ = some (.int .u8 1) := hp_cell (YB.out) 0; have y1 : w11.cell? ⟨qb, 1, none⟩ = some (.int .i64 4) := hp_cell (YB.out) 1; have y2 : w11.cell? ⟨qb, 2, none⟩ = some (.slice D1 0 d1) := hp_cell (YB.out) 2; have y3 : w11.cell? ⟨qb, 3, none⟩ = some (.int .u64 0) := hp_cell (YB.out) 3; have y4 : w11.cell? ⟨qb, 4, none⟩ = some (.int .u64 0) := hp_cell (YB.out) 4; have y5 : w11.cell? ⟨qb, 5, none⟩ = some (.int .u64 0) := hp_cell (YB.out) 5; have y6 : w11.cell? ⟨qb, 6, none⟩ = some (.int .u64 0) := hp_cell (YB.out) 6; have y7 : w11.cell? ⟨qb, 7, none⟩ = some (.slice D2 0 d2) := hp_cell (YB.out) 7; have y8 : w11.cell? ⟨qb, 8, none⟩ = some (.slice D3 H.length d3) := hp_cell (YB.out) 8; have y9 : w11.cell? ⟨qb, 9, none⟩ = some (.slice Da 0 da) := hp_cell (YB.out) 9; have y10 : w11.cell? ⟨qb, 10, none⟩ = some (.int .i64 0) := hp_cell (YB.out) 10; have yl := hp_lt (YB.out)) | (go_at_call 18; refine (sameVals_yes C3 D3 c3 d3 H _ (Src.row RA.out HLL.out) (Src.row RB.out HLL.out)).mono ?_; rintro e w12 ⟨rfl, hd12⟩; have u0 : w12.cell? ⟨qa, 0, none⟩ = some (.int .u8 1) := hp_cell (drewN_hp hd12 YA.out) 0; have u1 : w12.cell? ⟨qa, 1, none⟩ = some (.int .i64 10) := hp_cell (drewN_hp hd12 YA.out) 1; have u2 : w12.cell? ⟨qa, 2, none⟩ = some (.slice C1 0 c1) := hp_cell (drewN_hp hd12 YA.out) 2; have u3 : w12.cell? ⟨qa, 3, none⟩ = some (.int .u64 0) := hp_cell (drewN_hp hd12 YA.out) 3; have u4 : w12.cell? ⟨qa, 4, none⟩ = some (.int .u64 0) := hp_cell (drewN_hp hd12 YA.out) 4; have u5 : w12.cell? ⟨qa, 5, none⟩ = some (.int .u64 0) := hp_cell (drewN_hp hd12 YA.out) 5; have u6 : w12.cell? ⟨qa, 6, none⟩ = some (.int .u64 0) := hp_cell (drewN_hp hd12 YA.out) 6; have u7 : w12.cell? ⟨qa, 7, none⟩ = some (.slice C2 0 c2) := hp_cell (drewN_hp hd12 YA.out) 7; have u8 : w12.cell? ⟨qa, 8, none⟩ = some (.slice C3 H.length c3) := hp_cell (drewN_hp hd12 YA.out) 8; have u9 : w12.cell? ⟨qa, 9, none⟩ = some (.slice (some ⟨ga, 0, none⟩) 1 ca) := hp_cell (drewN_hp hd12 YA.out) 9; have u10 : w12.cell? ⟨qa, 10, none⟩ = some (.int .i64 0) := hp_cell (drewN_hp hd12 YA.out) 10; have ul := hp_lt (drewN_hp hd12 YA.out); have v0 : w12.cell? ⟨qb, 0, none⟩ = some (.int .u8 1) := hp_cell (drewN_hp hd12 YB.out) 0; have v1 : w12.cell? ⟨qb, 1, none⟩ = some (.int .i64 4) := hp_cell (drewN_hp hd12 YB.out) 1; have v2 : w12.cell? ⟨qb, 2, none⟩ = some (.slice D1 0 d1) := hp_cell (drewN_hp hd12 YB.out) 2; have v3 : w12.cell? ⟨qb, 3, none⟩ = some (.int .u64 0) := hp_cell (drewN_hp hd12 YB.out) 3; have v4 : w12.cell? ⟨qb, 4, none⟩ = some (.int .u64 0) := hp_cell (drewN_hp hd12 YB.out) 4; have v5 : w12.cell? ⟨qb, 5, none⟩ = some (.int .u64 0) := hp_cell (drewN_hp hd12 YB.out) 5; have v6 : w12.cell? ⟨qb, 6, none⟩ = some (.int .u64 0) := hp_cell (drewN_hp hd12 YB.out) 6; have v7 : w12.cell? ⟨qb, 7, none⟩ = some (.slice D2 0 d2) := hp_cell (drewN_hp hd12 YB.out) 7; have v8 : w12.cell? ⟨qb, 8, none⟩ = some (.slice D3 H.length d3) := hp_cell (drewN_hp hd12 YB.out) 8; have v9 : w12.cell? ⟨qb, 9, none⟩ = some (.slice Da 0 da) := hp_cell (drewN_hp hd12 YB.out) 9; have v10 : w12.cell? ⟨qb, 10, none⟩ = some (.int .i64 0) := hp_cell (drewN_hp hd12 YB.out) 10; have vl := hp_lt (drewN_hp hd12 YB.out); have yg := (World.cell?_of_block ((drew_below hd12).block ga (World.block_lt_of_cell? w11 _ YG.out))).trans YG.out; have lg := World.block_lt_of_cell? w12 _ yg; have BH := Lib.hid (BG.out.trans ((drew_below hd12).mono BG.out.size)); clear hd12))
    go_ret
    exact ⟨rfl, BH.out⟩
end Go.Proofs.Ytlgpjcdlomhlcaa
