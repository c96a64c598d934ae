
/-
  rowlocktop.TopFuel: what a block comes to with some fuel it comes to with more.
-/
import Derived.Test.YtlgpjcdlomhlcaaSp16
import Derived.Deep.CutBlock
import Derived.Deep.LoopGhost
import Derived.WideShapes
import Derived.ChangeKeysEq
import Derived.OpenShut
import Derived.Lib.SmallJoins
namespace Go.Proofs.Ytlgpjcdlomhlcaa
open Go.RowKit Go.ChangeShapes Go.WideShapes
set_option linter.unusedSimpArgs false
set_option linter.unusedVariables false

theorem drewN_more {w w1 : World} (h : DrewN w w1) (n : Nat) : DrewN w (w1.drewN n) := by
  obtain ⟨m, rfl⟩ := h
  exact ⟨m + n, by simp⟩
theorem drewN_hp {w w1 : World} (h : DrewN w w1) {g : Nat} {o : Obj} (k : w.heap[g]? = some o) : w1.heap[g]? = some o := by
  obtain ⟨n, rfl⟩ := h
  exact k
theorem meas_step {n j : Nat} (h : j < n) (s5 : wrap64 ((j : Int) + 1) = (j : Int) + 1) : n - (intOf (.int .i64 (wrap64 ((j : Int) + 1)))).toNat < n - (intOf (.int .i64 (j : Int))).toNat := by
  rw [s5]
  simp only [intOf]
  omega
def VIn (w : World) (A : Option Addr) (n c : Nat) : Prop := ∃ l : List Int, l.length = n ∧ VCells w A l ∧ n ≤ c ∧ (A = none → c = 0)
theorem vin_of {H : Type} {enc : TypeId × Value → H} {W : World} {base : Nat} {spare : Nat → Bool} {held : Bool} {a : Option Addr} {len cap : Nat} {d : DataW H} {p : List MemPlace} (h : DataW.Trod enc Try.prog W base spare held 23 (.slice a len cap) d p) : VIn W a len cap := by
  obtain ⟨fuel, h⟩ := h
  rcases open_ints Try.underlying23 Try.underlying25 (by kernel_rfl) h with ⟨h0, _⟩ | ⟨a', len', cap', zs, hcs, hb, hl, hm, hlen, _, hx, hz⟩
  · obtain ⟨rfl, rfl, rfl⟩ : a = none ∧ len = 0 ∧ cap = 0 := by simpa [Value.cells] using h0
    exact ⟨[], rfl, ⟨fun v hv => (List.not_mem_nil hv).elim, fun _ => rfl, fun b e => by cases e⟩, Nat.le_refl _, fun _ => rfl⟩
  · obtain ⟨rfl, rfl, rfl⟩ : a = some a' ∧ len = len' ∧ cap = cap' := by simpa [Value.cells] using hcs
    have hj : ∀ j, j < len → j < zs.length := fun j hj => by rw [hlen]; split <;> omega
    refine ⟨(List.range len).map fun j => zs.getD j 0, by simp, ⟨fun v hv => ?_, (fun e => by cases e), fun b e j u hu => ?_⟩, hl, (fun e => by cases e)⟩
    · obtain ⟨j, hj1, rfl⟩ := List.mem_map.mp hv
      have hj' := hj j (List.mem_range.mp hj1)
      have hq := hz (zs.getD j 0) (by rw [List.getD_eq_getElem?_getD, List.getElem?_eq_getElem hj']; exact List.getElem_mem hj')
      have := bounds_u64 hq
      exact ⟨by omega, by omega⟩
    · obtain rfl := Option.some.inj e
      rw [valsC_get, List.getElem?_map] at hu
      by_cases hjl : j < len
      · rw [List.getElem?_range hjl] at hu
        simp only [Option.map_some, Option.some.injEq] at hu
        subst hu
        exact hx j (hj j hjl)
      · rw [List.getElem?_eq_none (by simp; omega)] at hu
        simp at hu
def U2 (v : Value) : Prop := ∃ f0 f1 : Int, v = .agg #[.int .u8 f0, .int .u8 f1] ∧ (0 ≤ f0 ∧ f0 ≤ 255) ∧ 0 ≤ f1 ∧ f1 ≤ 255
set_option maxRecDepth 100000 in
theorem u2_of {H : Type} {enc : TypeId × Value → H} {W : World} {base base' : Nat} {spare : Nat → Bool} {held : Bool} {v : Value} {d : DataW H} {p : List MemPlace} (hv : Value.okWide Try.prog W .any base' 37 v) (h : DataW.Trod enc Try.prog W base spare held 37 v d p) : U2 v := by
  have hu := Try.underlying37
  simp only [Value.okWide, hu] at hv
  obtain ⟨cs, rfl, hsz, _⟩ := hv
  have hC : Program.cellsOf Try.prog 37 = 2 := by kernel_rfl
  obtain ⟨c0, c1, rfl⟩ := Go.Joins.array2 (hsz.trans hC)
  obtain ⟨fuel, hf⟩ := h
  obtain ⟨xs, m, _, _, _, hx, hi⟩ := DataW.trod_array hu hf
  match xs, hx with
  | [y0, y1], _ =>
    obtain ⟨n0, e0, _, b0⟩ := DataW.trod_int (cs := [c0]) Try.underlying5 ((congrArg _ (by kernel_rfl)).trans (hi 0 (by decide)))
    obtain ⟨n1, e1, _, b1⟩ := DataW.trod_int (cs := [c1]) Try.underlying5 ((congrArg _ (by kernel_rfl)).trans (hi 1 (by decide)))
    simp only [List.cons.injEq, and_true] at e0 e1
    subst e0 e1
    exact ⟨n0, n1, rfl, bounds_u8 b0, bounds_u8 b1⟩
theorem run_eq_u64 (d : Nat) (a : Int) (w : World) : (Op.equalIn (d + 1) 25 (.int .u64 a) (.int .u64 a)).run Try.prog w = .ok true w := by
  simp only [Op.equalIn, Sem.run_bind, run_underlying Try.underlying25, Result.andThen_ok]
  simp
theorem run_eq_loc (a b c d : Int) (w : World) : (Op.equal 26 (.agg #[.int .u64 a, .int .u64 b, .int .u64 c, .int .u64 d]) (.agg #[.int .u64 a, .int .u64 b, .int .u64 c, .int .u64 d])).run Try.prog w = .ok true w := by
  obtain ⟨i0, hi, _⟩ := info_parts Val_info
  unfold Op.equal
  obtain ⟨dd, hd⟩ : ∃ dd, Op.maxDepth = dd + 1 + 1 := ⟨9998, by kernel_rfl⟩
  rw [hd]
  rw [run_equalIn_array _ (dd + 1) _ _ Try.underlying26 hi]
  have hC : Program.cellsOf Try.prog 25 = 1 := by kernel_rfl
  have hp : Program.plainKey Try.prog 25 = true := by kernel_rfl
  rw [hC]
  have hr : List.range 4 = [0, 1, 2, 3] := rfl
  rw [hr]
  have p0 := fun w => run_part_plain (w := w) hp (xs := #[Value.int .u64 a, .int .u64 b, .int .u64 c, .int .u64 d]) (off := 0) (v := .int .u64 a) rfl
  have p1 := fun w => run_part_plain (w := w) hp (xs := #[Value.int .u64 a, .int .u64 b, .int .u64 c, .int .u64 d]) (off := 1) (v := .int .u64 b) rfl
  have p2 := fun w => run_part_plain (w := w) hp (xs := #[Value.int .u64 a, .int .u64 b, .int .u64 c, .int .u64 d]) (off := 2) (v := .int .u64 c) rfl
  have p3 := fun w => run_part_plain (w := w) hp (xs := #[Value.int .u64 a, .int .u64 b, .int .u64 c, .int .u64 d]) (off := 3) (v := .int .u64 d) rfl
  simp [Op.eqItems, Sem.run_bind, p0, p1, p2, p3, run_eq_u64, Result.andThen_ok]
theorem neq_loc (a b c d : Int) (w : World) : (binOp .neq 26 (.agg #[.int .u64 a, .int .u64 b, .int .u64 c, .int .u64 d]) (.agg #[.int .u64 a, .int .u64 b, .int .u64 c, .int .u64 d])).run Try.prog w = .ok (.bool false) w := by
  simp [binOp, go_sem, run_eq_loc]
theorem fuel_law (l : List Ins3) (s : St) (hp : List Int) (a b : Nat) (hab : a ≤ b) : ocF s hp (blockF l s hp a) = ⟨3, s, hp, [], 11⟩ ∨ (ocF s hp (blockF l s hp b) = ocF s hp (blockF l s hp a) ∧ (ocF s hp (blockF l s hp a)).err ≠ 11 ∧ (ocF s hp (blockF l s hp a)).kind ≠ 0) := by
  by_cases h : blockF l s hp a = .error 11
  · left; rw [h]; rfl
  · right
    rw [blockF_more l s hp a b h hab]
    refine ⟨rfl, ?_⟩
    cases hr : blockF l s hp a with
    | error n =>
      refine ⟨fun e => h ?_, (show (3 : Int) ≠ 0 by decide)⟩
      rw [hr, show n = 11 from e]
    | ok q =>
      unfold ocF
      dsimp only
      split
      · exact ⟨(show (0 : Int) ≠ 11 by decide), (show (2 : Int) ≠ 0 by decide)⟩
      · exact ⟨(show (0 : Int) ≠ 11 by decide), (show (1 : Int) ≠ 0 by decide)⟩
set_option maxHeartbeats 8000000 in
set_option maxRecDepth 100000 in
theorem topFuel_walk (W : World) (A : Option Addr) (len cap : Nat) (hA : InsIn W A len cap) (A' : Option Addr) (len' cap' : Nat) (hV : VIn W A' len' cap') (v2 : Value) (h2 : U2 v2) :
    Calls Try.prog 8 #[.slice A len cap, .slice A' len' cap', v2] W fun e w' => e = .returned (.bool true) ∧ Below W.heap.size W w' := by
  obtain ⟨f0, f1, rfl, hf0, hf1⟩ := h2
  obtain ⟨l0, hl0, hs0, hc0, hn0⟩ := hA
  obtain ⟨h0, hh0, hv0, hd0, hm0⟩ := hV
  have KW := Lib.hid (show wrap64 (f0 + f1) = f0 + f1 ∧ wrap64 f0 = f0 ∧ wrap64 f1 = f1 from ⟨by unfold wrap64; omega, by unfold wrap64; omega, by unfold wrap64; omega⟩)
  obtain ⟨nl, l, hl, hS, hl64, hlc, hcase⟩ : ∃ nl l, l.length = nl ∧ InssAt W A l ∧ nl ≤ 64 ∧ nl ≤ cap ∧ ((nl = 64 ∧ 64 < len) ∨ (nl = len ∧ ¬ 64 < len)) := by
    by_cases h : 64 < len
    · exact ⟨64, l0.take 64, by simp; omega, inss_take hs0 64, Nat.le_refl _, by omega, .inl ⟨rfl, h⟩⟩
    · exact ⟨len, l0, hl0, hs0, by omega, hc0, .inr ⟨rfl, h⟩⟩
  obtain ⟨nh, hp, hh, hX, hh12, hhc, hcase'⟩ : ∃ nh hp, hp.length = nh ∧ VCells W A' hp ∧ nh ≤ 12 ∧ nh ≤ cap' ∧ ((nh = 12 ∧ 12 < len') ∨ (nh = len' ∧ ¬ 12 < len')) := by
    by_cases h : 12 < len'
    · refine ⟨12, h0.take 12, by simp; omega, ⟨fun v hv => hv0.1 v (List.mem_of_mem_take hv), fun e => by rw [hv0.2.1 e]; rfl, fun b e j u hj => hv0.2.2 b e j u ?_⟩, Nat.le_refl _, by omega, .inl ⟨rfl, h⟩⟩
      rw [valsC_get, List.getElem?_take] at hj
      rw [valsC_get]
      split at hj
      · exact hj
      · simp at hj
    · exact ⟨len', h0, hh0, hv0, by omega, hd0, .inr ⟨rfl, h⟩⟩
  have HB := Lib.hid (fun (most : Int) (w1 : World) (hb : Below W.heap.size W w1) => block_sp l cap A (by omega) (by omega) St.zero ⟨⟨by decide, by decide⟩, ⟨by decide, by decide⟩, ⟨by decide, by decide⟩, ⟨by decide, by decide⟩, by decide, by decide⟩ hp most (Nat.zero_le _) (Nat.zero_le _) (by omega) none 0 none 0 A' cap' w1 (Src.row (row_nil w1 0) (Nat.zero_le _)) (Src.row (row_nil w1 0) (Nat.zero_le _)) ⟨vcells_below hX hb, by omega, hm0, by omega⟩ (inss_below hS hb))
  rw [hl, hh] at HB
  have hlaw := fuel_law l St.zero hp (fuelF f0).toNat (fuelF (f0 + f1)).toNat (by unfold fuelF; omega)
  have hsm : sameB 4607182418800017408 4607182418800017408 = true := by decide
  have hlen64 : (64 < len ∧ decide ((len : Int) > 64) = true ∧ decide ((64 : Int) < (len : Int)) = true ∧ decide (64 < len) = true) ∨ (¬ 64 < len ∧ decide ((len : Int) > 64) = false ∧ decide ((64 : Int) < (len : Int)) = false ∧ decide (64 < len) = false) := by
    by_cases h : 64 < len
    · exact .inl ⟨h, decide_eq_true (by omega), decide_eq_true (by omega), decide_eq_true h⟩
    · exact .inr ⟨h, decide_eq_false (by omega), decide_eq_false (by omega), decide_eq_false h⟩
  have hlen12 : (12 < len' ∧ decide ((len' : Int) > 12) = true ∧ decide ((12 : Int) < (len' : Int)) = true ∧ decide (12 < len') = true) ∨ (¬ 12 < len' ∧ decide ((len' : Int) > 12) = false ∧ decide ((12 : Int) < (len' : Int)) = false ∧ decide (12 < len') = false) := by
    by_cases h : 12 < len'
    · exact .inl ⟨h, decide_eq_true (by omega), decide_eq_true (by omega), decide_eq_true h⟩
    · exact .inr ⟨h, decide_eq_false (by omega), decide_eq_false (by omega), decide_eq_false h⟩
  have hcap1 : (nl : Int) ≤ (cap : Int) := by omega
  have hcap2 : (nh : Int) ≤ (cap' : Int) := by omega
  clear hf0 hf1 hl0 hs0 hc0 hn0 hh0 hv0 hd0 hm0 hl hS hl64 hh hX hh12
  obtain ⟨kw, kw0, kw1⟩ := KW.out
  rcases hlaw with h11 | ⟨heq, hne, hkd⟩
  · have HO1 := Lib.hid h11
    obtain ⟨o2, ho2⟩ : ∃ o, ocF St.zero hp (blockF l St.zero hp (fuelF (f0 + f1)).toNat) = o := ⟨_, rfl⟩
    have HO2 := Lib.hid ho2
    clear h11 ho2
    rcases hcase with ⟨rfl, k1⟩ | ⟨rfl, k1⟩ <;> rcases hcase' with ⟨rfl, k2⟩ | ⟨rfl, k2⟩ <;> rcases hlen64 with ⟨m1, m2, m3, m4⟩ | ⟨m1, m2, m3, m4⟩ <;> rcases hlen12 with ⟨n1, n2, n3, n4⟩ | ⟨n1, n2, n3, n4⟩ <;> first | exact absurd k1 m1 | exact absurd m1 k1 | exact absurd k2 n1 | exact absurd n1 k2 | skip
    all_goals
      clear k1 k2 m1 n1
      go_enter Try.func8, Try.ntmps8
      go_wp2_with (first | (go_at_call 22; have hBx := B1; clear hBx; refine (HB.out (f0 + f1) _ (by exact B1.out.alloc B1.out.size _)).mono ?_; rintro e w2 hp2; rw [HO2.out] at hp2; (obtain ⟨hb2, A1', c1', A2', c2', A3', c3', Aa', ca', rfl, hat⟩ := hp2); unfold ocC; have V7 := Lib.hid (hp_below (heap_alloc_new w1 _) hb2); have B2 := Lib.hid ((B1.out.alloc B1.out.size _).trans (hb2.mono (Nat.le_trans B1.out.size (by simp)))); have D2 := Lib.hid hb2; have AT2 := Lib.hid hat; have a0 : w2.cell? ⟨w1.heap.size, 0, none⟩ = some (.int .u8 3) := hp_cell V7.out 0; have a1 : w2.cell? ⟨w1.heap.size, 1, none⟩ = some (.int .i64 0) := hp_cell V7.out 1; have a2 : w2.cell? ⟨w1.heap.size, 2, none⟩ = some (.slice A1 0 c1) := hp_cell V7.out 2; have a3 : w2.cell? ⟨w1.heap.size, 3, none⟩ = some (.int .u64 0) := hp_cell V7.out 3; have a4 : w2.cell? ⟨w1.heap.size, 4, none⟩ = some (.int .u64 0) := hp_cell V7.out 4; have a5 : w2.cell? ⟨w1.heap.size, 5, none⟩ = some (.int .u64 0) := hp_cell V7.out 5; have a6 : w2.cell? ⟨w1.heap.size, 6, none⟩ = some (.int .u64 0) := hp_cell V7.out 6; have a7 : w2.cell? ⟨w1.heap.size, 7, none⟩ = some (.slice A2 0 c2) := hp_cell V7.out 7; have a8 : w2.cell? ⟨w1.heap.size, 8, none⟩ = some (.slice A3 hp.length c3) := hp_cell V7.out 8; have a9 : w2.cell? ⟨w1.heap.size, 9, none⟩ = some (.slice Aa 0 ca) := hp_cell V7.out 9; have a10 : w2.cell? ⟨w1.heap.size, 10, none⟩ = some (.int .i64 11) := hp_cell V7.out 10; have l7 := hp_lt V7.out; clear hb2 hat kw kw0 kw1) | (go_at_call 22; refine (HB.out f0 _ (by exact (Below.refl _ _).alloc (Nat.le_refl _) _)).mono ?_; rintro e w1 hp1; rw [HO1.out] at hp1; (obtain ⟨hb1, A1, c1, A2, c2, A3, c3, Aa, ca, rfl, hat⟩ := hp1); unfold ocC; have B1 := Lib.hid (((Below.refl W.heap.size W).alloc (Nat.le_refl _) _).trans (hb1.mono (by simp))); have AT1 := Lib.hid hat; have X1 := Lib.hid (hp_below (heap_alloc_new W (.cells #[.int .u8 f0, .int .u8 f1] 37)) hb1); have xf0 : w1.cell? ⟨W.heap.size, 0, none⟩ = some (.int .u8 f0) := hp_cell X1.out 0; have xf1 : w1.cell? ⟨W.heap.size, 1, none⟩ = some (.int .u8 f1) := hp_cell X1.out 1; have lxf := hp_lt X1.out; clear hb1 hat) | (go_at_call 23; refine (same_any 4607182418800017408 4607182418800017408 ⟨by decide, by decide⟩ ⟨by decide, by decide⟩ _).mono ?_; rintro e w' ⟨rfl, rfl⟩; rw [hsm]))
      go_ret
      exact ⟨rfl, B2.out.alloc B2.out.size _⟩
  · obtain ⟨o, ho⟩ : ∃ o, ocF St.zero hp (blockF l St.zero hp (fuelF f0).toNat) = o := ⟨_, rfl⟩
    rw [ho] at heq hne hkd
    have HO1 := Lib.hid ho
    have HO2 := Lib.hid heq
    have t1 : (o.err == 11) = false := beq_eq_false_iff_ne.2 hne
    have tk : (o.kind != 0) = true := by rw [bne_iff_ne]; exact hkd
    have q26 := neq_loc
    clear ho heq hne hkd
    rcases hcase with ⟨rfl, k1⟩ | ⟨rfl, k1⟩ <;> rcases hcase' with ⟨rfl, k2⟩ | ⟨rfl, k2⟩ <;> rcases hlen64 with ⟨m1, m2, m3, m4⟩ | ⟨m1, m2, m3, m4⟩ <;> rcases hlen12 with ⟨n1, n2, n3, n4⟩ | ⟨n1, n2, n3, n4⟩ <;> first | exact absurd k1 m1 | exact absurd m1 k1 | exact absurd k2 n1 | exact absurd n1 k2 | skip
    all_goals
      clear k1 k2 m1 n1
      go_enter Try.func8, Try.ntmps8
      go_upto_region 7 with (first | (go_at_call 22; have hBx := B1; clear hBx; refine (HB.out (f0 + f1) _ (by exact B1.out.alloc B1.out.size _)).mono ?_; rintro e w2 hp2; rw [HO2.out] at hp2; (obtain ⟨hb2, A1', c1', A2', c2', A3', c3', Aa', ca', rfl, hat⟩ := hp2); unfold ocC; have V7 := Lib.hid (hp_below (heap_alloc_new w1 _) hb2); have B2 := Lib.hid ((B1.out.alloc B1.out.size _).trans (hb2.mono (Nat.le_trans B1.out.size (by simp)))); have D2 := Lib.hid hb2; have AT2 := Lib.hid hat; clear hb2 hat kw kw0 kw1) | (go_at_call 22; refine (HB.out f0 _ (by exact (Below.refl _ _).alloc (Nat.le_refl _) _)).mono ?_; rintro e w1 hp1; rw [HO1.out] at hp1; (obtain ⟨hb1, A1, c1, A2, c2, A3, c3, Aa, ca, rfl, hat⟩ := hp1); unfold ocC; have B1 := Lib.hid (((Below.refl W.heap.size W).alloc (Nat.le_refl _) _).trans (hb1.mono (by simp))); have AT1 := Lib.hid hat; have X1 := Lib.hid (hp_below (heap_alloc_new W (.cells #[.int .u8 f0, .int .u8 f1] 37)) hb1); have xf0 : w1.cell? ⟨W.heap.size, 0, none⟩ = some (.int .u8 f0) := hp_cell X1.out 0; have xf1 : w1.cell? ⟨W.heap.size, 1, none⟩ = some (.int .u8 f1) := hp_cell X1.out 1; have lxf := hp_lt X1.out; clear hb1 hat))
      have VF := Lib.hid (hp_alloc V7.out (.cells (ocC o A1' c1' A2' c2' A3' c3' Aa' ca') 46))
      have UF := Lib.hid (heap_alloc_new w2 (.cells (ocC o A1' c1' A2' c2' A3' c3' Aa' ca') 46))
      have RA := Lib.hid (row_below (row_below (row_below AT1.out.2.2.2.1 ((Below.refl _ _).alloc (Nat.le_refl _) (.cells (ocC o A1 c1 A2 c2 A3 c3 Aa ca) 46))) D2.out) ((Below.refl w2.heap.size w2).alloc (Nat.le_refl _) (.cells (ocC o A1' c1' A2' c2' A3' c3' Aa' ca') 46)))
      have RB := Lib.hid (row_below AT2.out.2.2.2.1 ((Below.refl w2.heap.size w2).alloc (Nat.le_refl _) (.cells (ocC o A1' c1' A2' c2' A3' c3' Aa' ca') 46)))
      have BF := Lib.hid (B2.out.alloc B2.out.size (.cells (ocC o A1' c1' A2' c2' A3' c3' Aa' ca') 46))
      unfold ocC at VF UF RA RB BF
      generalize w2.alloc _ = wF at VF UF RA RB BF ⊢
      generalize hg1 : w1.heap.size = g1 at VF ⊢
      generalize hg2 : w2.heap.size = g2 at UF ⊢
      have a0 : wF.cell? ⟨g1, 0, none⟩ = some (.int .u8 o.kind) := hp_cell VF.out 0; have a1 : wF.cell? ⟨g1, 1, none⟩ = some (.int .i64 o.s.pc) := hp_cell VF.out 1; have a2 : wF.cell? ⟨g1, 2, none⟩ = some (.slice A1 o.s.stk.length c1) := hp_cell VF.out 2; have a3 : wF.cell? ⟨g1, 3, none⟩ = some (.int .u64 o.s.la) := hp_cell VF.out 3; have a4 : wF.cell? ⟨g1, 4, none⟩ = some (.int .u64 o.s.lb) := hp_cell VF.out 4; have a5 : wF.cell? ⟨g1, 5, none⟩ = some (.int .u64 o.s.lc) := hp_cell VF.out 5; have a6 : wF.cell? ⟨g1, 6, none⟩ = some (.int .u64 o.s.ld) := hp_cell VF.out 6; have a7 : wF.cell? ⟨g1, 7, none⟩ = some (.slice A2 o.s.out.length c2) := hp_cell VF.out 7; have a8 : wF.cell? ⟨g1, 8, none⟩ = some (.slice A3 o.hp.length c3) := hp_cell VF.out 8; have a9 : wF.cell? ⟨g1, 9, none⟩ = some (.slice Aa o.arms.length ca) := hp_cell VF.out 9; have a10 : wF.cell? ⟨g1, 10, none⟩ = some (.int .i64 o.err) := hp_cell VF.out 10; have b0 : wF.cell? ⟨g2, 0, none⟩ = some (.int .u8 o.kind) := hp_cell UF.out 0; have b1 : wF.cell? ⟨g2, 1, none⟩ = some (.int .i64 o.s.pc) := hp_cell UF.out 1; have b2 : wF.cell? ⟨g2, 2, none⟩ = some (.slice A1' o.s.stk.length c1') := hp_cell UF.out 2; have b3 : wF.cell? ⟨g2, 3, none⟩ = some (.int .u64 o.s.la) := hp_cell UF.out 3; have b4 : wF.cell? ⟨g2, 4, none⟩ = some (.int .u64 o.s.lb) := hp_cell UF.out 4; have b5 : wF.cell? ⟨g2, 5, none⟩ = some (.int .u64 o.s.lc) := hp_cell UF.out 5; have b6 : wF.cell? ⟨g2, 6, none⟩ = some (.int .u64 o.s.ld) := hp_cell UF.out 6; have b7 : wF.cell? ⟨g2, 7, none⟩ = some (.slice A2' o.s.out.length c2') := hp_cell UF.out 7; have b8 : wF.cell? ⟨g2, 8, none⟩ = some (.slice A3' o.hp.length c3') := hp_cell UF.out 8; have b9 : wF.cell? ⟨g2, 9, none⟩ = some (.slice Aa' o.arms.length ca') := hp_cell UF.out 9; have b10 : wF.cell? ⟨g2, 10, none⟩ = some (.int .i64 o.err) := hp_cell UF.out 10; have lg1 := hp_lt VF.out; have lg2 := hp_lt UF.out
      have HLN := Lib.hid (show o.hp.length ≤ maxLen from by
        obtain ⟨A', c', hv, h2, h3, _⟩ := vals_own (ok := fun _ => True) RA.out.1 RA.out.2 (fun _ _ => trivial)
        exact Nat.le_trans h2 h3)
      clear hg1 hg2 m2 m3 m4 n2 n3 n4
      go_wp2_with fail
      go_loopw [9] (fun t w' => ∃ (j : Nat), j ≤ o.hp.length ∧ t = .int .i64 j ∧ Hid (DrewN wF w')) (fun t _ => o.hp.length - (intOf t).toNat)
      case atStart => exact ⟨0, by omega, rfl, Lib.hid (DrewN.refl _)⟩
      case round =>
        obtain ⟨j, hj, rfl, HD⟩ := hrel
        obtain ⟨nd, hnd⟩ := HD.out
        have VR := Lib.hid (drewN_hp HD.out VF.out)
        have UR := Lib.hid (drewN_hp HD.out UF.out)
        have RAr := Lib.hid (show RowAt wr _ A3 c3 o.hp by rw [hnd]; exact row_below RA.out (bl_drewN (Below.refl _ _) nd))
        have RBr := Lib.hid (show RowAt wr _ A3' c3' o.hp by rw [hnd]; exact row_below RB.out (bl_drewN (Below.refl _ _) nd))
        have e0 : wr.cell? ⟨g1, 0, none⟩ = some (.int .u8 o.kind) := hp_cell VR.out 0
        have e8 : wr.cell? ⟨g1, 8, none⟩ = some (.slice A3 o.hp.length c3) := hp_cell VR.out 8
        have f8 : wr.cell? ⟨g2, 8, none⟩ = some (.slice A3' o.hp.length c3') := hp_cell UR.out 8
        have lr1 := hp_lt VR.out
        have lr2 := hp_lt UR.out
        clear hnd a0 a1 a2 a3 a4 a5 a6 a7 a8 a9 a10 b0 b1 b2 b3 b4 b5 b6 b7 b8 b9 b10 lg1 lg2
        by_cases hlt : j < o.hp.length
        · obtain ⟨ga, ea, xa, _, la⟩ := row_head RAr.out hlt
          obtain ⟨gb, eb, xb, _, lb⟩ := row_head RBr.out hlt
          subst ea
          subst eb
          have s1 : decide ((j : Int) < (o.hp.length : Int)) = true := decide_eq_true (by omega)
          have s2 : decide (j < o.hp.length) = true := decide_eq_true hlt
          have s3 : (j : Int) < (o.hp.length : Int) := by omega
          have s4 : (0 : Int) ≤ (j : Int) := by omega
          have s5 : wrap64 ((j : Int) + 1) = (j : Int) + 1 := by have := HLN.out; unfold maxLen at this; unfold wrap64; omega
          go_wp2_with fail
          go_quiet (fail)
          go_wp2_with fail
          go_roundw
          case rel => exact ⟨j + 1, hlt, by rw [s5]; rfl, Lib.hid (drewN_more HD.out nq)⟩
          case measure => exact meas_step hlt s5
        · have s1 : decide ((j : Int) < (o.hp.length : Int)) = false := decide_eq_false (by omega)
          have s2 : decide (j < o.hp.length) = false := decide_eq_false hlt
          go_wp2_with fail
          go_ret
          exact ⟨rfl, by obtain ⟨nd, hnd⟩ := HD.out; rw [hnd]; exact bl_drewN BF.out _⟩
end Go.Proofs.Ytlgpjcdlomhlcaa
