
/-
  rowlockref17.Step.
-/
import Derived.Test.YtlgpjcdlomhlcaaSp29
import Derived.Test.YtlgpjcdlomhlcaaSp22a
import Derived.Test.YtlgpjcdlomhlcaaSp5b
import Derived.Test.YtlgpjcdlomhlcaaSp10
namespace Go.Proofs.Ytlgpjcdlomhlcaa
open Go.RowKit Go.ChangeShapes Go.WideShapes
set_option linter.unusedSimpArgs false
set_option linter.unusedVariables false

def RPost (r : Except Int St) (w : World) (e : Ending) (w' : World) : Prop := Below w.heap.size w w' ∧ match r with
  | .ok t => ∃ A1 c1 A2 c2, e = .returned (.tuple #[stV t A1 c1 A2 c2, .int .i64 0]) ∧ RowAt w' w.heap.size A1 c1 t.stk ∧ RowAt w' w.heap.size A2 c2 t.out
  | .error n => e = .returned (.tuple #[stV St.zero none 0 none 0, .int .i64 n])
theorem row_form {w : World} {A : Option Addr} {c : Nat} {l : List Int} {base : Nat} (h : RowAt w base A c l) : (A = none ∧ l.length = 0 ∧ c = 0) ∨ ∃ gd, A = some ⟨gd, 0, none⟩ := by
  rcases h.1.2 with ⟨hn, h0⟩ | ⟨g', cap, cur, hv, _⟩
  · simp only [Value.slice.injEq] at hn
    exact .inl ⟨hn.1, h0, hn.2.2⟩
  · simp only [Value.slice.injEq] at hv
    exact .inr ⟨g', hv.1⟩
theorem src_made1 {w : World} {v : Int} (hv : W64 v) : Src (w.alloc (.cells #[.int .u64 v] 25)) (some ⟨w.heap.size, 0, none⟩) 1 [v] :=
  ⟨vcells_of (vals_at1 hv (heap_alloc_new w _)), Nat.le_refl _, (fun e => by cases e), by simp⟩
theorem row_at2 {w : World} {base gd c N : Nat} {l m : List Int} {a : Int} (h : RowAt w base (some ⟨gd, 0, none⟩) c l) (hl : l = m ++ [a]) (hN : m.length = N) : w.cell? ⟨gd, N, none⟩ = some (.int .u64 a) := by
  obtain ⟨g', e, hc, _⟩ := row_head h (i := N) (by rw [hl]; simp; omega)
  obtain rfl : gd = g' := by simpa using e
  rw [hc, hl]
  unfold hvAt
  simp [← hN]
theorem row_at3 {w : World} {base gd c N : Nat} {l m : List Int} {a b : Int} (h : RowAt w base (some ⟨gd, 0, none⟩) c l) (hl : l = m ++ [a] ++ [b]) (hN : m.length = N) : w.cell? ⟨gd, N, none⟩ = some (.int .u64 a) ∧ w.cell? ⟨gd, N + 1, none⟩ = some (.int .u64 b) := by
  obtain ⟨g', e, hc, _⟩ := row_head h (i := N) (by rw [hl]; simp; omega)
  obtain rfl : gd = g' := by simpa using e
  obtain ⟨g', e, hc', _⟩ := row_head h (i := N + 1) (by rw [hl]; simp; omega)
  obtain rfl : gd = g' := by simpa using e
  rw [hc, hc', hl]
  unfold hvAt
  simp [← hN]
theorem nb_new {x b : Nat} {w : World} {o : Obj} (h : w.heap[x]? = some o) (hb : b = w.heap.size := by rfl) : some x ≠ blk (some ⟨b, 0, none⟩) := fun e => by
  have := hp_lt h
  simp [blk] at e
  omega
theorem nb_lt {x b : Nat} {w : World} {o : Obj} (h : w.heap[x]? = some o) (hb : w.heap.size ≤ b) : some x ≠ blk (some ⟨b, 0, none⟩) := fun e => by
  have := hp_lt h
  simp [blk] at e
  omega
theorem row_nb {x : Nat} {w : World} {A : Option Addr} {c : Nat} {l : List Int} {cs : Array Value} {t : TypeId} {base : Nat} (h : RowAt w base A c l) (hx : w.heap[x]? = some (.cells cs t (0, 0))) (ht : 25 ≠ t) : some x ≠ blk A := fun e => by
  obtain ⟨cs', hc⟩ := row_typed h x e.symm
  exact hp_ne hc hx ht rfl
theorem row_nx3 {x : Nat} {w : World} {A : Option Addr} {c : Nat} {l : List Int} {cs : Array Value} {t : TypeId} {base : Nat} (h : RowAt w base A c l) (hx : w.heap[x]? = some (.cells cs t (0, 0))) (ht : 25 ≠ t) : ∀ k, blk A = some k → k ≠ x := fun k hk => by
  obtain ⟨cs', hc⟩ := row_typed h k hk
  exact hp_ne hc hx ht
set_option maxRecDepth 20000 in
set_option maxHeartbeats 8000000 in
theorem refStep_e1 (l : List Ins3) (c : Nat) (A : Option Addr) (hlc : l.length ≤ c) (hll : l.length ≤ 900) (s : St) (hn : s.stk.length ≤ 800) (hro : s.out.length ≤ 800) (A1 : Option Addr) (c1 : Nat) (A2 : Option Addr) (c2 : Nat) (w : World) (h1 : Src w A1 c1 s.stk) (h2 : Src w A2 c2 s.out) (hi : InssAt w A l) (hpc : ¬ 0 ≤ s.pc) : Calls Try.prog 13 #[.slice A l.length c, stV s A1 c1 A2 c2] w (RPost (.error 3) w) := by
  have d : decide (s.pc < 0) = true := decide_eq_true (by omega)
  have z1 := (Below.refl w.heap.size w).alloc (Nat.le_refl _) (.cells #[.int .i64 s.pc, .slice A1 s.stk.length c1, .int .u64 s.la, .int .u64 s.lb, .int .u64 s.lc, .int .u64 s.ld, .slice A2 s.out.length c2] 28)
  have z2 := z1.alloc z1.size (.cells #[.int .i64 0, .slice none 0 0, .int .u64 0, .int .u64 0, .int .u64 0, .int .u64 0, .slice none 0 0] 28)
  have X1 := Lib.hid (hp_alloc (heap_alloc_new w (.cells #[.int .i64 s.pc, .slice A1 s.stk.length c1, .int .u64 s.la, .int .u64 s.lb, .int .u64 s.lc, .int .u64 s.ld, .slice A2 s.out.length c2] 28)) (.cells #[.int .i64 0, .slice none 0 0, .int .u64 0, .int .u64 0, .int .u64 0, .int .u64 0, .slice none 0 0] 28))
  have Y1 := Lib.hid (show ((w.alloc (.cells #[.int .i64 s.pc, .slice A1 s.stk.length c1, .int .u64 s.la, .int .u64 s.lb, .int .u64 s.lc, .int .u64 s.ld, .slice A2 s.out.length c2] 28)).alloc (.cells #[.int .i64 0, .slice none 0 0, .int .u64 0, .int .u64 0, .int .u64 0, .int .u64 0, .slice none 0 0] 28)).heap[w.heap.size + 1]? = some (.cells #[.int .i64 0, .slice none 0 0, .int .u64 0, .int .u64 0, .int .u64 0, .int .u64 0, .slice none 0 0] 28 (0, 0)) from (congrArg _ (by simp)).trans (heap_alloc_new (w.alloc (.cells #[.int .i64 s.pc, .slice A1 s.stk.length c1, .int .u64 s.la, .int .u64 s.lb, .int .u64 s.lc, .int .u64 s.ld, .slice A2 s.out.length c2] 28)) (.cells #[.int .i64 0, .slice none 0 0, .int .u64 0, .int .u64 0, .int .u64 0, .int .u64 0, .slice none 0 0] 28)))
  have B1 := Lib.hid z2
  have HI := Lib.hid hi
  have G1 := Lib.hid h1
  have G2 := Lib.hid h2
  clear z1 z2 h1 h2 hi
  unfold stV stC
  go_enter Try.func13, Try.ntmps13
  go_upto_region 1 with fail
  generalize World.alloc _ _ = w2 at X1 Y1 B1 ⊢
  obtain ⟨g, hg⟩ : ∃ g, w.heap.size = g := ⟨_, rfl⟩
  obtain ⟨r, hr⟩ : ∃ r, w.heap.size + 1 = r := ⟨_, rfl⟩
  rw [hg] at X1
  rw [hr] at Y1
  rw [hr, hg]
  have gr : g ≠ r := by omega
  have gb : w.heap.size ≤ g := by omega
  have rb : w.heap.size ≤ r := by omega
  have GR := Lib.hid (And.intro gr (And.intro gb rb))
  clear hg hr gr gb rb
  have x0 : w2.cell? ⟨g, 0, none⟩ = some (.int .i64 s.pc) := hp_cell (X1.out) 0; have x1 : w2.cell? ⟨g, 1, none⟩ = some (.slice A1 s.stk.length c1) := hp_cell (X1.out) 1; have x2 : w2.cell? ⟨g, 2, none⟩ = some (.int .u64 s.la) := hp_cell (X1.out) 2; have x3 : w2.cell? ⟨g, 3, none⟩ = some (.int .u64 s.lb) := hp_cell (X1.out) 3; have x4 : w2.cell? ⟨g, 4, none⟩ = some (.int .u64 s.lc) := hp_cell (X1.out) 4; have x5 : w2.cell? ⟨g, 5, none⟩ = some (.int .u64 s.ld) := hp_cell (X1.out) 5; have x6 : w2.cell? ⟨g, 6, none⟩ = some (.slice A2 s.out.length c2) := hp_cell (X1.out) 6; have xl := hp_lt (X1.out)
  have y0 : w2.cell? ⟨r, 0, none⟩ = some (.int .i64 0) := hp_cell (Y1.out) 0; have yz0 := hp_frozen (Y1.out) 0; have y1 : w2.cell? ⟨r, 1, none⟩ = some (.slice none 0 0) := hp_cell (Y1.out) 1; have yz1 := hp_frozen (Y1.out) 1; have y2 : w2.cell? ⟨r, 2, none⟩ = some (.int .u64 0) := hp_cell (Y1.out) 2; have yz2 := hp_frozen (Y1.out) 2; have y3 : w2.cell? ⟨r, 3, none⟩ = some (.int .u64 0) := hp_cell (Y1.out) 3; have yz3 := hp_frozen (Y1.out) 3; have y4 : w2.cell? ⟨r, 4, none⟩ = some (.int .u64 0) := hp_cell (Y1.out) 4; have yz4 := hp_frozen (Y1.out) 4; have y5 : w2.cell? ⟨r, 5, none⟩ = some (.int .u64 0) := hp_cell (Y1.out) 5; have yz5 := hp_frozen (Y1.out) 5; have y6 : w2.cell? ⟨r, 6, none⟩ = some (.slice none 0 0) := hp_cell (Y1.out) 6; have yz6 := hp_frozen (Y1.out) 6; have yl := hp_lt (Y1.out)
  have ne1 := GR.out.1
  have ne2 : r ≠ g := fun e => ne1 e.symm
  go_wp2_with fail
  refine bodyPost_ret (by simp [results, Try.results13, go_sem, y0, y1, y2, y3, y4, y5, y6, ne1, ne2]; try rfl) rfl ?_
  exact ⟨(bl_new (bl_new (bl_new (bl_new (bl_new (bl_new (bl_new B1.out GR.out.2.2 _) GR.out.2.2 _) GR.out.2.2 _) GR.out.2.2 _) GR.out.2.2 _) GR.out.2.2 _) GR.out.2.2 _), rfl⟩
set_option maxRecDepth 20000 in
set_option maxHeartbeats 8000000 in
theorem refStep_e2 (l : List Ins3) (c : Nat) (A : Option Addr) (hlc : l.length ≤ c) (hll : l.length ≤ 900) (s : St) (hn : s.stk.length ≤ 800) (hro : s.out.length ≤ 800) (A1 : Option Addr) (c1 : Nat) (A2 : Option Addr) (c2 : Nat) (w : World) (h1 : Src w A1 c1 s.stk) (h2 : Src w A2 c2 s.out) (hi : InssAt w A l) (hpc : 0 ≤ s.pc) (hpl : ¬ s.pc < (l.length : Int)) : Calls Try.prog 13 #[.slice A l.length c, stV s A1 c1 A2 c2] w (RPost (.error 3) w) := by
  have d : decide (s.pc < 0) = false := decide_eq_false (by omega)
  have d2 : decide (s.pc ≥ (l.length : Int)) = true := decide_eq_true (by omega)
  have d3 : decide ((l.length : Int) ≤ s.pc) = true := d2
  have z1 := (Below.refl w.heap.size w).alloc (Nat.le_refl _) (.cells #[.int .i64 s.pc, .slice A1 s.stk.length c1, .int .u64 s.la, .int .u64 s.lb, .int .u64 s.lc, .int .u64 s.ld, .slice A2 s.out.length c2] 28)
  have z2 := z1.alloc z1.size (.cells #[.int .i64 0, .slice none 0 0, .int .u64 0, .int .u64 0, .int .u64 0, .int .u64 0, .slice none 0 0] 28)
  have X1 := Lib.hid (hp_alloc (heap_alloc_new w (.cells #[.int .i64 s.pc, .slice A1 s.stk.length c1, .int .u64 s.la, .int .u64 s.lb, .int .u64 s.lc, .int .u64 s.ld, .slice A2 s.out.length c2] 28)) (.cells #[.int .i64 0, .slice none 0 0, .int .u64 0, .int .u64 0, .int .u64 0, .int .u64 0, .slice none 0 0] 28))
  have Y1 := Lib.hid (show ((w.alloc (.cells #[.int .i64 s.pc, .slice A1 s.stk.length c1, .int .u64 s.la, .int .u64 s.lb, .int .u64 s.lc, .int .u64 s.ld, .slice A2 s.out.length c2] 28)).alloc (.cells #[.int .i64 0, .slice none 0 0, .int .u64 0, .int .u64 0, .int .u64 0, .int .u64 0, .slice none 0 0] 28)).heap[w.heap.size + 1]? = some (.cells #[.int .i64 0, .slice none 0 0, .int .u64 0, .int .u64 0, .int .u64 0, .int .u64 0, .slice none 0 0] 28 (0, 0)) from (congrArg _ (by simp)).trans (heap_alloc_new (w.alloc (.cells #[.int .i64 s.pc, .slice A1 s.stk.length c1, .int .u64 s.la, .int .u64 s.lb, .int .u64 s.lc, .int .u64 s.ld, .slice A2 s.out.length c2] 28)) (.cells #[.int .i64 0, .slice none 0 0, .int .u64 0, .int .u64 0, .int .u64 0, .int .u64 0, .slice none 0 0] 28)))
  have B1 := Lib.hid z2
  have HI := Lib.hid hi
  have G1 := Lib.hid h1
  have G2 := Lib.hid h2
  clear z1 z2 h1 h2 hi
  unfold stV stC
  go_enter Try.func13, Try.ntmps13
  go_upto_region 1 with fail
  generalize World.alloc _ _ = w2 at X1 Y1 B1 ⊢
  obtain ⟨g, hg⟩ : ∃ g, w.heap.size = g := ⟨_, rfl⟩
  obtain ⟨r, hr⟩ : ∃ r, w.heap.size + 1 = r := ⟨_, rfl⟩
  rw [hg] at X1
  rw [hr] at Y1
  rw [hr, hg]
  have gr : g ≠ r := by omega
  have gb : w.heap.size ≤ g := by omega
  have rb : w.heap.size ≤ r := by omega
  have GR := Lib.hid (And.intro gr (And.intro gb rb))
  clear hg hr gr gb rb
  have x0 : w2.cell? ⟨g, 0, none⟩ = some (.int .i64 s.pc) := hp_cell (X1.out) 0; have x1 : w2.cell? ⟨g, 1, none⟩ = some (.slice A1 s.stk.length c1) := hp_cell (X1.out) 1; have x2 : w2.cell? ⟨g, 2, none⟩ = some (.int .u64 s.la) := hp_cell (X1.out) 2; have x3 : w2.cell? ⟨g, 3, none⟩ = some (.int .u64 s.lb) := hp_cell (X1.out) 3; have x4 : w2.cell? ⟨g, 4, none⟩ = some (.int .u64 s.lc) := hp_cell (X1.out) 4; have x5 : w2.cell? ⟨g, 5, none⟩ = some (.int .u64 s.ld) := hp_cell (X1.out) 5; have x6 : w2.cell? ⟨g, 6, none⟩ = some (.slice A2 s.out.length c2) := hp_cell (X1.out) 6; have xl := hp_lt (X1.out)
  have y0 : w2.cell? ⟨r, 0, none⟩ = some (.int .i64 0) := hp_cell (Y1.out) 0; have yz0 := hp_frozen (Y1.out) 0; have y1 : w2.cell? ⟨r, 1, none⟩ = some (.slice none 0 0) := hp_cell (Y1.out) 1; have yz1 := hp_frozen (Y1.out) 1; have y2 : w2.cell? ⟨r, 2, none⟩ = some (.int .u64 0) := hp_cell (Y1.out) 2; have yz2 := hp_frozen (Y1.out) 2; have y3 : w2.cell? ⟨r, 3, none⟩ = some (.int .u64 0) := hp_cell (Y1.out) 3; have yz3 := hp_frozen (Y1.out) 3; have y4 : w2.cell? ⟨r, 4, none⟩ = some (.int .u64 0) := hp_cell (Y1.out) 4; have yz4 := hp_frozen (Y1.out) 4; have y5 : w2.cell? ⟨r, 5, none⟩ = some (.int .u64 0) := hp_cell (Y1.out) 5; have yz5 := hp_frozen (Y1.out) 5; have y6 : w2.cell? ⟨r, 6, none⟩ = some (.slice none 0 0) := hp_cell (Y1.out) 6; have yz6 := hp_frozen (Y1.out) 6; have yl := hp_lt (Y1.out)
  have ne1 := GR.out.1
  have ne2 : r ≠ g := fun e => ne1 e.symm
  go_wp2_with fail
  refine bodyPost_ret (by simp [results, Try.results13, go_sem, y0, y1, y2, y3, y4, y5, y6, ne1, ne2]; try rfl) rfl ?_
  exact ⟨(bl_new (bl_new (bl_new (bl_new (bl_new (bl_new (bl_new B1.out GR.out.2.2 _) GR.out.2.2 _) GR.out.2.2 _) GR.out.2.2 _) GR.out.2.2 _) GR.out.2.2 _) GR.out.2.2 _), rfl⟩
set_option maxRecDepth 20000 in
set_option maxHeartbeats 8000000 in
theorem refStep_e3 (l : List Ins3) (c : Nat) (A : Option Addr) (hlc : l.length ≤ c) (hll : l.length ≤ 900) (s : St) (hn : s.stk.length ≤ 800) (hro : s.out.length ≤ 800) (A1 : Option Addr) (c1 : Nat) (A2 : Option Addr) (c2 : Nat) (w : World) (h1 : Src w A1 c1 s.stk) (h2 : Src w A2 c2 s.out) (hi : InssAt w A l) (hpc : 0 ≤ s.pc) (hpl : s.pc < (l.length : Int)) (op ag v : Int) (hx : xn l s.pc.toNat = ⟨op, ag, v⟩) (hr : rightI ⟨op, ag, v⟩ = false) : Calls Try.prog 13 #[.slice A l.length c, stV s A1 c1 A2 c2] w (RPost (.error 3) w) := by
  have d : decide (s.pc < 0) = false := decide_eq_false (by omega)
  have d2 : decide (s.pc ≥ (l.length : Int)) = false := decide_eq_false (by omega)
  have d3 : decide ((l.length : Int) ≤ s.pc) = false := d2
  have z1 := (Below.refl w.heap.size w).alloc (Nat.le_refl _) (.cells #[.int .i64 s.pc, .slice A1 s.stk.length c1, .int .u64 s.la, .int .u64 s.lb, .int .u64 s.lc, .int .u64 s.ld, .slice A2 s.out.length c2] 28)
  have z2 := z1.alloc z1.size (.cells #[.int .i64 0, .slice none 0 0, .int .u64 0, .int .u64 0, .int .u64 0, .int .u64 0, .slice none 0 0] 28)
  have X1 := Lib.hid (hp_alloc (heap_alloc_new w (.cells #[.int .i64 s.pc, .slice A1 s.stk.length c1, .int .u64 s.la, .int .u64 s.lb, .int .u64 s.lc, .int .u64 s.ld, .slice A2 s.out.length c2] 28)) (.cells #[.int .i64 0, .slice none 0 0, .int .u64 0, .int .u64 0, .int .u64 0, .int .u64 0, .slice none 0 0] 28))
  have Y1 := Lib.hid (show ((w.alloc (.cells #[.int .i64 s.pc, .slice A1 s.stk.length c1, .int .u64 s.la, .int .u64 s.lb, .int .u64 s.lc, .int .u64 s.ld, .slice A2 s.out.length c2] 28)).alloc (.cells #[.int .i64 0, .slice none 0 0, .int .u64 0, .int .u64 0, .int .u64 0, .int .u64 0, .slice none 0 0] 28)).heap[w.heap.size + 1]? = some (.cells #[.int .i64 0, .slice none 0 0, .int .u64 0, .int .u64 0, .int .u64 0, .int .u64 0, .slice none 0 0] 28 (0, 0)) from (congrArg _ (by simp)).trans (heap_alloc_new (w.alloc (.cells #[.int .i64 s.pc, .slice A1 s.stk.length c1, .int .u64 s.la, .int .u64 s.lb, .int .u64 s.lc, .int .u64 s.ld, .slice A2 s.out.length c2] 28)) (.cells #[.int .i64 0, .slice none 0 0, .int .u64 0, .int .u64 0, .int .u64 0, .int .u64 0, .slice none 0 0] 28)))
  have B1 := Lib.hid z2
  have HI := Lib.hid hi
  have G1 := Lib.hid h1
  have G2 := Lib.hid h2
  clear z1 z2 h1 h2 hi
  unfold stV stC
  go_enter Try.func13, Try.ntmps13
  go_upto_region 1 with fail
  generalize World.alloc _ _ = w2 at X1 Y1 B1 ⊢
  obtain ⟨g, hg⟩ : ∃ g, w.heap.size = g := ⟨_, rfl⟩
  obtain ⟨r, hr⟩ : ∃ r, w.heap.size + 1 = r := ⟨_, rfl⟩
  rw [hg] at X1
  rw [hr] at Y1
  rw [hr, hg]
  have gr : g ≠ r := by omega
  have gb : w.heap.size ≤ g := by omega
  have rb : w.heap.size ≤ r := by omega
  have GR := Lib.hid (And.intro gr (And.intro gb rb))
  clear hg hr gr gb rb
  have x0 : w2.cell? ⟨g, 0, none⟩ = some (.int .i64 s.pc) := hp_cell (X1.out) 0; have x1 : w2.cell? ⟨g, 1, none⟩ = some (.slice A1 s.stk.length c1) := hp_cell (X1.out) 1; have x2 : w2.cell? ⟨g, 2, none⟩ = some (.int .u64 s.la) := hp_cell (X1.out) 2; have x3 : w2.cell? ⟨g, 3, none⟩ = some (.int .u64 s.lb) := hp_cell (X1.out) 3; have x4 : w2.cell? ⟨g, 4, none⟩ = some (.int .u64 s.lc) := hp_cell (X1.out) 4; have x5 : w2.cell? ⟨g, 5, none⟩ = some (.int .u64 s.ld) := hp_cell (X1.out) 5; have x6 : w2.cell? ⟨g, 6, none⟩ = some (.slice A2 s.out.length c2) := hp_cell (X1.out) 6; have xl := hp_lt (X1.out)
  have y0 : w2.cell? ⟨r, 0, none⟩ = some (.int .i64 0) := hp_cell (Y1.out) 0; have yz0 := hp_frozen (Y1.out) 0; have y1 : w2.cell? ⟨r, 1, none⟩ = some (.slice none 0 0) := hp_cell (Y1.out) 1; have yz1 := hp_frozen (Y1.out) 1; have y2 : w2.cell? ⟨r, 2, none⟩ = some (.int .u64 0) := hp_cell (Y1.out) 2; have yz2 := hp_frozen (Y1.out) 2; have y3 : w2.cell? ⟨r, 3, none⟩ = some (.int .u64 0) := hp_cell (Y1.out) 3; have yz3 := hp_frozen (Y1.out) 3; have y4 : w2.cell? ⟨r, 4, none⟩ = some (.int .u64 0) := hp_cell (Y1.out) 4; have yz4 := hp_frozen (Y1.out) 4; have y5 : w2.cell? ⟨r, 5, none⟩ = some (.int .u64 0) := hp_cell (Y1.out) 5; have yz5 := hp_frozen (Y1.out) 5; have y6 : w2.cell? ⟨r, 6, none⟩ = some (.slice none 0 0) := hp_cell (Y1.out) 6; have yz6 := hp_frozen (Y1.out) 6; have yl := hp_lt (Y1.out)
  have ne1 := GR.out.1
  have ne2 : r ≠ g := fun e => ne1 e.symm
  obtain ⟨j, hj⟩ : ∃ j : Nat, s.pc = (j : Int) := ⟨s.pc.toNat, by omega⟩
  have hjl : j < l.length := by omega
  have hjn : s.pc.toNat = j := by omega
  rw [hjn] at hx
  have HJ := Lib.hid (And.intro hj hjl)
  rw [hj] at d d2 d3 x0
  have I2 := Lib.hid (inss_below HI.out B1.out)
  obtain ⟨ad, rfl, _⟩ := xn_at I2.out hjl
  have hI3 := xn_some I2.out hjl
  rw [hx] at hI3
  obtain ⟨hok, a0, a1, a2⟩ := hI3
  dsimp only at a0 a1 a2
  have la : (ad.add (j * 3)).block < w2.heap.size := inAt_lt (xn_some I2.out hjl)
  have la' : ad.block < w2.heap.size := by
    have e : (ad.add (j * 3)).block = ad.block := by unfold Addr.add; split <;> rfl
    omega
  have s3 : (j : Int) < (l.length : Int) := by omega
  have s4 : (0 : Int) ≤ (j : Int) := by omega
  have HOK := Lib.hid hok
  have HC := Lib.hid (fun w => refRight14_any ⟨op, ag, v⟩ hok w)
  unfold inV at HC
  have HP := Lib.hid (fun w => refPlain_any op hok.1.1 w)
  have HR := Lib.hid hr
  clear hok hr hj hjl hjn hx
  go_wp2_with (go_at_call 33; refine (HC.out _).mono ?_; rintro e w4 ⟨rfl, hb4⟩; rw [HR.out]; have B4 := Lib.hid (B1.out.trans (hb4.mono B1.out.size)); have X4 := Lib.hid (hp_below X1.out hb4); have Y4 := Lib.hid (hp_below Y1.out hb4); have I4 := Lib.hid (inss_below I2.out hb4); have la4 := Nat.lt_of_lt_of_le la' hb4.size; have a0' := (World.cell?_of_block (hb4.block _ la)).trans a0; clear a0 a1 a2 la hb4; have u0 : w4.cell? ⟨g, 0, none⟩ = some (.int .i64 s.pc) := hp_cell (X4.out) 0; have u1 : w4.cell? ⟨g, 1, none⟩ = some (.slice A1 s.stk.length c1) := hp_cell (X4.out) 1; have u2 : w4.cell? ⟨g, 2, none⟩ = some (.int .u64 s.la) := hp_cell (X4.out) 2; have u3 : w4.cell? ⟨g, 3, none⟩ = some (.int .u64 s.lb) := hp_cell (X4.out) 3; have u4 : w4.cell? ⟨g, 4, none⟩ = some (.int .u64 s.lc) := hp_cell (X4.out) 4; have u5 : w4.cell? ⟨g, 5, none⟩ = some (.int .u64 s.ld) := hp_cell (X4.out) 5; have u6 : w4.cell? ⟨g, 6, none⟩ = some (.slice A2 s.out.length c2) := hp_cell (X4.out) 6; have ul := hp_lt (X4.out); rw [HJ.out.1] at u0; have v0 : w4.cell? ⟨r, 0, none⟩ = some (.int .i64 0) := hp_cell (Y4.out) 0; have vz0 := hp_frozen (Y4.out) 0; have v1 : w4.cell? ⟨r, 1, none⟩ = some (.slice none 0 0) := hp_cell (Y4.out) 1; have vz1 := hp_frozen (Y4.out) 1; have v2 : w4.cell? ⟨r, 2, none⟩ = some (.int .u64 0) := hp_cell (Y4.out) 2; have vz2 := hp_frozen (Y4.out) 2; have v3 : w4.cell? ⟨r, 3, none⟩ = some (.int .u64 0) := hp_cell (Y4.out) 3; have vz3 := hp_frozen (Y4.out) 3; have v4 : w4.cell? ⟨r, 4, none⟩ = some (.int .u64 0) := hp_cell (Y4.out) 4; have vz4 := hp_frozen (Y4.out) 4; have v5 : w4.cell? ⟨r, 5, none⟩ = some (.int .u64 0) := hp_cell (Y4.out) 5; have vz5 := hp_frozen (Y4.out) 5; have v6 : w4.cell? ⟨r, 6, none⟩ = some (.slice none 0 0) := hp_cell (Y4.out) 6; have vz6 := hp_frozen (Y4.out) 6; have vl := hp_lt (Y4.out))
  refine bodyPost_ret (by simp [results, Try.results13, go_sem, v0, v1, v2, v3, v4, v5, v6, ne1, ne2]; try rfl) rfl ?_
  exact ⟨(bl_new (bl_new (bl_new (bl_new (bl_new (bl_new (bl_new B4.out GR.out.2.2 _) GR.out.2.2 _) GR.out.2.2 _) GR.out.2.2 _) GR.out.2.2 _) GR.out.2.2 _) GR.out.2.2 _), rfl⟩
set_option maxRecDepth 20000 in
set_option maxHeartbeats 8000000 in
theorem refStep_e4 (l : List Ins3) (c : Nat) (A : Option Addr) (hlc : l.length ≤ c) (hll : l.length ≤ 900) (s : St) (hn : s.stk.length ≤ 800) (hro : s.out.length ≤ 800) (A1 : Option Addr) (c1 : Nat) (A2 : Option Addr) (c2 : Nat) (w : World) (h1 : Src w A1 c1 s.stk) (h2 : Src w A2 c2 s.out) (hi : InssAt w A l) (hpc : 0 ≤ s.pc) (hpl : s.pc < (l.length : Int)) (op ag v : Int) (hx : xn l s.pc.toNat = ⟨op, ag, v⟩) (hr : rightI ⟨op, ag, v⟩ = true) (hs : specI op = true) : Calls Try.prog 13 #[.slice A l.length c, stV s A1 c1 A2 c2] w (RPost (.error 3) w) := by
  have d : decide (s.pc < 0) = false := decide_eq_false (by omega)
  have d2 : decide (s.pc ≥ (l.length : Int)) = false := decide_eq_false (by omega)
  have d3 : decide ((l.length : Int) ≤ s.pc) = false := d2
  have z1 := (Below.refl w.heap.size w).alloc (Nat.le_refl _) (.cells #[.int .i64 s.pc, .slice A1 s.stk.length c1, .int .u64 s.la, .int .u64 s.lb, .int .u64 s.lc, .int .u64 s.ld, .slice A2 s.out.length c2] 28)
  have z2 := z1.alloc z1.size (.cells #[.int .i64 0, .slice none 0 0, .int .u64 0, .int .u64 0, .int .u64 0, .int .u64 0, .slice none 0 0] 28)
  have X1 := Lib.hid (hp_alloc (heap_alloc_new w (.cells #[.int .i64 s.pc, .slice A1 s.stk.length c1, .int .u64 s.la, .int .u64 s.lb, .int .u64 s.lc, .int .u64 s.ld, .slice A2 s.out.length c2] 28)) (.cells #[.int .i64 0, .slice none 0 0, .int .u64 0, .int .u64 0, .int .u64 0, .int .u64 0, .slice none 0 0] 28))
  have Y1 := Lib.hid (show ((w.alloc (.cells #[.int .i64 s.pc, .slice A1 s.stk.length c1, .int .u64 s.la, .int .u64 s.lb, .int .u64 s.lc, .int .u64 s.ld, .slice A2 s.out.length c2] 28)).alloc (.cells #[.int .i64 0, .slice none 0 0, .int .u64 0, .int .u64 0, .int .u64 0, .int .u64 0, .slice none 0 0] 28)).heap[w.heap.size + 1]? = some (.cells #[.int .i64 0, .slice none 0 0, .int .u64 0, .int .u64 0, .int .u64 0, .int .u64 0, .slice none 0 0] 28 (0, 0)) from (congrArg _ (by simp)).trans (heap_alloc_new (w.alloc (.cells #[.int .i64 s.pc, .slice A1 s.stk.length c1, .int .u64 s.la, .int .u64 s.lb, .int .u64 s.lc, .int .u64 s.ld, .slice A2 s.out.length c2] 28)) (.cells #[.int .i64 0, .slice none 0 0, .int .u64 0, .int .u64 0, .int .u64 0, .int .u64 0, .slice none 0 0] 28)))
  have B1 := Lib.hid z2
  have HI := Lib.hid hi
  have G1 := Lib.hid h1
  have G2 := Lib.hid h2
  clear z1 z2 h1 h2 hi
  unfold stV stC
  go_enter Try.func13, Try.ntmps13
  go_upto_region 1 with fail
  generalize World.alloc _ _ = w2 at X1 Y1 B1 ⊢
  obtain ⟨g, hg⟩ : ∃ g, w.heap.size = g := ⟨_, rfl⟩
  obtain ⟨r, hr⟩ : ∃ r, w.heap.size + 1 = r := ⟨_, rfl⟩
  rw [hg] at X1
  rw [hr] at Y1
  rw [hr, hg]
  have gr : g ≠ r := by omega
  have gb : w.heap.size ≤ g := by omega
  have rb : w.heap.size ≤ r := by omega
  have GR := Lib.hid (And.intro gr (And.intro gb rb))
  clear hg hr gr gb rb
  have x0 : w2.cell? ⟨g, 0, none⟩ = some (.int .i64 s.pc) := hp_cell (X1.out) 0; have x1 : w2.cell? ⟨g, 1, none⟩ = some (.slice A1 s.stk.length c1) := hp_cell (X1.out) 1; have x2 : w2.cell? ⟨g, 2, none⟩ = some (.int .u64 s.la) := hp_cell (X1.out) 2; have x3 : w2.cell? ⟨g, 3, none⟩ = some (.int .u64 s.lb) := hp_cell (X1.out) 3; have x4 : w2.cell? ⟨g, 4, none⟩ = some (.int .u64 s.lc) := hp_cell (X1.out) 4; have x5 : w2.cell? ⟨g, 5, none⟩ = some (.int .u64 s.ld) := hp_cell (X1.out) 5; have x6 : w2.cell? ⟨g, 6, none⟩ = some (.slice A2 s.out.length c2) := hp_cell (X1.out) 6; have xl := hp_lt (X1.out)
  have y0 : w2.cell? ⟨r, 0, none⟩ = some (.int .i64 0) := hp_cell (Y1.out) 0; have yz0 := hp_frozen (Y1.out) 0; have y1 : w2.cell? ⟨r, 1, none⟩ = some (.slice none 0 0) := hp_cell (Y1.out) 1; have yz1 := hp_frozen (Y1.out) 1; have y2 : w2.cell? ⟨r, 2, none⟩ = some (.int .u64 0) := hp_cell (Y1.out) 2; have yz2 := hp_frozen (Y1.out) 2; have y3 : w2.cell? ⟨r, 3, none⟩ = some (.int .u64 0) := hp_cell (Y1.out) 3; have yz3 := hp_frozen (Y1.out) 3; have y4 : w2.cell? ⟨r, 4, none⟩ = some (.int .u64 0) := hp_cell (Y1.out) 4; have yz4 := hp_frozen (Y1.out) 4; have y5 : w2.cell? ⟨r, 5, none⟩ = some (.int .u64 0) := hp_cell (Y1.out) 5; have yz5 := hp_frozen (Y1.out) 5; have y6 : w2.cell? ⟨r, 6, none⟩ = some (.slice none 0 0) := hp_cell (Y1.out) 6; have yz6 := hp_frozen (Y1.out) 6; have yl := hp_lt (Y1.out)
  have ne1 := GR.out.1
  have ne2 : r ≠ g := fun e => ne1 e.symm
  obtain ⟨j, hj⟩ : ∃ j : Nat, s.pc = (j : Int) := ⟨s.pc.toNat, by omega⟩
  have hjl : j < l.length := by omega
  have hjn : s.pc.toNat = j := by omega
  rw [hjn] at hx
  have HJ := Lib.hid (And.intro hj hjl)
  rw [hj] at d d2 d3 x0
  have I2 := Lib.hid (inss_below HI.out B1.out)
  obtain ⟨ad, rfl, _⟩ := xn_at I2.out hjl
  have hI3 := xn_some I2.out hjl
  rw [hx] at hI3
  obtain ⟨hok, a0, a1, a2⟩ := hI3
  dsimp only at a0 a1 a2
  have la : (ad.add (j * 3)).block < w2.heap.size := inAt_lt (xn_some I2.out hjl)
  have la' : ad.block < w2.heap.size := by
    have e : (ad.add (j * 3)).block = ad.block := by unfold Addr.add; split <;> rfl
    omega
  have s3 : (j : Int) < (l.length : Int) := by omega
  have s4 : (0 : Int) ≤ (j : Int) := by omega
  have HOK := Lib.hid hok
  have HC := Lib.hid (fun w => refRight14_any ⟨op, ag, v⟩ hok w)
  unfold inV at HC
  have HP := Lib.hid (fun w => refPlain_any op hok.1.1 w)
  have HR := Lib.hid hr
  clear hok hr hj hjl hjn hx
  have HS := Lib.hid hs
  clear hs
  go_wp2_with (first | (go_at_call 33; refine (HC.out _).mono ?_; rintro e w4 ⟨rfl, hb4⟩; rw [HR.out]; have B4 := Lib.hid (B1.out.trans (hb4.mono B1.out.size)); have X4 := Lib.hid (hp_below X1.out hb4); have Y4 := Lib.hid (hp_below Y1.out hb4); have I4 := Lib.hid (inss_below I2.out hb4); have la4 := Nat.lt_of_lt_of_le la' hb4.size; have a0' := (World.cell?_of_block (hb4.block _ la)).trans a0; clear a0 a1 a2 la hb4; have u0 : w4.cell? ⟨g, 0, none⟩ = some (.int .i64 s.pc) := hp_cell (X4.out) 0; have u1 : w4.cell? ⟨g, 1, none⟩ = some (.slice A1 s.stk.length c1) := hp_cell (X4.out) 1; have u2 : w4.cell? ⟨g, 2, none⟩ = some (.int .u64 s.la) := hp_cell (X4.out) 2; have u3 : w4.cell? ⟨g, 3, none⟩ = some (.int .u64 s.lb) := hp_cell (X4.out) 3; have u4 : w4.cell? ⟨g, 4, none⟩ = some (.int .u64 s.lc) := hp_cell (X4.out) 4; have u5 : w4.cell? ⟨g, 5, none⟩ = some (.int .u64 s.ld) := hp_cell (X4.out) 5; have u6 : w4.cell? ⟨g, 6, none⟩ = some (.slice A2 s.out.length c2) := hp_cell (X4.out) 6; have ul := hp_lt (X4.out); rw [HJ.out.1] at u0; have v0 : w4.cell? ⟨r, 0, none⟩ = some (.int .i64 0) := hp_cell (Y4.out) 0; have vz0 := hp_frozen (Y4.out) 0; have v1 : w4.cell? ⟨r, 1, none⟩ = some (.slice none 0 0) := hp_cell (Y4.out) 1; have vz1 := hp_frozen (Y4.out) 1; have v2 : w4.cell? ⟨r, 2, none⟩ = some (.int .u64 0) := hp_cell (Y4.out) 2; have vz2 := hp_frozen (Y4.out) 2; have v3 : w4.cell? ⟨r, 3, none⟩ = some (.int .u64 0) := hp_cell (Y4.out) 3; have vz3 := hp_frozen (Y4.out) 3; have v4 : w4.cell? ⟨r, 4, none⟩ = some (.int .u64 0) := hp_cell (Y4.out) 4; have vz4 := hp_frozen (Y4.out) 4; have v5 : w4.cell? ⟨r, 5, none⟩ = some (.int .u64 0) := hp_cell (Y4.out) 5; have vz5 := hp_frozen (Y4.out) 5; have v6 : w4.cell? ⟨r, 6, none⟩ = some (.slice none 0 0) := hp_cell (Y4.out) 6; have vz6 := hp_frozen (Y4.out) 6; have vl := hp_lt (Y4.out)) | (go_at_call 34; refine (HP.out _).mono ?_; rintro e w' ⟨rfl, rfl⟩; rw [HS.out]))
  refine bodyPost_ret (by simp [results, Try.results13, go_sem, v0, v1, v2, v3, v4, v5, v6, ne1, ne2]; try rfl) rfl ?_
  exact ⟨(bl_new (bl_new (bl_new (bl_new (bl_new (bl_new (bl_new B4.out GR.out.2.2 _) GR.out.2.2 _) GR.out.2.2 _) GR.out.2.2 _) GR.out.2.2 _) GR.out.2.2 _) GR.out.2.2 _), rfl⟩
set_option maxRecDepth 20000 in
set_option maxHeartbeats 8000000 in
theorem refStep_e5 (l : List Ins3) (c : Nat) (A : Option Addr) (hlc : l.length ≤ c) (hll : l.length ≤ 900) (s : St) (hn : s.stk.length ≤ 800) (hro : s.out.length ≤ 800) (A1 : Option Addr) (c1 : Nat) (A2 : Option Addr) (c2 : Nat) (w : World) (h1 : Src w A1 c1 s.stk) (h2 : Src w A2 c2 s.out) (hi : InssAt w A l) (hpc : 0 ≤ s.pc) (hpl : s.pc < (l.length : Int)) (op ag v : Int) (hx : xn l s.pc.toNat = ⟨op, ag, v⟩) (hr : rightI ⟨op, ag, v⟩ = true) (hs : specI op = false) (hfi : fitI op s.stk.length = false) : Calls Try.prog 13 #[.slice A l.length c, stV s A1 c1 A2 c2] w (RPost (.error 12) w) := by
  have d : decide (s.pc < 0) = false := decide_eq_false (by omega)
  have d2 : decide (s.pc ≥ (l.length : Int)) = false := decide_eq_false (by omega)
  have d3 : decide ((l.length : Int) ≤ s.pc) = false := d2
  have z1 := (Below.refl w.heap.size w).alloc (Nat.le_refl _) (.cells #[.int .i64 s.pc, .slice A1 s.stk.length c1, .int .u64 s.la, .int .u64 s.lb, .int .u64 s.lc, .int .u64 s.ld, .slice A2 s.out.length c2] 28)
  have z2 := z1.alloc z1.size (.cells #[.int .i64 0, .slice none 0 0, .int .u64 0, .int .u64 0, .int .u64 0, .int .u64 0, .slice none 0 0] 28)
  have X1 := Lib.hid (hp_alloc (heap_alloc_new w (.cells #[.int .i64 s.pc, .slice A1 s.stk.length c1, .int .u64 s.la, .int .u64 s.lb, .int .u64 s.lc, .int .u64 s.ld, .slice A2 s.out.length c2] 28)) (.cells #[.int .i64 0, .slice none 0 0, .int .u64 0, .int .u64 0, .int .u64 0, .int .u64 0, .slice none 0 0] 28))
  have Y1 := Lib.hid (show ((w.alloc (.cells #[.int .i64 s.pc, .slice A1 s.stk.length c1, .int .u64 s.la, .int .u64 s.lb, .int .u64 s.lc, .int .u64 s.ld, .slice A2 s.out.length c2] 28)).alloc (.cells #[.int .i64 0, .slice none 0 0, .int .u64 0, .int .u64 0, .int .u64 0, .int .u64 0, .slice none 0 0] 28)).heap[w.heap.size + 1]? = some (.cells #[.int .i64 0, .slice none 0 0, .int .u64 0, .int .u64 0, .int .u64 0, .int .u64 0, .slice none 0 0] 28 (0, 0)) from (congrArg _ (by simp)).trans (heap_alloc_new (w.alloc (.cells #[.int .i64 s.pc, .slice A1 s.stk.length c1, .int .u64 s.la, .int .u64 s.lb, .int .u64 s.lc, .int .u64 s.ld, .slice A2 s.out.length c2] 28)) (.cells #[.int .i64 0, .slice none 0 0, .int .u64 0, .int .u64 0, .int .u64 0, .int .u64 0, .slice none 0 0] 28)))
  have B1 := Lib.hid z2
  have HI := Lib.hid hi
  have G1 := Lib.hid h1
  have G2 := Lib.hid h2
  clear z1 z2 h1 h2 hi
  unfold stV stC
  go_enter Try.func13, Try.ntmps13
  go_upto_region 1 with fail
  generalize World.alloc _ _ = w2 at X1 Y1 B1 ⊢
  obtain ⟨g, hg⟩ : ∃ g, w.heap.size = g := ⟨_, rfl⟩
  obtain ⟨r, hr⟩ : ∃ r, w.heap.size + 1 = r := ⟨_, rfl⟩
  rw [hg] at X1
  rw [hr] at Y1
  rw [hr, hg]
  have gr : g ≠ r := by omega
  have gb : w.heap.size ≤ g := by omega
  have rb : w.heap.size ≤ r := by omega
  have GR := Lib.hid (And.intro gr (And.intro gb rb))
  clear hg hr gr gb rb
  have x0 : w2.cell? ⟨g, 0, none⟩ = some (.int .i64 s.pc) := hp_cell (X1.out) 0; have x1 : w2.cell? ⟨g, 1, none⟩ = some (.slice A1 s.stk.length c1) := hp_cell (X1.out) 1; have x2 : w2.cell? ⟨g, 2, none⟩ = some (.int .u64 s.la) := hp_cell (X1.out) 2; have x3 : w2.cell? ⟨g, 3, none⟩ = some (.int .u64 s.lb) := hp_cell (X1.out) 3; have x4 : w2.cell? ⟨g, 4, none⟩ = some (.int .u64 s.lc) := hp_cell (X1.out) 4; have x5 : w2.cell? ⟨g, 5, none⟩ = some (.int .u64 s.ld) := hp_cell (X1.out) 5; have x6 : w2.cell? ⟨g, 6, none⟩ = some (.slice A2 s.out.length c2) := hp_cell (X1.out) 6; have xl := hp_lt (X1.out)
  have y0 : w2.cell? ⟨r, 0, none⟩ = some (.int .i64 0) := hp_cell (Y1.out) 0; have yz0 := hp_frozen (Y1.out) 0; have y1 : w2.cell? ⟨r, 1, none⟩ = some (.slice none 0 0) := hp_cell (Y1.out) 1; have yz1 := hp_frozen (Y1.out) 1; have y2 : w2.cell? ⟨r, 2, none⟩ = some (.int .u64 0) := hp_cell (Y1.out) 2; have yz2 := hp_frozen (Y1.out) 2; have y3 : w2.cell? ⟨r, 3, none⟩ = some (.int .u64 0) := hp_cell (Y1.out) 3; have yz3 := hp_frozen (Y1.out) 3; have y4 : w2.cell? ⟨r, 4, none⟩ = some (.int .u64 0) := hp_cell (Y1.out) 4; have yz4 := hp_frozen (Y1.out) 4; have y5 : w2.cell? ⟨r, 5, none⟩ = some (.int .u64 0) := hp_cell (Y1.out) 5; have yz5 := hp_frozen (Y1.out) 5; have y6 : w2.cell? ⟨r, 6, none⟩ = some (.slice none 0 0) := hp_cell (Y1.out) 6; have yz6 := hp_frozen (Y1.out) 6; have yl := hp_lt (Y1.out)
  have ne1 := GR.out.1
  have ne2 : r ≠ g := fun e => ne1 e.symm
  obtain ⟨j, hj⟩ : ∃ j : Nat, s.pc = (j : Int) := ⟨s.pc.toNat, by omega⟩
  have hjl : j < l.length := by omega
  have hjn : s.pc.toNat = j := by omega
  rw [hjn] at hx
  have HJ := Lib.hid (And.intro hj hjl)
  rw [hj] at d d2 d3 x0
  have I2 := Lib.hid (inss_below HI.out B1.out)
  obtain ⟨ad, rfl, _⟩ := xn_at I2.out hjl
  have hI3 := xn_some I2.out hjl
  rw [hx] at hI3
  obtain ⟨hok, a0, a1, a2⟩ := hI3
  dsimp only at a0 a1 a2
  have la : (ad.add (j * 3)).block < w2.heap.size := inAt_lt (xn_some I2.out hjl)
  have la' : ad.block < w2.heap.size := by
    have e : (ad.add (j * 3)).block = ad.block := by unfold Addr.add; split <;> rfl
    omega
  have s3 : (j : Int) < (l.length : Int) := by omega
  have s4 : (0 : Int) ≤ (j : Int) := by omega
  have HOK := Lib.hid hok
  have HC := Lib.hid (fun w => refRight14_any ⟨op, ag, v⟩ hok w)
  unfold inV at HC
  have HP := Lib.hid (fun w => refPlain_any op hok.1.1 w)
  have HR := Lib.hid hr
  clear hok hr hj hjl hjn hx
  have HS := Lib.hid hs
  have HN := Lib.hid hn
  have HFI := Lib.hid hfi
  clear hs hn hfi
  go_upto_region 3 with (first | (go_at_call 33; refine (HC.out _).mono ?_; rintro e w4 ⟨rfl, hb4⟩; rw [HR.out]; have B4 := Lib.hid (B1.out.trans (hb4.mono B1.out.size)); have X4 := Lib.hid (hp_below X1.out hb4); have Y4 := Lib.hid (hp_below Y1.out hb4); have I4 := Lib.hid (inss_below I2.out hb4); have la4 := Nat.lt_of_lt_of_le la' hb4.size; have a0' := (World.cell?_of_block (hb4.block _ la)).trans a0; have a1' := (World.cell?_of_block (a := ⟨(ad.add (j * 3)).block, (ad.add (j * 3)).off + 1, none⟩) (hb4.block _ la)).trans a1; have a2' := (World.cell?_of_block (a := ⟨(ad.add (j * 3)).block, (ad.add (j * 3)).off + 2, none⟩) (hb4.block _ la)).trans a2; clear a0 a1 a2 la hb4; have u0 : w4.cell? ⟨g, 0, none⟩ = some (.int .i64 s.pc) := hp_cell (X4.out) 0; have u1 : w4.cell? ⟨g, 1, none⟩ = some (.slice A1 s.stk.length c1) := hp_cell (X4.out) 1; have u2 : w4.cell? ⟨g, 2, none⟩ = some (.int .u64 s.la) := hp_cell (X4.out) 2; have u3 : w4.cell? ⟨g, 3, none⟩ = some (.int .u64 s.lb) := hp_cell (X4.out) 3; have u4 : w4.cell? ⟨g, 4, none⟩ = some (.int .u64 s.lc) := hp_cell (X4.out) 4; have u5 : w4.cell? ⟨g, 5, none⟩ = some (.int .u64 s.ld) := hp_cell (X4.out) 5; have u6 : w4.cell? ⟨g, 6, none⟩ = some (.slice A2 s.out.length c2) := hp_cell (X4.out) 6; have ul := hp_lt (X4.out); rw [HJ.out.1] at u0; have v0 : w4.cell? ⟨r, 0, none⟩ = some (.int .i64 0) := hp_cell (Y4.out) 0; have vz0 := hp_frozen (Y4.out) 0; have v1 : w4.cell? ⟨r, 1, none⟩ = some (.slice none 0 0) := hp_cell (Y4.out) 1; have vz1 := hp_frozen (Y4.out) 1; have v2 : w4.cell? ⟨r, 2, none⟩ = some (.int .u64 0) := hp_cell (Y4.out) 2; have vz2 := hp_frozen (Y4.out) 2; have v3 : w4.cell? ⟨r, 3, none⟩ = some (.int .u64 0) := hp_cell (Y4.out) 3; have vz3 := hp_frozen (Y4.out) 3; have v4 : w4.cell? ⟨r, 4, none⟩ = some (.int .u64 0) := hp_cell (Y4.out) 4; have vz4 := hp_frozen (Y4.out) 4; have v5 : w4.cell? ⟨r, 5, none⟩ = some (.int .u64 0) := hp_cell (Y4.out) 5; have vz5 := hp_frozen (Y4.out) 5; have v6 : w4.cell? ⟨r, 6, none⟩ = some (.slice none 0 0) := hp_cell (Y4.out) 6; have vz6 := hp_frozen (Y4.out) 6; have vl := hp_lt (Y4.out)) | (go_at_call 34; refine (HP.out _).mono ?_; rintro e w' ⟨rfl, rfl⟩; rw [HS.out]))
  have laj : (ad.add (j * 3)).block < w4.heap.size := inAt_lt (xn_some I4.out HJ.out.2)
  go_upto_region 4 with fail
  have z6 := (Below.refl w4.heap.size w4).alloc (Nat.le_refl _) (.cells #[.int .u8 op, .int .i64 ag, .int .u64 v] 42)
  have X6 := Lib.hid (heap_alloc_new w4 (.cells #[.int .u8 op, .int .i64 ag, .int .u64 v] 42))
  have X5 := Lib.hid (hp_below X4.out z6)
  have Y5 := Lib.hid (hp_below Y4.out z6)
  have B5 := Lib.hid (B4.out.alloc B4.out.size (.cells #[.int .u8 op, .int .i64 ag, .int .u64 v] 42))
  have xne := Lib.hid (show g ≠ w4.heap.size ∧ r ≠ w4.heap.size from ⟨fun e => Nat.lt_irrefl _ (e ▸ ul), fun e => Nat.lt_irrefl _ (e ▸ vl)⟩)
  have S5 := Lib.hid (show w.heap.size ≤ w4.heap.size from B4.out.size)
  clear z6 X4 Y4 B4 I4 la4 laj a0' a1' a2' u0  v0 vz0 u1  v1 vz1 u2  v2 vz2 u3  v3 vz3 u4  v4 vz4 u5  v5 vz5 u6  v6 vz6 ul vl x0 y0 yz0 x1 y1 yz1 x2 y2 yz2 x3 y3 yz3 x4 y4 yz4 x5 y5 yz5 x6 y6 yz6 xl yl
  generalize w4.alloc _ = w5 at X6 X5 Y5 B5 ⊢
  obtain ⟨xi, hxi⟩ : ∃ x, w4.heap.size = x := ⟨_, rfl⟩
  rw [hxi] at X6 xne S5 ⊢
  clear hxi
  have x0 : w5.cell? ⟨g, 0, none⟩ = some (.int .i64 s.pc) := hp_cell (X5.out) 0; have x1 : w5.cell? ⟨g, 1, none⟩ = some (.slice A1 s.stk.length c1) := hp_cell (X5.out) 1; have x2 : w5.cell? ⟨g, 2, none⟩ = some (.int .u64 s.la) := hp_cell (X5.out) 2; have x3 : w5.cell? ⟨g, 3, none⟩ = some (.int .u64 s.lb) := hp_cell (X5.out) 3; have x4 : w5.cell? ⟨g, 4, none⟩ = some (.int .u64 s.lc) := hp_cell (X5.out) 4; have x5 : w5.cell? ⟨g, 5, none⟩ = some (.int .u64 s.ld) := hp_cell (X5.out) 5; have x6 : w5.cell? ⟨g, 6, none⟩ = some (.slice A2 s.out.length c2) := hp_cell (X5.out) 6; have xl := hp_lt (X5.out)
  rw [HJ.out.1] at x0
  have y0 : w5.cell? ⟨r, 0, none⟩ = some (.int .i64 0) := hp_cell (Y5.out) 0; have yz0 := hp_frozen (Y5.out) 0; have y1 : w5.cell? ⟨r, 1, none⟩ = some (.slice none 0 0) := hp_cell (Y5.out) 1; have yz1 := hp_frozen (Y5.out) 1; have y2 : w5.cell? ⟨r, 2, none⟩ = some (.int .u64 0) := hp_cell (Y5.out) 2; have yz2 := hp_frozen (Y5.out) 2; have y3 : w5.cell? ⟨r, 3, none⟩ = some (.int .u64 0) := hp_cell (Y5.out) 3; have yz3 := hp_frozen (Y5.out) 3; have y4 : w5.cell? ⟨r, 4, none⟩ = some (.int .u64 0) := hp_cell (Y5.out) 4; have yz4 := hp_frozen (Y5.out) 4; have y5 : w5.cell? ⟨r, 5, none⟩ = some (.int .u64 0) := hp_cell (Y5.out) 5; have yz5 := hp_frozen (Y5.out) 5; have y6 : w5.cell? ⟨r, 6, none⟩ = some (.slice none 0 0) := hp_cell (Y5.out) 6; have yz6 := hp_frozen (Y5.out) 6; have yl := hp_lt (Y5.out)
  have i0 : w5.cell? ⟨xi, 0, none⟩ = some (.int .u8 op) := hp_cell X6.out 0
  have il := hp_lt X6.out
  have HFT := Lib.hid (show ∀ w : World, Calls Try.prog 35 #[.int .u8 op, .agg #[.int .i64 (j : Int), .slice A1 s.stk.length c1, .int .u64 s.la, .int .u64 s.lb, .int .u64 s.lc, .int .u64 s.ld, .slice A2 s.out.length c2]] w fun e w' => e = .returned (.int .i64 12) ∧ Below w.heap.size w w' from fun w => by have := refFits_any op HOK.out.1.1 s A1 c1 A2 c2 (by have := HN.out; omega) w; unfold stV stC at this; rw [HFI.out, HJ.out.1] at this; exact this)
  go_wp2_with (go_at_call 35; refine (HFT.out _).mono ?_; rintro e w7 ⟨rfl, hb7⟩; have Y7 := Lib.hid (hp_below Y5.out hb7); have B7 := Lib.hid (B5.out.trans (hb7.mono B5.out.size)); clear hb7; have v0 : w7.cell? ⟨r, 0, none⟩ = some (.int .i64 0) := hp_cell (Y7.out) 0; have vz0 := hp_frozen (Y7.out) 0; have v1 : w7.cell? ⟨r, 1, none⟩ = some (.slice none 0 0) := hp_cell (Y7.out) 1; have vz1 := hp_frozen (Y7.out) 1; have v2 : w7.cell? ⟨r, 2, none⟩ = some (.int .u64 0) := hp_cell (Y7.out) 2; have vz2 := hp_frozen (Y7.out) 2; have v3 : w7.cell? ⟨r, 3, none⟩ = some (.int .u64 0) := hp_cell (Y7.out) 3; have vz3 := hp_frozen (Y7.out) 3; have v4 : w7.cell? ⟨r, 4, none⟩ = some (.int .u64 0) := hp_cell (Y7.out) 4; have vz4 := hp_frozen (Y7.out) 4; have v5 : w7.cell? ⟨r, 5, none⟩ = some (.int .u64 0) := hp_cell (Y7.out) 5; have vz5 := hp_frozen (Y7.out) 5; have v6 : w7.cell? ⟨r, 6, none⟩ = some (.slice none 0 0) := hp_cell (Y7.out) 6; have vz6 := hp_frozen (Y7.out) 6; have vl := hp_lt (Y7.out))
  refine bodyPost_ret (by simp [results, Try.results13, go_sem, v0, v1, v2, v3, v4, v5, v6, ne1, ne2]; try rfl) rfl ?_
  exact ⟨(bl_new (bl_new (bl_new (bl_new (bl_new (bl_new (bl_new B7.out GR.out.2.2 _) GR.out.2.2 _) GR.out.2.2 _) GR.out.2.2 _) GR.out.2.2 _) GR.out.2.2 _) GR.out.2.2 _), rfl⟩
end Go.Proofs.Ytlgpjcdlomhlcaa
