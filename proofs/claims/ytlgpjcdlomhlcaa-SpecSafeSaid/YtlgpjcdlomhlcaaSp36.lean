
/-
  rowlocklaw17: few, state.
-/
import Derived.Test.YtlgpjcdlomhlcaaSp22a
import Derived.Deep.CutBlock
namespace Go.Proofs.Ytlgpjcdlomhlcaa
open Go.RowKit Go.ChangeShapes Go.WideShapes
set_option linter.unusedSimpArgs false
set_option linter.unusedVariables false

def fewL (l : List Ins3) : List Ins3 := l.take 64
theorem few17 (A : Option Addr) (c : Nat) (l : List Ins3) (hc : l.length ≤ c) (w : World) : Calls Try.prog 11 #[.slice A l.length c] w fun e w' => e = .returned (.slice A (fewL l).length c) ∧ w = w' := by
  by_cases h : l.length > 64
  · have e : (fewL l).length = 64 := by unfold fewL; rw [List.length_take]; omega
    rw [e]
    obtain ⟨n, hn⟩ : ∃ n, l.length = n := ⟨_, rfl⟩
    rw [hn] at hc h ⊢
    have d : decide ((n : Int) > 64) = true := decide_eq_true (by omega)
    have d2 : decide ((64 : Int) < (n : Int)) = true := d
    have d3 : decide (64 < n) = true := decide_eq_true h
    have k1 : 64 ≤ c := by omega
    have k2 : 64 ≤ n := by omega
    clear hn e h
    go_enter Try.func11, Try.ntmps11
    go_wp2_with fail
    go_ret
    exact ⟨rfl, rfl⟩
  · have e : (fewL l).length = l.length := by unfold fewL; rw [List.length_take]; omega
    rw [e]
    obtain ⟨n, hn⟩ : ∃ n, l.length = n := ⟨_, rfl⟩
    rw [hn] at hc h ⊢
    have d : decide ((n : Int) > 64) = false := decide_eq_false (by omega)
    have d2 : decide ((64 : Int) < (n : Int)) = false := d
    have d3 : decide (64 < n) = false := decide_eq_false h
    clear hn e h
    go_enter Try.func11, Try.ntmps11
    go_wp2_with fail
    go_ret
    exact ⟨rfl, rfl⟩
/-- The state that is handed on. -/
def fewS (s : St) : St := { s with stk := s.stk.take 20, out := s.out.take 30 }
set_option maxRecDepth 20000 in
set_option maxHeartbeats 8000000 in
theorem state17 (s : St) (A1 : Option Addr) (c1 : Nat) (A2 : Option Addr) (c2 : Nat) (hc1 : s.stk.length ≤ c1) (hc2 : s.out.length ≤ c2) (w : World) : Calls Try.prog 12 #[stV s A1 c1 A2 c2] w fun e w' => e = .returned (stV (fewS s) A1 c1 A2 c2) ∧ Below w.heap.size w w' := by
  have e1 : (s.stk.take 20).length = if s.stk.length > 20 then 20 else s.stk.length := by rw [List.length_take]; split <;> omega
  have e2 : (s.out.take 30).length = if s.out.length > 30 then 30 else s.out.length := by rw [List.length_take]; split <;> omega
  unfold stV stC
  show Calls _ _ _ _ fun e w' => e = .returned (.agg #[.int .i64 s.pc, .slice A1 (s.stk.take 20).length c1, .int .u64 s.la, .int .u64 s.lb, .int .u64 s.lc, .int .u64 s.ld, .slice A2 (s.out.take 30).length c2]) ∧ _
  obtain ⟨m1, hm1⟩ : ∃ m, (s.stk.take 20).length = m := ⟨_, rfl⟩
  obtain ⟨m2, hm2⟩ : ∃ m, (s.out.take 30).length = m := ⟨_, rfl⟩
  rw [hm1, hm2]
  rw [hm1] at e1
  rw [hm2] at e2
  clear hm1 hm2
  obtain ⟨n1, hn1⟩ : ∃ n, s.stk.length = n := ⟨_, rfl⟩
  obtain ⟨n2, hn2⟩ : ∃ n, s.out.length = n := ⟨_, rfl⟩
  rw [hn1] at hc1 e1 ⊢
  rw [hn2] at hc2 e2 ⊢
  have E1 := Lib.hid e1
  have E2 := Lib.hid e2
  clear e1 e2
  have HC := Lib.hid (And.intro hc1 hc2)
  clear hn1 hn2 hc1 hc2
  have z1 := (Below.refl w.heap.size w).alloc (Nat.le_refl _) (.cells #[.int .i64 s.pc, .slice A1 n1 c1, .int .u64 s.la, .int .u64 s.lb, .int .u64 s.lc, .int .u64 s.ld, .slice A2 n2 c2] 28)
  have z2 := z1.alloc z1.size (.cells #[.int .i64 0, .slice none 0 0, .int .u64 0, .int .u64 0, .int .u64 0, .int .u64 0, .slice none 0 0] 28)
  have X1 := Lib.hid (hp_alloc (heap_alloc_new w (.cells #[.int .i64 s.pc, .slice A1 n1 c1, .int .u64 s.la, .int .u64 s.lb, .int .u64 s.lc, .int .u64 s.ld, .slice A2 n2 c2] 28)) (.cells #[.int .i64 0, .slice none 0 0, .int .u64 0, .int .u64 0, .int .u64 0, .int .u64 0, .slice none 0 0] 28))
  have Y1 := Lib.hid (show ((w.alloc (.cells #[.int .i64 s.pc, .slice A1 n1 c1, .int .u64 s.la, .int .u64 s.lb, .int .u64 s.lc, .int .u64 s.ld, .slice A2 n2 c2] 28)).alloc (.cells #[.int .i64 0, .slice none 0 0, .int .u64 0, .int .u64 0, .int .u64 0, .int .u64 0, .slice none 0 0] 28)).heap[w.heap.size + 1]? = some (.cells #[.int .i64 0, .slice none 0 0, .int .u64 0, .int .u64 0, .int .u64 0, .int .u64 0, .slice none 0 0] 28 (0, 0)) from (congrArg _ (by simp)).trans (heap_alloc_new (w.alloc (.cells #[.int .i64 s.pc, .slice A1 n1 c1, .int .u64 s.la, .int .u64 s.lb, .int .u64 s.lc, .int .u64 s.ld, .slice A2 n2 c2] 28)) (.cells #[.int .i64 0, .slice none 0 0, .int .u64 0, .int .u64 0, .int .u64 0, .int .u64 0, .slice none 0 0] 28)))
  have B1 := Lib.hid z2
  clear z1 z2
  go_enter Try.func12, Try.ntmps12
  go_upto_region 1 with fail
  generalize World.alloc _ _ = w1 at X1 Y1 B1 ⊢
  obtain ⟨g, hg⟩ : ∃ g, w.heap.size = g := ⟨_, rfl⟩
  obtain ⟨r, hr⟩ : ∃ r, w.heap.size + 1 = r := ⟨_, rfl⟩
  rw [hg] at X1
  rw [hr] at Y1
  rw [hr, hg]
  have gr : g ≠ r := by omega
  have gb : w.heap.size ≤ g := by omega
  have rb : w.heap.size ≤ r := by omega
  have GR := Lib.hid (And.intro gr (And.intro gb rb))
  have ne1 : g ≠ r := gr
  have ne2 : r ≠ g := fun e => gr e.symm
  clear hg hr gr gb rb
  by_cases h1 : n1 > 20
  · have dn1 : decide ((n1 : Int) > 20) = true := decide_eq_true (by omega)
    have fn1 : decide ((20 : Int) < (n1 : Int)) = true := dn1
    have gn1 : decide (20 < n1) = true := decide_eq_true (by omega)
    have V1 := Lib.hid (show m1 = 20 by rw [E1.out, if_pos h1])
    have k0 : 20 ≤ n1 := by omega
    have k1 : 20 ≤ c1 := by have := HC.out.1; omega
    clear h1
    have x0 : w1.cell? ⟨g, 0, none⟩ = some (.int .i64 s.pc) := hp_cell (X1.out) 0; have xz0 := hp_frozen (X1.out) 0; have x1 : w1.cell? ⟨g, 1, none⟩ = some (.slice A1 n1 c1) := hp_cell (X1.out) 1; have xz1 := hp_frozen (X1.out) 1; have x2 : w1.cell? ⟨g, 2, none⟩ = some (.int .u64 s.la) := hp_cell (X1.out) 2; have xz2 := hp_frozen (X1.out) 2; have x3 : w1.cell? ⟨g, 3, none⟩ = some (.int .u64 s.lb) := hp_cell (X1.out) 3; have xz3 := hp_frozen (X1.out) 3; have x4 : w1.cell? ⟨g, 4, none⟩ = some (.int .u64 s.lc) := hp_cell (X1.out) 4; have xz4 := hp_frozen (X1.out) 4; have x5 : w1.cell? ⟨g, 5, none⟩ = some (.int .u64 s.ld) := hp_cell (X1.out) 5; have xz5 := hp_frozen (X1.out) 5; have x6 : w1.cell? ⟨g, 6, none⟩ = some (.slice A2 n2 c2) := hp_cell (X1.out) 6; have xz6 := hp_frozen (X1.out) 6; have xl := hp_lt (X1.out)
    go_upto_region 3 with fail
    clear x0 xz0 x1 xz1 x2 xz2 x3 xz3 x4 xz4 x5 xz5 x6 xz6 xl
    have X2 := Lib.hid (hp_put (cs' := #[.int .i64 s.pc, .slice A1 20 c1, .int .u64 s.la, .int .u64 s.lb, .int .u64 s.lc, .int .u64 s.ld, .slice A2 n2 c2]) X1.out 1 (.slice A1 20 c1) (by simp))
    have hF : Fr (fun k => k ≠ g) w1 (w1.setCell ⟨g, 1, none⟩ (.slice A1 20 c1)) := Fr.set _ (fun e => e rfl) _ _
    have Y2 := Lib.hid (hF.hp Y1.out ne2)
    have B2 := Lib.hid (B1.out.trans (hF.toBelow (fun k hk => by have := GR.out.2.1; omega)))
    clear hF X1 Y1 B1
    generalize w1.setCell _ _ = w2 at X2 Y2 B2 ⊢
    by_cases h2 : n2 > 30
    · have dn2 : decide ((n2 : Int) > 30) = true := decide_eq_true (by omega)
      have fn2 : decide ((30 : Int) < (n2 : Int)) = true := dn2
      have gn2 : decide (30 < n2) = true := decide_eq_true (by omega)
      have V2 := Lib.hid (show m2 = 30 by rw [E2.out, if_pos h2])
      have k2 : 30 ≤ n2 := by omega
      have k3 : 30 ≤ c2 := by have := HC.out.2; omega
      clear h2
      have x0 : w2.cell? ⟨g, 0, none⟩ = some (.int .i64 s.pc) := hp_cell (X2.out) 0; have xz0 := hp_frozen (X2.out) 0; have x1 : w2.cell? ⟨g, 1, none⟩ = some (.slice A1 20 c1) := hp_cell (X2.out) 1; have xz1 := hp_frozen (X2.out) 1; have x2 : w2.cell? ⟨g, 2, none⟩ = some (.int .u64 s.la) := hp_cell (X2.out) 2; have xz2 := hp_frozen (X2.out) 2; have x3 : w2.cell? ⟨g, 3, none⟩ = some (.int .u64 s.lb) := hp_cell (X2.out) 3; have xz3 := hp_frozen (X2.out) 3; have x4 : w2.cell? ⟨g, 4, none⟩ = some (.int .u64 s.lc) := hp_cell (X2.out) 4; have xz4 := hp_frozen (X2.out) 4; have x5 : w2.cell? ⟨g, 5, none⟩ = some (.int .u64 s.ld) := hp_cell (X2.out) 5; have xz5 := hp_frozen (X2.out) 5; have x6 : w2.cell? ⟨g, 6, none⟩ = some (.slice A2 n2 c2) := hp_cell (X2.out) 6; have xz6 := hp_frozen (X2.out) 6; have xl := hp_lt (X2.out)
      go_upto_region 5 with fail
      clear x0 xz0 x1 xz1 x2 xz2 x3 xz3 x4 xz4 x5 xz5 x6 xz6 xl
      have X3 := Lib.hid (hp_put (cs' := #[.int .i64 s.pc, .slice A1 20 c1, .int .u64 s.la, .int .u64 s.lb, .int .u64 s.lc, .int .u64 s.ld, .slice A2 30 c2]) X2.out 6 (.slice A2 30 c2) (by simp))
      have hF : Fr (fun k => k ≠ g) w2 (w2.setCell ⟨g, 6, none⟩ (.slice A2 30 c2)) := Fr.set _ (fun e => e rfl) _ _
      have Y3 := Lib.hid (hF.hp Y2.out ne2)
      have B3 := Lib.hid (B2.out.trans (hF.toBelow (fun k hk => by have := GR.out.2.1; omega)))
      clear hF X2 Y2 B2
      generalize w2.setCell _ _ = w3 at X3 Y3 B3 ⊢
      have x0 : w3.cell? ⟨g, 0, none⟩ = some (.int .i64 s.pc) := hp_cell (X3.out) 0; have x1 : w3.cell? ⟨g, 1, none⟩ = some (.slice A1 20 c1) := hp_cell (X3.out) 1; have x2 : w3.cell? ⟨g, 2, none⟩ = some (.int .u64 s.la) := hp_cell (X3.out) 2; have x3 : w3.cell? ⟨g, 3, none⟩ = some (.int .u64 s.lb) := hp_cell (X3.out) 3; have x4 : w3.cell? ⟨g, 4, none⟩ = some (.int .u64 s.lc) := hp_cell (X3.out) 4; have x5 : w3.cell? ⟨g, 5, none⟩ = some (.int .u64 s.ld) := hp_cell (X3.out) 5; have x6 : w3.cell? ⟨g, 6, none⟩ = some (.slice A2 30 c2) := hp_cell (X3.out) 6; have xl := hp_lt (X3.out)
      have y0 : w3.cell? ⟨r, 0, none⟩ = some (.int .i64 0) := hp_cell (Y3.out) 0; have yz0 := hp_frozen (Y3.out) 0; have y1 : w3.cell? ⟨r, 1, none⟩ = some (.slice none 0 0) := hp_cell (Y3.out) 1; have yz1 := hp_frozen (Y3.out) 1; have y2 : w3.cell? ⟨r, 2, none⟩ = some (.int .u64 0) := hp_cell (Y3.out) 2; have yz2 := hp_frozen (Y3.out) 2; have y3 : w3.cell? ⟨r, 3, none⟩ = some (.int .u64 0) := hp_cell (Y3.out) 3; have yz3 := hp_frozen (Y3.out) 3; have y4 : w3.cell? ⟨r, 4, none⟩ = some (.int .u64 0) := hp_cell (Y3.out) 4; have yz4 := hp_frozen (Y3.out) 4; have y5 : w3.cell? ⟨r, 5, none⟩ = some (.int .u64 0) := hp_cell (Y3.out) 5; have yz5 := hp_frozen (Y3.out) 5; have y6 : w3.cell? ⟨r, 6, none⟩ = some (.slice none 0 0) := hp_cell (Y3.out) 6; have yz6 := hp_frozen (Y3.out) 6; have yl := hp_lt (Y3.out)
      go_wp2_with fail
      refine bodyPost_ret (by simp [results, Try.results12, go_sem, y0, y1, y2, y3, y4, y5, y6, ne1, ne2]; try rfl) rfl ?_
      exact ⟨by rw [V1.out, V2.out], (bl_new (bl_new (bl_new (bl_new (bl_new (bl_new (bl_new B3.out GR.out.2.2 _) GR.out.2.2 _) GR.out.2.2 _) GR.out.2.2 _) GR.out.2.2 _) GR.out.2.2 _) GR.out.2.2 _)⟩
    · have dn2 : decide ((n2 : Int) > 30) = false := decide_eq_false (by omega)
      have fn2 : decide ((30 : Int) < (n2 : Int)) = false := dn2
      have gn2 : decide (30 < n2) = false := decide_eq_false (by omega)
      have V2 := Lib.hid (show m2 = n2 by rw [E2.out, if_neg h2])
      clear h2
      have x0 : w2.cell? ⟨g, 0, none⟩ = some (.int .i64 s.pc) := hp_cell (X2.out) 0; have xz0 := hp_frozen (X2.out) 0; have x1 : w2.cell? ⟨g, 1, none⟩ = some (.slice A1 20 c1) := hp_cell (X2.out) 1; have xz1 := hp_frozen (X2.out) 1; have x2 : w2.cell? ⟨g, 2, none⟩ = some (.int .u64 s.la) := hp_cell (X2.out) 2; have xz2 := hp_frozen (X2.out) 2; have x3 : w2.cell? ⟨g, 3, none⟩ = some (.int .u64 s.lb) := hp_cell (X2.out) 3; have xz3 := hp_frozen (X2.out) 3; have x4 : w2.cell? ⟨g, 4, none⟩ = some (.int .u64 s.lc) := hp_cell (X2.out) 4; have xz4 := hp_frozen (X2.out) 4; have x5 : w2.cell? ⟨g, 5, none⟩ = some (.int .u64 s.ld) := hp_cell (X2.out) 5; have xz5 := hp_frozen (X2.out) 5; have x6 : w2.cell? ⟨g, 6, none⟩ = some (.slice A2 n2 c2) := hp_cell (X2.out) 6; have xz6 := hp_frozen (X2.out) 6; have xl := hp_lt (X2.out)
      clear x0 xz0 x1 xz1 x2 xz2 x3 xz3 x4 xz4 x5 xz5 x6 xz6 xl
      have x0 : w2.cell? ⟨g, 0, none⟩ = some (.int .i64 s.pc) := hp_cell (X2.out) 0; have x1 : w2.cell? ⟨g, 1, none⟩ = some (.slice A1 20 c1) := hp_cell (X2.out) 1; have x2 : w2.cell? ⟨g, 2, none⟩ = some (.int .u64 s.la) := hp_cell (X2.out) 2; have x3 : w2.cell? ⟨g, 3, none⟩ = some (.int .u64 s.lb) := hp_cell (X2.out) 3; have x4 : w2.cell? ⟨g, 4, none⟩ = some (.int .u64 s.lc) := hp_cell (X2.out) 4; have x5 : w2.cell? ⟨g, 5, none⟩ = some (.int .u64 s.ld) := hp_cell (X2.out) 5; have x6 : w2.cell? ⟨g, 6, none⟩ = some (.slice A2 n2 c2) := hp_cell (X2.out) 6; have xl := hp_lt (X2.out)
      have y0 : w2.cell? ⟨r, 0, none⟩ = some (.int .i64 0) := hp_cell (Y2.out) 0; have yz0 := hp_frozen (Y2.out) 0; have y1 : w2.cell? ⟨r, 1, none⟩ = some (.slice none 0 0) := hp_cell (Y2.out) 1; have yz1 := hp_frozen (Y2.out) 1; have y2 : w2.cell? ⟨r, 2, none⟩ = some (.int .u64 0) := hp_cell (Y2.out) 2; have yz2 := hp_frozen (Y2.out) 2; have y3 : w2.cell? ⟨r, 3, none⟩ = some (.int .u64 0) := hp_cell (Y2.out) 3; have yz3 := hp_frozen (Y2.out) 3; have y4 : w2.cell? ⟨r, 4, none⟩ = some (.int .u64 0) := hp_cell (Y2.out) 4; have yz4 := hp_frozen (Y2.out) 4; have y5 : w2.cell? ⟨r, 5, none⟩ = some (.int .u64 0) := hp_cell (Y2.out) 5; have yz5 := hp_frozen (Y2.out) 5; have y6 : w2.cell? ⟨r, 6, none⟩ = some (.slice none 0 0) := hp_cell (Y2.out) 6; have yz6 := hp_frozen (Y2.out) 6; have yl := hp_lt (Y2.out)
      go_wp2_with fail
      refine bodyPost_ret (by simp [results, Try.results12, go_sem, y0, y1, y2, y3, y4, y5, y6, ne1, ne2]; try rfl) rfl ?_
      exact ⟨by rw [V1.out, V2.out], (bl_new (bl_new (bl_new (bl_new (bl_new (bl_new (bl_new B2.out GR.out.2.2 _) GR.out.2.2 _) GR.out.2.2 _) GR.out.2.2 _) GR.out.2.2 _) GR.out.2.2 _) GR.out.2.2 _)⟩
  · have dn1 : decide ((n1 : Int) > 20) = false := decide_eq_false (by omega)
    have fn1 : decide ((20 : Int) < (n1 : Int)) = false := dn1
    have gn1 : decide (20 < n1) = false := decide_eq_false (by omega)
    have V1 := Lib.hid (show m1 = n1 by rw [E1.out, if_neg h1])
    clear h1
    have x0 : w1.cell? ⟨g, 0, none⟩ = some (.int .i64 s.pc) := hp_cell (X1.out) 0; have xz0 := hp_frozen (X1.out) 0; have x1 : w1.cell? ⟨g, 1, none⟩ = some (.slice A1 n1 c1) := hp_cell (X1.out) 1; have xz1 := hp_frozen (X1.out) 1; have x2 : w1.cell? ⟨g, 2, none⟩ = some (.int .u64 s.la) := hp_cell (X1.out) 2; have xz2 := hp_frozen (X1.out) 2; have x3 : w1.cell? ⟨g, 3, none⟩ = some (.int .u64 s.lb) := hp_cell (X1.out) 3; have xz3 := hp_frozen (X1.out) 3; have x4 : w1.cell? ⟨g, 4, none⟩ = some (.int .u64 s.lc) := hp_cell (X1.out) 4; have xz4 := hp_frozen (X1.out) 4; have x5 : w1.cell? ⟨g, 5, none⟩ = some (.int .u64 s.ld) := hp_cell (X1.out) 5; have xz5 := hp_frozen (X1.out) 5; have x6 : w1.cell? ⟨g, 6, none⟩ = some (.slice A2 n2 c2) := hp_cell (X1.out) 6; have xz6 := hp_frozen (X1.out) 6; have xl := hp_lt (X1.out)
    go_upto_region 3 with fail
    clear x0 xz0 x1 xz1 x2 xz2 x3 xz3 x4 xz4 x5 xz5 x6 xz6 xl
    by_cases h2 : n2 > 30
    · have dn2 : decide ((n2 : Int) > 30) = true := decide_eq_true (by omega)
      have fn2 : decide ((30 : Int) < (n2 : Int)) = true := dn2
      have gn2 : decide (30 < n2) = true := decide_eq_true (by omega)
      have V2 := Lib.hid (show m2 = 30 by rw [E2.out, if_pos h2])
      have k2 : 30 ≤ n2 := by omega
      have k3 : 30 ≤ c2 := by have := HC.out.2; omega
      clear h2
      have x0 : w1.cell? ⟨g, 0, none⟩ = some (.int .i64 s.pc) := hp_cell (X1.out) 0; have xz0 := hp_frozen (X1.out) 0; have x1 : w1.cell? ⟨g, 1, none⟩ = some (.slice A1 n1 c1) := hp_cell (X1.out) 1; have xz1 := hp_frozen (X1.out) 1; have x2 : w1.cell? ⟨g, 2, none⟩ = some (.int .u64 s.la) := hp_cell (X1.out) 2; have xz2 := hp_frozen (X1.out) 2; have x3 : w1.cell? ⟨g, 3, none⟩ = some (.int .u64 s.lb) := hp_cell (X1.out) 3; have xz3 := hp_frozen (X1.out) 3; have x4 : w1.cell? ⟨g, 4, none⟩ = some (.int .u64 s.lc) := hp_cell (X1.out) 4; have xz4 := hp_frozen (X1.out) 4; have x5 : w1.cell? ⟨g, 5, none⟩ = some (.int .u64 s.ld) := hp_cell (X1.out) 5; have xz5 := hp_frozen (X1.out) 5; have x6 : w1.cell? ⟨g, 6, none⟩ = some (.slice A2 n2 c2) := hp_cell (X1.out) 6; have xz6 := hp_frozen (X1.out) 6; have xl := hp_lt (X1.out)
      go_upto_region 5 with fail
      clear x0 xz0 x1 xz1 x2 xz2 x3 xz3 x4 xz4 x5 xz5 x6 xz6 xl
      have X2 := Lib.hid (hp_put (cs' := #[.int .i64 s.pc, .slice A1 n1 c1, .int .u64 s.la, .int .u64 s.lb, .int .u64 s.lc, .int .u64 s.ld, .slice A2 30 c2]) X1.out 6 (.slice A2 30 c2) (by simp))
      have hF : Fr (fun k => k ≠ g) w1 (w1.setCell ⟨g, 6, none⟩ (.slice A2 30 c2)) := Fr.set _ (fun e => e rfl) _ _
      have Y2 := Lib.hid (hF.hp Y1.out ne2)
      have B2 := Lib.hid (B1.out.trans (hF.toBelow (fun k hk => by have := GR.out.2.1; omega)))
      clear hF X1 Y1 B1
      generalize w1.setCell _ _ = w2 at X2 Y2 B2 ⊢
      have x0 : w2.cell? ⟨g, 0, none⟩ = some (.int .i64 s.pc) := hp_cell (X2.out) 0; have x1 : w2.cell? ⟨g, 1, none⟩ = some (.slice A1 n1 c1) := hp_cell (X2.out) 1; have x2 : w2.cell? ⟨g, 2, none⟩ = some (.int .u64 s.la) := hp_cell (X2.out) 2; have x3 : w2.cell? ⟨g, 3, none⟩ = some (.int .u64 s.lb) := hp_cell (X2.out) 3; have x4 : w2.cell? ⟨g, 4, none⟩ = some (.int .u64 s.lc) := hp_cell (X2.out) 4; have x5 : w2.cell? ⟨g, 5, none⟩ = some (.int .u64 s.ld) := hp_cell (X2.out) 5; have x6 : w2.cell? ⟨g, 6, none⟩ = some (.slice A2 30 c2) := hp_cell (X2.out) 6; have xl := hp_lt (X2.out)
      have y0 : w2.cell? ⟨r, 0, none⟩ = some (.int .i64 0) := hp_cell (Y2.out) 0; have yz0 := hp_frozen (Y2.out) 0; have y1 : w2.cell? ⟨r, 1, none⟩ = some (.slice none 0 0) := hp_cell (Y2.out) 1; have yz1 := hp_frozen (Y2.out) 1; have y2 : w2.cell? ⟨r, 2, none⟩ = some (.int .u64 0) := hp_cell (Y2.out) 2; have yz2 := hp_frozen (Y2.out) 2; have y3 : w2.cell? ⟨r, 3, none⟩ = some (.int .u64 0) := hp_cell (Y2.out) 3; have yz3 := hp_frozen (Y2.out) 3; have y4 : w2.cell? ⟨r, 4, none⟩ = some (.int .u64 0) := hp_cell (Y2.out) 4; have yz4 := hp_frozen (Y2.out) 4; have y5 : w2.cell? ⟨r, 5, none⟩ = some (.int .u64 0) := hp_cell (Y2.out) 5; have yz5 := hp_frozen (Y2.out) 5; have y6 : w2.cell? ⟨r, 6, none⟩ = some (.slice none 0 0) := hp_cell (Y2.out) 6; have yz6 := hp_frozen (Y2.out) 6; have yl := hp_lt (Y2.out)
      go_wp2_with fail
      refine bodyPost_ret (by simp [results, Try.results12, go_sem, y0, y1, y2, y3, y4, y5, y6, ne1, ne2]; try rfl) rfl ?_
      exact ⟨by rw [V1.out, V2.out], (bl_new (bl_new (bl_new (bl_new (bl_new (bl_new (bl_new B2.out GR.out.2.2 _) GR.out.2.2 _) GR.out.2.2 _) GR.out.2.2 _) GR.out.2.2 _) GR.out.2.2 _) GR.out.2.2 _)⟩
    · have dn2 : decide ((n2 : Int) > 30) = false := decide_eq_false (by omega)
      have fn2 : decide ((30 : Int) < (n2 : Int)) = false := dn2
      have gn2 : decide (30 < n2) = false := decide_eq_false (by omega)
      have V2 := Lib.hid (show m2 = n2 by rw [E2.out, if_neg h2])
      clear h2
      have x0 : w1.cell? ⟨g, 0, none⟩ = some (.int .i64 s.pc) := hp_cell (X1.out) 0; have xz0 := hp_frozen (X1.out) 0; have x1 : w1.cell? ⟨g, 1, none⟩ = some (.slice A1 n1 c1) := hp_cell (X1.out) 1; have xz1 := hp_frozen (X1.out) 1; have x2 : w1.cell? ⟨g, 2, none⟩ = some (.int .u64 s.la) := hp_cell (X1.out) 2; have xz2 := hp_frozen (X1.out) 2; have x3 : w1.cell? ⟨g, 3, none⟩ = some (.int .u64 s.lb) := hp_cell (X1.out) 3; have xz3 := hp_frozen (X1.out) 3; have x4 : w1.cell? ⟨g, 4, none⟩ = some (.int .u64 s.lc) := hp_cell (X1.out) 4; have xz4 := hp_frozen (X1.out) 4; have x5 : w1.cell? ⟨g, 5, none⟩ = some (.int .u64 s.ld) := hp_cell (X1.out) 5; have xz5 := hp_frozen (X1.out) 5; have x6 : w1.cell? ⟨g, 6, none⟩ = some (.slice A2 n2 c2) := hp_cell (X1.out) 6; have xz6 := hp_frozen (X1.out) 6; have xl := hp_lt (X1.out)
      clear x0 xz0 x1 xz1 x2 xz2 x3 xz3 x4 xz4 x5 xz5 x6 xz6 xl
      have x0 : w1.cell? ⟨g, 0, none⟩ = some (.int .i64 s.pc) := hp_cell (X1.out) 0; have x1 : w1.cell? ⟨g, 1, none⟩ = some (.slice A1 n1 c1) := hp_cell (X1.out) 1; have x2 : w1.cell? ⟨g, 2, none⟩ = some (.int .u64 s.la) := hp_cell (X1.out) 2; have x3 : w1.cell? ⟨g, 3, none⟩ = some (.int .u64 s.lb) := hp_cell (X1.out) 3; have x4 : w1.cell? ⟨g, 4, none⟩ = some (.int .u64 s.lc) := hp_cell (X1.out) 4; have x5 : w1.cell? ⟨g, 5, none⟩ = some (.int .u64 s.ld) := hp_cell (X1.out) 5; have x6 : w1.cell? ⟨g, 6, none⟩ = some (.slice A2 n2 c2) := hp_cell (X1.out) 6; have xl := hp_lt (X1.out)
      have y0 : w1.cell? ⟨r, 0, none⟩ = some (.int .i64 0) := hp_cell (Y1.out) 0; have yz0 := hp_frozen (Y1.out) 0; have y1 : w1.cell? ⟨r, 1, none⟩ = some (.slice none 0 0) := hp_cell (Y1.out) 1; have yz1 := hp_frozen (Y1.out) 1; have y2 : w1.cell? ⟨r, 2, none⟩ = some (.int .u64 0) := hp_cell (Y1.out) 2; have yz2 := hp_frozen (Y1.out) 2; have y3 : w1.cell? ⟨r, 3, none⟩ = some (.int .u64 0) := hp_cell (Y1.out) 3; have yz3 := hp_frozen (Y1.out) 3; have y4 : w1.cell? ⟨r, 4, none⟩ = some (.int .u64 0) := hp_cell (Y1.out) 4; have yz4 := hp_frozen (Y1.out) 4; have y5 : w1.cell? ⟨r, 5, none⟩ = some (.int .u64 0) := hp_cell (Y1.out) 5; have yz5 := hp_frozen (Y1.out) 5; have y6 : w1.cell? ⟨r, 6, none⟩ = some (.slice none 0 0) := hp_cell (Y1.out) 6; have yz6 := hp_frozen (Y1.out) 6; have yl := hp_lt (Y1.out)
      go_wp2_with fail
      refine bodyPost_ret (by simp [results, Try.results12, go_sem, y0, y1, y2, y3, y4, y5, y6, ne1, ne2]; try rfl) rfl ?_
      exact ⟨by rw [V1.out, V2.out], (bl_new (bl_new (bl_new (bl_new (bl_new (bl_new (bl_new B1.out GR.out.2.2 _) GR.out.2.2 _) GR.out.2.2 _) GR.out.2.2 _) GR.out.2.2 _) GR.out.2.2 _) GR.out.2.2 _)⟩
end Go.Proofs.Ytlgpjcdlomhlcaa
