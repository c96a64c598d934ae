
/-
  rowlockref01.SameVals of lists that are the same; rowlockref17.SameState of states that are the same.
-/
import Derived.Test.YtlgpjcdlomhlcaaSp22
import Derived.Test.YtlgpjcdlomhlcaaSp17
namespace Go.Proofs.Ytlgpjcdlomhlcaa
open Go.RowKit Go.ChangeShapes Go.WideShapes
set_option linter.unusedSimpArgs false
set_option linter.unusedVariables false

theorem src_cell {w : World} {A : Option Addr} {c : Nat} {l : List Int} (h : Src w A c l) {j : Nat} (hj : j < l.length) : ∃ b, A = some b ∧ w.cell? (b.add j) = some (.int .u64 (hvAt l j)) := by
  cases hA : A with
  | none => have := h.vals.2.1 hA; subst this; simp at hj
  | some b => exact ⟨b, rfl, h.vals.2.2 b hA j _ (by rw [valsC_get, hv_get hj]; rfl)⟩
theorem Src.drewN {w w1 : World} {A : Option Addr} {c : Nat} {l : List Int} (h : Src w A c l) (hd : DrewN w w1) : Src w1 A c l := by
  obtain ⟨n, rfl⟩ := hd
  exact h.below (bl_drewN (Below.refl _ _) n)
set_option maxRecDepth 20000 in
set_option maxHeartbeats 4000000 in
theorem sameVals_yes (A B : Option Addr) (c d : Nat) (l : List Int) (w : World) (h1 : Src w A c l) (h2 : Src w B d l) : Calls Try.prog 18 #[.slice A l.length c, .slice B l.length d] w fun e w' => e = .returned (.bool true) ∧ DrewN w w' := by
  have H1 := Lib.hid h1
  have H2 := Lib.hid h2
  have HL := Lib.hid h1.len
  clear h1 h2
  go_enter Try.func18, Try.ntmps18
  go_wp2_with fail
  go_loopw [5] (fun t w' => ∃ (j : Nat), j ≤ l.length ∧ t = .int .i64 j ∧ Hid (DrewN w w')) (fun t _ => l.length - (intOf t).toNat)
  case atStart => exact ⟨0, by omega, rfl, Lib.hid (DrewN.refl _)⟩
  case round =>
    obtain ⟨j, hj, rfl, HD⟩ := hrel
    by_cases hlt : j < l.length
    · obtain ⟨a, rfl, xa⟩ := src_cell (H1.out.drewN HD.out) hlt
      obtain ⟨b, rfl, xb⟩ := src_cell (H2.out.drewN HD.out) hlt
      have la := World.block_lt_of_cell? wr _ xa
      have lb := World.block_lt_of_cell? wr _ xb
      have s1 : decide ((j : Int) < (l.length : Int)) = true := decide_eq_true (by omega)
      have s2 : decide (j < l.length) = true := decide_eq_true hlt
      have s3 : (j : Int) < (l.length : Int) := by omega
      have s4 : (0 : Int) ≤ (j : Int) := by omega
      have s5 : wrap64 ((j : Int) + 1) = (j : Int) + 1 := by have := HL.out; unfold wrap64; omega
      go_wp2_with fail
      go_quiet (fail)
      go_wp2_with fail
      go_roundw
      case rel => exact ⟨j + 1, hlt, by rw [s5]; rfl, Lib.hid (drewN_more HD.out nq)⟩
      case measure => exact meas_step hlt s5
    · have s1 : decide ((j : Int) < (l.length : Int)) = false := decide_eq_false (by omega)
      have s2 : decide (j < l.length) = false := decide_eq_false hlt
      go_wp2_with fail
      go_ret
      exact ⟨rfl, HD.out⟩
set_option maxRecDepth 20000 in
set_option maxHeartbeats 4000000 in
theorem sameState_yes (s : St) (A1 : Option Addr) (c1 : Nat) (A2 : Option Addr) (c2 : Nat) (B1 : Option Addr) (d1 : Nat) (B2 : Option Addr) (d2 : Nat) (w : World) (h1 : Src w A1 c1 s.stk) (h2 : Src w A2 c2 s.out) (h3 : Src w B1 d1 s.stk) (h4 : Src w B2 d2 s.out) :
    Calls Try.prog 15 #[stV s A1 c1 A2 c2, stV s B1 d1 B2 d2] w fun e w' => e = .returned (.bool true) ∧ Below w.heap.size w w' := by
  have z1 := (Below.refl w.heap.size w).alloc (Nat.le_refl _) (.cells (stC s A1 c1 A2 c2) 28)
  have z2 := z1.alloc z1.size (.cells (stC s B1 d1 B2 d2) 28)
  have X := Lib.hid (hp_alloc (heap_alloc_new w (.cells (stC s A1 c1 A2 c2) 28)) (.cells (stC s B1 d1 B2 d2) 28))
  have Y := Lib.hid (show ((w.alloc (.cells (stC s A1 c1 A2 c2) 28)).alloc (.cells (stC s B1 d1 B2 d2) 28)).heap[w.heap.size + 1]? = _ from (congrArg _ (by simp)).trans (heap_alloc_new (w.alloc (.cells (stC s A1 c1 A2 c2) 28)) (.cells (stC s B1 d1 B2 d2) 28)))
  have Z := Lib.hid z2
  have H1 := Lib.hid (h1.below z2)
  have H2 := Lib.hid (h2.below z2)
  have H3 := Lib.hid (h3.below z2)
  have H4 := Lib.hid (h4.below z2)
  clear z1 z2 h1 h2 h3 h4
  have q26 := run_eq_loc
  have q27 : ∀ (a b c d : Int) (w : World), (binOp .eql 26 (.agg #[.int .u64 a, .int .u64 b, .int .u64 c, .int .u64 d]) (.agg #[.int .u64 a, .int .u64 b, .int .u64 c, .int .u64 d])).run Try.prog w = .ok (.bool true) w := fun a b c d w => by simp [binOp, go_sem, run_eq_loc]
  unfold stV
  unfold stC at *
  go_enter Try.func15, Try.ntmps15
  go_upto_region 1 with fail
  generalize World.alloc _ _ = w2 at X Y Z H1 H2 H3 H4 ⊢
  obtain ⟨g1, hg1⟩ : ∃ x, w.heap.size = x := ⟨_, rfl⟩
  obtain ⟨g2, hg2⟩ : ∃ x, w.heap.size + 1 = x := ⟨_, rfl⟩
  rw [hg1] at X
  rw [hg2] at Y
  rw [hg2, hg1]
  clear hg1 hg2
  have x0 : w2.cell? ⟨g1, 0, none⟩ = some (.int .i64 s.pc) := hp_cell X.out 0; have x1 : w2.cell? ⟨g1, 1, none⟩ = some (.slice A1 s.stk.length c1) := hp_cell X.out 1; have x2 : w2.cell? ⟨g1, 2, none⟩ = some (.int .u64 s.la) := hp_cell X.out 2; have x3 : w2.cell? ⟨g1, 3, none⟩ = some (.int .u64 s.lb) := hp_cell X.out 3; have x4 : w2.cell? ⟨g1, 4, none⟩ = some (.int .u64 s.lc) := hp_cell X.out 4; have x5 : w2.cell? ⟨g1, 5, none⟩ = some (.int .u64 s.ld) := hp_cell X.out 5; have x6 : w2.cell? ⟨g1, 6, none⟩ = some (.slice A2 s.out.length c2) := hp_cell X.out 6; have xl := hp_lt (X.out)
  have y0 : w2.cell? ⟨g2, 0, none⟩ = some (.int .i64 s.pc) := hp_cell Y.out 0; have y1 : w2.cell? ⟨g2, 1, none⟩ = some (.slice B1 s.stk.length d1) := hp_cell Y.out 1; have y2 : w2.cell? ⟨g2, 2, none⟩ = some (.int .u64 s.la) := hp_cell Y.out 2; have y3 : w2.cell? ⟨g2, 3, none⟩ = some (.int .u64 s.lb) := hp_cell Y.out 3; have y4 : w2.cell? ⟨g2, 4, none⟩ = some (.int .u64 s.lc) := hp_cell Y.out 4; have y5 : w2.cell? ⟨g2, 5, none⟩ = some (.int .u64 s.ld) := hp_cell Y.out 5; have y6 : w2.cell? ⟨g2, 6, none⟩ = some (.slice B2 s.out.length d2) := hp_cell Y.out 6; have yl := hp_lt (Y.out)
  go_wp2_with (go_at_call 18; first | (have hx0 := D3; clear hx0; (refine (sameVals_yes A2 B2 c2 d2 s.out _ (H2.out.drewN D3.out) (H4.out.drewN D3.out)).mono ?_); rintro e w4 ⟨rfl, hd4⟩; have D4 := Lib.hid hd4; clear hd4) | ((refine (sameVals_yes A1 B1 c1 d1 s.stk _ H1.out H3.out).mono ?_); rintro e w3 ⟨rfl, hd3⟩; have D3 := Lib.hid hd3; have u0 : w3.cell? ⟨g1, 0, none⟩ = some (.int .i64 s.pc) := hp_cell (drewN_hp hd3 X.out) 0; have u1 : w3.cell? ⟨g1, 1, none⟩ = some (.slice A1 s.stk.length c1) := hp_cell (drewN_hp hd3 X.out) 1; have u2 : w3.cell? ⟨g1, 2, none⟩ = some (.int .u64 s.la) := hp_cell (drewN_hp hd3 X.out) 2; have u3 : w3.cell? ⟨g1, 3, none⟩ = some (.int .u64 s.lb) := hp_cell (drewN_hp hd3 X.out) 3; have u4 : w3.cell? ⟨g1, 4, none⟩ = some (.int .u64 s.lc) := hp_cell (drewN_hp hd3 X.out) 4; have u5 : w3.cell? ⟨g1, 5, none⟩ = some (.int .u64 s.ld) := hp_cell (drewN_hp hd3 X.out) 5; have u6 : w3.cell? ⟨g1, 6, none⟩ = some (.slice A2 s.out.length c2) := hp_cell (drewN_hp hd3 X.out) 6; have ul := hp_lt ((drewN_hp hd3 X.out)); have v0 : w3.cell? ⟨g2, 0, none⟩ = some (.int .i64 s.pc) := hp_cell (drewN_hp hd3 Y.out) 0; have v1 : w3.cell? ⟨g2, 1, none⟩ = some (.slice B1 s.stk.length d1) := hp_cell (drewN_hp hd3 Y.out) 1; have v2 : w3.cell? ⟨g2, 2, none⟩ = some (.int .u64 s.la) := hp_cell (drewN_hp hd3 Y.out) 2; have v3 : w3.cell? ⟨g2, 3, none⟩ = some (.int .u64 s.lb) := hp_cell (drewN_hp hd3 Y.out) 3; have v4 : w3.cell? ⟨g2, 4, none⟩ = some (.int .u64 s.lc) := hp_cell (drewN_hp hd3 Y.out) 4; have v5 : w3.cell? ⟨g2, 5, none⟩ = some (.int .u64 s.ld) := hp_cell (drewN_hp hd3 Y.out) 5; have v6 : w3.cell? ⟨g2, 6, none⟩ = some (.slice B2 s.out.length d2) := hp_cell (drewN_hp hd3 Y.out) 6; have vl := hp_lt ((drewN_hp hd3 Y.out)); clear hd3))
  go_ret
  exact ⟨rfl, (Z.out.trans ((drew_below D3.out).mono Z.out.size)).trans ((drew_below D4.out).mono (Nat.le_trans Z.out.size (drew_below D3.out).size))⟩
end Go.Proofs.Ytlgpjcdlomhlcaa
