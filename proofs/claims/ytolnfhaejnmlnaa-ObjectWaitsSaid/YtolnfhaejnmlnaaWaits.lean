
/-
  rowlocklaw20.ObjectWaits: for every size and number it returns true.
-/
import Derived.Test.YtolnfhaejnmlnaaObj6
import Derived.LoopTactic
import Derived.Deep.RegionHeld3
import Derived.OpenShut
import Derived.IntWalk
namespace Go.Proofs.Ytolnfhaejnmlnaa
open Go.RowKit
set_option linter.unusedSimpArgs false
set_option linter.unusedVariables false

theorem baDo_as {p a : Nat} {s s' : Int × Int × Int} {k who v : Int} {av : Int} {ab : Bool} {ae : Int} (hv : W64 v) (hr : baDo k who v s = ((av, ab, ae), s')) (w : World) (H : baAt w p a s) :
    Calls Try.prog 11 #[.pointer (some ⟨p, 0, none⟩), .agg #[.int .u8 k, .int .i64 who, .int .u64 v]] w fun e w' => e = .returned (.agg #[.int .u64 av, .bool ab, .int .i64 ae]) ∧ baAt w' p a s' ∧ w.grownBy w' (some a) := by
  have h := baDo_any p a s k who v hv w H
  rw [hr] at h
  exact h
theorem gen_up : ∀ g : Fin 20, lessB (intV (g.val : Int)) (intV ((g.val : Int) + 1)) = true ∧ lessB (intV (g.val : Int)) (intV (g.val : Int)) = false ∧ rightB (intV (g.val : Int)) = true := by decide +kernel
theorem baDo_arrive (n j : Int) (h1 : 1 ≤ n) (h4 : n ≤ 4) (j0 : 0 ≤ j) (j1 : j < 20) : baDo 7 (j % 4) 0 (n, j % n, j / n) = ((intV (j / n), false, 0), (n, (j + 1) % n, (j + 1) / n)) := by
  have e1 : badB (baTk 7) 7 (j % 4) 0 = false := by
    have a : decide (j % 4 < 0) = false := decide_eq_false (by omega)
    have b : decide (4 ≤ j % 4) = false := decide_eq_false (by omega)
    unfold badB
    rw [a, b]
    rfl
  unfold baDo baStep
  rw [e1]
  simp only [cond_false]
  rw [show ((7 : Int) == 8) = false from rfl]
  simp only [cond_false]
  have c : wrap64 (j % n + 1) = j % n + 1 := by
    have : 0 ≤ j % n := Int.emod_nonneg _ (by omega)
    have : j % n < n := Int.emod_lt_of_pos _ (by omega)
    unfold wrap64; omega
  have d : wrap64 (j / n + 1) = j / n + 1 := by
    have : 0 ≤ j / n := Int.ediv_nonneg j0 (by omega)
    have : j / n ≤ j := Int.ediv_le_self _ j0
    unfold wrap64; omega
  rw [c, d]
  obtain rfl | rfl | rfl | rfl : n = 1 ∨ n = 2 ∨ n = 3 ∨ n = 4 := by omega
  · rw [show (j % 1 + 1 == 1) = true from beq_iff_eq.mpr (by omega)]; simp only [cond_true, Prod.mk.injEq, true_and]; omega
  · cases h : (j % 2 + 1 == 2)
    · have := beq_eq_false_iff_ne.mp h; simp only [cond_false, Prod.mk.injEq, true_and]; omega
    · have := beq_iff_eq.mp h; simp only [cond_true, Prod.mk.injEq, true_and]; omega
  · cases h : (j % 3 + 1 == 3)
    · have := beq_eq_false_iff_ne.mp h; simp only [cond_false, Prod.mk.injEq, true_and]; omega
    · have := beq_iff_eq.mp h; simp only [cond_true, Prod.mk.injEq, true_and]; omega
  · cases h : (j % 4 + 1 == 4)
    · have := beq_eq_false_iff_ne.mp h; simp only [cond_false, Prod.mk.injEq, true_and]; omega
    · have := beq_iff_eq.mp h; simp only [cond_true, Prod.mk.injEq, true_and]; omega
theorem baDo_leave (n j : Int) (h1 : 1 ≤ n) (h4 : n ≤ 4) (j0 : 0 ≤ j) (j1 : j < 20) :
    ∃ av bb, baDo 8 0 (intV (j / n)) (n, (j + 1) % n, (j + 1) / n) = ((av, bb, 0), (n, (j + 1) % n, (j + 1) / n)) ∧ (bb == (j % n == n - 1)) = false := by
  have q0 : 0 ≤ j / n := Int.ediv_nonneg j0 (by omega)
  have q1 : j / n ≤ j := Int.ediv_le_self _ j0
  have G := gen_up ⟨(j / n).toNat, by omega⟩
  simp only [Int.toNat_of_nonneg q0] at G
  obtain ⟨g1, g2, g3⟩ := G
  have e1 : badB (baTk 8) 8 0 (intV (j / n)) = false := by
    unfold badB fitsB
    rw [g3]
    simp
    rfl
  unfold baDo baStep
  rw [e1]
  simp only [cond_false]
  rw [show ((8 : Int) == 8) = true from rfl]
  simp only [cond_true]
  by_cases h : j % n = n - 1
  · have : (j + 1) / n = j / n + 1 := by
      obtain rfl | rfl | rfl | rfl : n = 1 ∨ n = 2 ∨ n = 3 ∨ n = 4 := by omega
      all_goals omega
    rw [this, g1]
    exact ⟨_, _, rfl, by simp [h]⟩
  · have : (j + 1) / n = j / n := by
      obtain rfl | rfl | rfl | rfl : n = 1 ∨ n = 2 ∨ n = 3 ∨ n = 4 := by omega
      all_goals omega
    rw [this, g2]
    exact ⟨_, _, rfl, by simp [h]⟩
def WaitRel (W : World) (p a : Nat) (s : Int × Int × Int) (wr : World) : Prop := baAt wr p a s ∧ Below W.heap.size W wr
theorem WaitRel.below {W w w1 : World} {p a : Nat} {s : Int × Int × Int} (h : WaitRel W p a s w) (hb : Below w.heap.size w w1) : WaitRel W p a s w1 := ⟨baAt_below h.1 hb, h.2.trans (hb.mono h.2.size)⟩
theorem WaitRel.alloc {W w : World} {p a : Nat} {s : Int × Int × Int} (h : WaitRel W p a s w) (o : Obj) : WaitRel W p a s (w.alloc o) := h.below ((Below.refl _ _).alloc (Nat.le_refl _) o)
theorem WaitRel.drewN {W w : World} {p a : Nat} {s : Int × Int × Int} (h : WaitRel W p a s w) (n : Nat) : WaitRel W p a s (w.drewN n) := h.below ⟨rfl, rfl, rfl, Nat.le_refl _, fun _ _ => rfl⟩
theorem WaitRel.drew {W w : World} {p a : Nat} {s : Int × Int × Int} (h : WaitRel W p a s w) : WaitRel W p a s w.drew := h.below ⟨rfl, rfl, rfl, Nat.le_refl _, fun _ _ => rfl⟩
theorem waitShape {W w : World} {p a : Nat} {s : Int × Int × Int} (h : WaitRel W p a s w) : Calls Try.prog 12 #[.pointer (some ⟨p, 0, none⟩)] w fun e w' => e = .returned (.agg #[.int .i64 (-1), .int .i64 s.2.1, .int .i64 s.2.2, .slice none 0 0]) ∧ WaitRel W p a s w' :=
  (baShape p a s w h.1).mono fun e w' ⟨he, hb⟩ => ⟨he, h.below hb⟩

set_option maxHeartbeats 8000000 in
set_option maxRecDepth 100000 in
theorem objectWaits_walk0 (W : World) (x y n : Int) (y0 : 0 ≤ y) (y1 : y ≤ 255) (x0 : 0 ≤ x) (x1 : x ≤ 255) (hn : x % 4 + 1 = n) (h1 : 1 ≤ n) (h4 : n ≤ 4) :
    Calls Try.prog 5 #[.int .u8 x, .int .u8 y] W fun e w' => e = .returned (.bool true) ∧ Below W.heap.size W w' := by
  go_enter Try.func5, Try.ntmps5
  go_wp2_with (first | (go_at_call 9; ((with_reducible refine (newBa n h1 h4 _).mono ?_); rintro e w1 ⟨p, a, rfl, H1, hb1, hp1, ha1⟩); have R1 := Lib.hid (show WaitRel W p a (n, 0, 0) w1 from ⟨H1, hb1⟩); clear H1 hb1) | (go_at_call 10; ((with_reducible refine (live_any _).mono ?_); rintro e w3 ⟨rfl, hb3⟩); have R3 := Lib.hid (R1.out.below hb3); clear hb3 R1))
  go_loopw [7] (fun i wr => ∃ (j : Nat), (j : Int) ≤ y % 20 ∧ i = .int .i64 j ∧ Hid (WaitRel W p a (n, (j : Int) % n, (j : Int) / n) wr)) (fun i _ => 20 - (intOf i).toNat)
  case atStart => exact ⟨0, by omega, rfl, by rw [show (((0 : Nat) : Int) % n) = 0 from Int.zero_emod n, show (((0 : Nat) : Int) / n) = 0 from Int.zero_ediv n]; exact R3⟩
  case round =>
    clear R3 hn x0 x1
    obtain ⟨j, hj, rfl, HR⟩ := hrel
    by_cases hlt : (j : Int) < y % 20
    · have t1 : decide ((j : Int) < y % 20) = true := decide_eq_true hlt
      have n0 : (n == 0) = false := by simpa using (by omega : n ≠ 0)
      have q0 : 0 ≤ (j : Int) / n := Int.ediv_nonneg (by omega) (by omega)
      have q1 : (j : Int) / n ≤ j := Int.ediv_le_self _ (by omega)
      have r0 : 0 ≤ (j : Int) % n := Int.emod_nonneg _ (by omega)
      have r1 : (j : Int) % n < n := Int.emod_lt_of_pos _ (by omega)
      have hw : wrap64 ((j : Int) / n) = (j : Int) / n := by unfold wrap64; omega
      obtain ⟨av, bb, hs, hbb⟩ := baDo_leave n j h1 h4 (by omega) (by omega)
      have hS := Lib.hid hs
      clear hs
      go_wp2_with (go_at_call 14; refine (refInt_any _ _).mono ?_; rintro e w' ⟨rfl, rfl⟩)
      refine (baDo_as w64_0 (baDo_arrive n j h1 h4 (by omega) (by omega)) wr HR.out.1).mono ?_
      rintro e v1 ⟨rfl, k1, g1⟩
      have R1 := Lib.hid (show WaitRel W p a _ v1 from ⟨k1, gb_to_below HR.out.2 HR.out.2.size g1 ha1⟩)
      clear k1 g1 HR
      go_wp2_with fail
      have X1 := heap_alloc_new v1 (.cells #[.int .u64 (intV ((j : Int) / n)), .bool false, .int .i64 0] 32)
      refine (baDo_as (intV_w64 _) hS.out _ (R1.out.alloc _).1).mono ?_
      rintro e v2 ⟨rfl, k2, g2⟩
      have X2 := hp_grown X1 g2 (by simpa using hp_ne X1 (R1.out.alloc _).1.2 (by decide))
      have R2 := Lib.hid (show WaitRel W p a _ v2 from ⟨k2, gb_to_below (R1.out.alloc _).2 (R1.out.alloc _).2.size g2 ha1⟩)
      have x2 : v2.cell? ⟨v1.heap.size, 0, none⟩ = some (.int .u64 (intV ((j : Int) / n))) := hp_cell X2 0
      have l2 := hp_lt X2
      clear k2 g2 X1 X2 R1
      go_wp2_with fail
      go_quiet (fail)
      have R3 := Lib.hid ((R2.out.alloc (.cells #[.int .u64 av, .bool bb, .int .i64 0] 32)).drewN nq)
      go_wp2_with fail
      go_roundw
      case rel => exact ⟨j + 1, by omega, by go_num, R3⟩
      case measure => simp [intOf]; omega
    · have t1 : decide ((j : Int) < y % 20) = false := decide_eq_false hlt
      have hj' : y % 20 = j := by omega
      have n0 : (n == 0) = false := by simpa using (by omega : n ≠ 0)
      have q0 : 0 ≤ (j : Int) / n := Int.ediv_nonneg (by omega) (by omega)
      have q1 : (j : Int) / n ≤ j := Int.ediv_le_self _ (by omega)
      have hw : wrap64 ((j : Int) / n) = (j : Int) / n := by unfold wrap64; omega
      have f1 := fun n k w => shape_f1 (-1) n k none 0 0 w
      have f2 := fun n k w => shape_f2 (-1) n k none 0 0 w
      rw [hj'] at t1 ⊢
      go_wp2_with fail
      have R0 := HR.out
      have hy1 : IntKind.i64.wrap y = y := IntWalk.i64_in _ (by omega)
      have hy2 : y.tmod 20 = (j : Int) := by rw [Int.tmod_eq_emod_of_nonneg y0]; exact hj'
      have hd1 : Int.tdiv (j : Int) n = (j : Int) / n := Int.tdiv_eq_ediv_of_nonneg (by omega)
      have hd2 : Int.tmod (j : Int) n = (j : Int) % n := Int.tmod_eq_emod_of_nonneg (by omega)
      have hd3 : IntKind.i64.wrap ((j : Int) / n) = (j : Int) / n := IntWalk.i64_in _ (by omega)
      have hnn : ¬ n = 0 := by omega
      clear HR hlt hj' q0 q1 y0 y1 h1 h4
      go_region_held3 (fun w' => WaitRel W p a (n, (j : Int) % n, (j : Int) / n) w')
        (first | assumption | exact WaitRel.drew (by assumption))
        (first | (go_at_call 12; refine (waitShape (by assumption)).mono ?_; rintro e w' ⟨rfl, hR⟩))
      all_goals
        go_wp2_with fail
        go_ret
        exact ⟨by simp, (by assumption : WaitRel W p a _ _).2⟩
theorem objectWaits_walk (x : Int) (hx : (Lit.int .u8 x).wf = true) (y : Int) (hy : (Lit.int .u8 y).wf = true) (W : World) :
    Calls Try.prog 5 #[.int .u8 x, .int .u8 y] W fun e w' => e = .returned (.bool true) ∧ Below W.heap.size W w' := by
  have h1 := bounds_u8 hx
  have h2 := bounds_u8 hy
  exact objectWaits_walk0 W x y _ h2.1 h2.2 h1.1 h1.2 rfl (by omega) (by omega)
end Go.Proofs.Ytolnfhaejnmlnaa
