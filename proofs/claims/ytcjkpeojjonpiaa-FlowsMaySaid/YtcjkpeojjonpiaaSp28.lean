
/-
  rowlockref14: Uses, most, Effect, Right; rowlockref17: plain, one, Fits.
-/
import Derived.Test.YtcjkpeojjonpiaaSp7
import Derived.Deep.CutBlock
namespace Go.Proofs.Ytcjkpeojjonpiaa
open Go.RowKit Go.ChangeShapes Go.WideShapes
set_option linter.unusedSimpArgs false
set_option linter.unusedVariables false

theorem formAt_big {o : Nat} (h : 29 ≤ o) : formAt o = ([], false, false, 0, 0) := by
  unfold formAt
  rw [List.getD_eq_getElem?_getD, List.getElem?_eq_none (by show 29 ≤ o; omega)]
  rfl
theorem by_form {p : Nat → Prop} (h : ∀ n, n < 29 → p n) (hb : ∀ n, 29 ≤ n → p n) (n : Nat) : p n := by
  by_cases e : n < 29
  · exact h n e
  · exact hb n (by omega)
set_option maxHeartbeats 4000000 in
theorem refUses_any (op : Int) (h0 : 0 ≤ op) (w : World) : Calls Try.prog 64 #[.int .u8 op] w fun e w' => e = .returned (.tuple #[.bool (argB op), .bool (valB op)]) ∧ w = w' := by
  have hc : op = 2 ∨ op = 3 ∨ op = 4 ∨ op = 5 ∨ op = 6 ∨ op = 7 ∨ op = 19 ∨ op = 20 ∨ op = 21 ∨ op = 23 ∨ op = 24 ∨ op = 1 ∨ (op ≠ 2 ∧ op ≠ 3 ∧ op ≠ 4 ∧ op ≠ 5 ∧ op ≠ 6 ∧ op ≠ 7 ∧ op ≠ 19 ∧ op ≠ 20 ∧ op ≠ 21 ∧ op ≠ 23 ∧ op ≠ 24 ∧ op ≠ 1) := by omega
  rcases hc with rfl | rfl | rfl | rfl | rfl | rfl | rfl | rfl | rfl | rfl | rfl | rfl | ⟨h2, h3, h4, h5, h6, h7, h19, h20, h21, h23, h24, h1⟩
  case' inr.inr.inr.inr.inr.inr.inr.inr.inr.inr.inr.inr =>
    have hG := Lib.hid (by_form (p := fun n => ([2, 3, 4, 5, 6, 7, 19, 20, 21, 23, 24, 1] : List Nat).contains n = false → (formAt n).2.1 = false ∧ (formAt n).2.2.1 = false) (by decide) (fun n hn => by intros; rw [formAt_big hn]; exact ⟨rfl, rfl⟩) op.toNat (by rw [Bool.eq_false_iff]; intro hh; simp at hh; omega))
    have t2 : (op == 2) = false := beq_eq_false_iff_ne.2 h2
    have t3 : (op == 3) = false := beq_eq_false_iff_ne.2 h3
    have t4 : (op == 4) = false := beq_eq_false_iff_ne.2 h4
    have t5 : (op == 5) = false := beq_eq_false_iff_ne.2 h5
    have t6 : (op == 6) = false := beq_eq_false_iff_ne.2 h6
    have t7 : (op == 7) = false := beq_eq_false_iff_ne.2 h7
    have t19 : (op == 19) = false := beq_eq_false_iff_ne.2 h19
    have t20 : (op == 20) = false := beq_eq_false_iff_ne.2 h20
    have t21 : (op == 21) = false := beq_eq_false_iff_ne.2 h21
    have t23 : (op == 23) = false := beq_eq_false_iff_ne.2 h23
    have t24 : (op == 24) = false := beq_eq_false_iff_ne.2 h24
    have t1 : (op == 1) = false := beq_eq_false_iff_ne.2 h1
    clear h2 h3 h4 h5 h6 h7 h19 h20 h21 h23 h24 h1
    go_enter Try.func64, Try.ntmps64
    go_wp2_with fail
    go_ret2
    exact ⟨by unfold argB valB; rw [hG.out.1, hG.out.2]; rfl, rfl⟩
  all_goals
    go_enter Try.func64, Try.ntmps64
    go_wp2_with fail
    go_ret2
    exact ⟨by kernel_rfl, rfl⟩
set_option maxHeartbeats 4000000 in
theorem refMost_any (op : Int) (h0 : 0 ≤ op) (w : World) : Calls Try.prog 65 #[.int .u8 op] w fun e w' => e = .returned (.int .i64 (limI op)) ∧ w = w' := by
  have hc : op = 2 ∨ op = 3 ∨ op = 4 ∨ op = 5 ∨ op = 6 ∨ op = 7 ∨ (op ≠ 2 ∧ op ≠ 3 ∧ op ≠ 4 ∧ op ≠ 5 ∧ op ≠ 6 ∧ op ≠ 7) := by omega
  rcases hc with rfl | rfl | rfl | rfl | rfl | rfl | ⟨h2, h3, h4, h5, h6, h7⟩
  case' inr.inr.inr.inr.inr.inr =>
    have hG := Lib.hid (True.intro)
    have t2 : (op == 2) = false := beq_eq_false_iff_ne.2 h2
    have t3 : (op == 3) = false := beq_eq_false_iff_ne.2 h3
    have t4 : (op == 4) = false := beq_eq_false_iff_ne.2 h4
    have t5 : (op == 5) = false := beq_eq_false_iff_ne.2 h5
    have t6 : (op == 6) = false := beq_eq_false_iff_ne.2 h6
    have t7 : (op == 7) = false := beq_eq_false_iff_ne.2 h7
    clear h2 h3 h4 h5 h6 h7
    go_enter Try.func65, Try.ntmps65
    go_wp2_with fail
    go_ret
    exact ⟨by unfold limI; rw [t2, t3, t4, t5, t6, t7]; rfl, rfl⟩
  all_goals
    go_enter Try.func65, Try.ntmps65
    go_wp2_with fail
    go_ret
    exact ⟨by kernel_rfl, rfl⟩
set_option maxHeartbeats 4000000 in
theorem refEffect_any (op : Int) (h0 : 0 ≤ op) (w : World) : Calls Try.prog 73 #[.int .u8 op] w fun e w' => e = .returned (.tuple #[.int .i64 (popsI op), .int .i64 (pushI op)]) ∧ w = w' := by
  have hc : op = 1 ∨ op = 2 ∨ op = 4 ∨ op = 3 ∨ op = 5 ∨ op = 17 ∨ op = 20 ∨ op = 27 ∨ op = 6 ∨ op = 12 ∨ op = 15 ∨ op = 7 ∨ op = 8 ∨ op = 9 ∨ op = 10 ∨ op = 11 ∨ op = 13 ∨ op = 14 ∨ op = 16 ∨ op = 18 ∨ (op ≠ 1 ∧ op ≠ 2 ∧ op ≠ 4 ∧ op ≠ 3 ∧ op ≠ 5 ∧ op ≠ 17 ∧ op ≠ 20 ∧ op ≠ 27 ∧ op ≠ 6 ∧ op ≠ 12 ∧ op ≠ 15 ∧ op ≠ 7 ∧ op ≠ 8 ∧ op ≠ 9 ∧ op ≠ 10 ∧ op ≠ 11 ∧ op ≠ 13 ∧ op ≠ 14 ∧ op ≠ 16 ∧ op ≠ 18) := by omega
  rcases hc with rfl | rfl | rfl | rfl | rfl | rfl | rfl | rfl | rfl | rfl | rfl | rfl | rfl | rfl | rfl | rfl | rfl | rfl | rfl | rfl | ⟨h1, h2, h4, h3, h5, h17, h20, h27, h6, h12, h15, h7, h8, h9, h10, h11, h13, h14, h16, h18⟩
  case' inr.inr.inr.inr.inr.inr.inr.inr.inr.inr.inr.inr.inr.inr.inr.inr.inr.inr.inr.inr =>
    have hG := Lib.hid (by_form (p := fun n => ([1, 2, 4, 3, 5, 17, 20, 27, 6, 12, 15, 7, 8, 9, 10, 11, 13, 14, 16, 18] : List Nat).contains n = false → (formAt n).2.2.2.1 = 0 ∧ (formAt n).2.2.2.2 = 0) (by decide) (fun n hn => by intros; rw [formAt_big hn]; exact ⟨rfl, rfl⟩) op.toNat (by rw [Bool.eq_false_iff]; intro hh; simp at hh; omega))
    have t1 : (op == 1) = false := beq_eq_false_iff_ne.2 h1
    have t2 : (op == 2) = false := beq_eq_false_iff_ne.2 h2
    have t4 : (op == 4) = false := beq_eq_false_iff_ne.2 h4
    have t3 : (op == 3) = false := beq_eq_false_iff_ne.2 h3
    have t5 : (op == 5) = false := beq_eq_false_iff_ne.2 h5
    have t17 : (op == 17) = false := beq_eq_false_iff_ne.2 h17
    have t20 : (op == 20) = false := beq_eq_false_iff_ne.2 h20
    have t27 : (op == 27) = false := beq_eq_false_iff_ne.2 h27
    have t6 : (op == 6) = false := beq_eq_false_iff_ne.2 h6
    have t12 : (op == 12) = false := beq_eq_false_iff_ne.2 h12
    have t15 : (op == 15) = false := beq_eq_false_iff_ne.2 h15
    have t7 : (op == 7) = false := beq_eq_false_iff_ne.2 h7
    have t8 : (op == 8) = false := beq_eq_false_iff_ne.2 h8
    have t9 : (op == 9) = false := beq_eq_false_iff_ne.2 h9
    have t10 : (op == 10) = false := beq_eq_false_iff_ne.2 h10
    have t11 : (op == 11) = false := beq_eq_false_iff_ne.2 h11
    have t13 : (op == 13) = false := beq_eq_false_iff_ne.2 h13
    have t14 : (op == 14) = false := beq_eq_false_iff_ne.2 h14
    have t16 : (op == 16) = false := beq_eq_false_iff_ne.2 h16
    have t18 : (op == 18) = false := beq_eq_false_iff_ne.2 h18
    clear h1 h2 h4 h3 h5 h17 h20 h27 h6 h12 h15 h7 h8 h9 h10 h11 h13 h14 h16 h18
    go_enter Try.func73, Try.ntmps73
    go_wp2_with fail
    go_ret2
    exact ⟨by unfold popsI pushI; rw [hG.out.1, hG.out.2]; rfl, rfl⟩
  all_goals
    go_enter Try.func73, Try.ntmps73
    go_wp2_with fail
    go_ret2
    exact ⟨by kernel_rfl, rfl⟩
set_option maxHeartbeats 4000000 in
theorem refPlain_any (op : Int) (h0 : 0 ≤ op) (w : World) : Calls Try.prog 72 #[.int .u8 op] w fun e w' => e = .returned (.bool (!specI op)) ∧ w = w' := by
  have hc : op = 4 ∨ op = 5 ∨ op = 6 ∨ op = 7 ∨ op = 21 ∨ op = 22 ∨ op = 23 ∨ op = 24 ∨ op = 25 ∨ op = 26 ∨ op = 28 ∨ (op ≠ 4 ∧ op ≠ 5 ∧ op ≠ 6 ∧ op ≠ 7 ∧ op ≠ 21 ∧ op ≠ 22 ∧ op ≠ 23 ∧ op ≠ 24 ∧ op ≠ 25 ∧ op ≠ 26 ∧ op ≠ 28) := by omega
  rcases hc with rfl | rfl | rfl | rfl | rfl | rfl | rfl | rfl | rfl | rfl | rfl | ⟨h4, h5, h6, h7, h21, h22, h23, h24, h25, h26, h28⟩
  case' inr.inr.inr.inr.inr.inr.inr.inr.inr.inr.inr =>
    have hG := Lib.hid (show specI op = false by unfold specI varI; simp only [Bool.or_eq_false_iff, Bool.and_eq_false_iff, decide_eq_false_iff_not, beq_eq_false_iff_ne]; omega)
    have t4 : (op == 4) = false := beq_eq_false_iff_ne.2 h4
    have t5 : (op == 5) = false := beq_eq_false_iff_ne.2 h5
    have t6 : (op == 6) = false := beq_eq_false_iff_ne.2 h6
    have t7 : (op == 7) = false := beq_eq_false_iff_ne.2 h7
    have t21 : (op == 21) = false := beq_eq_false_iff_ne.2 h21
    have t22 : (op == 22) = false := beq_eq_false_iff_ne.2 h22
    have t23 : (op == 23) = false := beq_eq_false_iff_ne.2 h23
    have t24 : (op == 24) = false := beq_eq_false_iff_ne.2 h24
    have t25 : (op == 25) = false := beq_eq_false_iff_ne.2 h25
    have t26 : (op == 26) = false := beq_eq_false_iff_ne.2 h26
    have t28 : (op == 28) = false := beq_eq_false_iff_ne.2 h28
    clear h4 h5 h6 h7 h21 h22 h23 h24 h25 h26 h28
    go_enter Try.func72, Try.ntmps72
    go_wp2_with fail
    go_ret
    exact ⟨by rw [hG.out]; rfl, rfl⟩
  all_goals
    go_enter Try.func72, Try.ntmps72
    go_wp2_with fail
    go_ret
    exact ⟨by kernel_rfl, rfl⟩
theorem refOne_any (b : Bool) (w : World) : Calls Try.prog 92 #[.bool b] w fun e w' => e = .returned (.int .u64 (yesV b)) ∧ w = w' := by
  cases b
  all_goals
    go_enter Try.func92, Try.ntmps92
    go_wp2
    go_ret
    exact ⟨rfl, rfl⟩
set_option maxHeartbeats 8000000 in
theorem refRight14_any (x : Ins3) (hx : x.ok) (w : World) : Calls Try.prog 34 #[inV x] w fun e w' => e = .returned (.bool (rightI x)) ∧ Below w.heap.size w w' := by
  obtain ⟨op, ag, v⟩ := x
  obtain ⟨⟨h0, h1⟩, _, hv⟩ := hx
  unfold inV rightI
  dsimp only at *
  have HU := Lib.hid (fun w => refUses_any op h0 w)
  have HM := Lib.hid (fun w => refMost_any op h0 w)
  have HR := Lib.hid (fun w => refRight_any v hv w)
  have X := Lib.hid (heap_alloc_new w (.cells #[.int .u8 op, .int .i64 ag, .int .u64 v] 35))
  have B := Lib.hid ((Below.refl w.heap.size w).alloc (Nat.le_refl _) (.cells #[.int .u8 op, .int .i64 ag, .int .u64 v] 35))
  have k1 : decide (op < 29) = decide (op ≤ 28) := by rw [decide_eq_decide]; omega
  rw [k1]
  obtain ⟨P1, hP1⟩ : ∃ P, decide (op ≤ 28) = P := ⟨_, rfl⟩
  obtain ⟨A, hA⟩ : ∃ P, argB op = P := ⟨_, rfl⟩
  obtain ⟨Z, hZ⟩ : ∃ P, (ag == 0) = P := ⟨_, rfl⟩
  obtain ⟨B', hB'⟩ : ∃ P, valB op = P := ⟨_, rfl⟩
  obtain ⟨Y, hY⟩ : ∃ P, (v == 0) = P := ⟨_, rfl⟩
  obtain ⟨Q, hQ⟩ : ∃ P, decide (0 ≤ ag) = P := ⟨_, rfl⟩
  have hQ' : decide (ag ≥ 0) = Q := hQ
  obtain ⟨L, hL⟩ : ∃ L, limI op = L := ⟨_, rfl⟩
  rw [hL] at HM ⊢
  obtain ⟨R, hR⟩ : ∃ P, decide (ag < L) = P := ⟨_, rfl⟩
  obtain ⟨S, hS⟩ : ∃ P, rightB v = P := ⟨_, rfl⟩
  rw [hA, hB'] at HU
  rw [hS] at HR
  rw [hP1, hA, hZ, hB', hY, hQ, hR, hS]
  clear h0 h1 hv k1 hA hB' hS hL
  have hc : P1 = false ∨ (P1 = true ∧ ((A = false ∧ Z = false) ∨ ((A = true ∨ (A = false ∧ Z = true)) ∧ ((B' = false ∧ Y = false) ∨ ((B' = true ∨ (B' = false ∧ Y = true)) ∧ (Q = false ∨ (Q = true ∧ (R = false ∨ R = true)))))))) := by
    cases P1 <;> cases A <;> cases Z <;> cases B' <;> cases Y <;> cases Q <;> cases R <;> simp
  rcases hc with rfl | ⟨rfl, ⟨rfl, rfl⟩ | ⟨rfl | ⟨rfl, rfl⟩, ⟨rfl, rfl⟩ | ⟨rfl | ⟨rfl, rfl⟩, rfl | ⟨rfl, rfl | rfl⟩⟩⟩⟩
  all_goals
    go_enter Try.func34, Try.ntmps34
    go_upto_region 2 with (go_at_call 64; refine (HU.out _).mono ?_; rintro e w' ⟨rfl, rfl⟩)
    generalize World.alloc _ _ = w1 at X B ⊢
    generalize w.heap.size = g at X ⊢
    have x0 : w1.cell? ⟨g, 0, none⟩ = some (.int .u8 op) := hp_cell X.out 0
    have x1 : w1.cell? ⟨g, 1, none⟩ = some (.int .i64 ag) := hp_cell X.out 1
    have x2 : w1.cell? ⟨g, 2, none⟩ = some (.int .u64 v) := hp_cell X.out 2
    have xl := hp_lt X.out
    go_quiet (first | (go_at_call 65; exact Calls.quiet_of_same ((HM.out _).mono (fun _ _ h => ⟨h.1, h.2.symm⟩))) | (go_at_call 56; exact Calls.quiet_of_same ((HR.out _).mono (fun _ _ h => ⟨h.1, h.2.symm⟩))))
    go_wp2_with fail
    go_ret
    exact ⟨by simp, bl_drewN B.out _⟩
set_option maxHeartbeats 8000000 in
theorem refFits_any (op : Int) (h0 : 0 ≤ op) (s : St) (A1 : Option Addr) (c1 : Nat) (A2 : Option Addr) (c2 : Nat) (hl : s.stk.length ≤ 1000) (w : World) : Calls Try.prog 70 #[.int .u8 op, stV s A1 c1 A2 c2] w fun e w' => e = .returned (.int .i64 (if fitI op s.stk.length then 0 else 12)) ∧ Below w.heap.size w w' := by
  have HE := Lib.hid (fun w => refEffect_any op h0 w)
  have X := Lib.hid (heap_alloc_new w (.cells (stC s A1 c1 A2 c2) 50))
  have B := Lib.hid ((Below.refl w.heap.size w).alloc (Nat.le_refl _) (.cells (stC s A1 c1 A2 c2) 50))
  obtain ⟨⟨b1, b2⟩, b3, b4⟩ := effs_small op
  unfold fitI
  unfold stV
  unfold stC at *
  generalize popsI op = a at *
  generalize pushI op = b at *
  obtain ⟨n, hn⟩ : ∃ n, s.stk.length = n := ⟨_, rfl⟩
  rw [hn] at X B hl ⊢
  have k1 : wrap64 ((n : Int) - a) = (n : Int) - a := by unfold wrap64; omega
  have k2 : wrap64 (12 - b) = 12 - b := by unfold wrap64; omega
  have hc : (¬ ((n : Int) ≥ a)) ∨ (((n : Int) ≥ a) ∧ ¬ ((n : Int) - a ≤ 12 - b)) ∨ (((n : Int) ≥ a) ∧ ((n : Int) - a ≤ 12 - b)) := by omega
  rcases hc with c1' | ⟨c1', c2'⟩ | ⟨c1', c2'⟩
  · have d1 : decide ((n : Int) < a) = true := decide_eq_true (by omega)
    rw [decide_eq_false c1', Bool.false_and, if_neg (by decide)]
    clear h0 hl b1 b2 b3 b4 c1'
    go_enter Try.func70, Try.ntmps70
    go_wp2_with (go_at_call 73; refine (HE.out _).mono ?_; rintro e w' ⟨rfl, rfl⟩)
    go_ret
    exact ⟨rfl, B.out⟩
  · have d1 : decide ((n : Int) < a) = false := decide_eq_false (by omega)
    have d2 : decide ((n : Int) - a > 12 - b) = true := decide_eq_true (by omega)
    have d3 : decide (12 - b < (n : Int) - a) = true := d2
    rw [decide_eq_false c2', Bool.and_false, if_neg (by decide)]
    clear h0 hl b1 b2 b3 b4 c1' c2'
    go_enter Try.func70, Try.ntmps70
    go_wp2_with (go_at_call 73; refine (HE.out _).mono ?_; rintro e w' ⟨rfl, rfl⟩)
    go_ret
    exact ⟨rfl, B.out⟩
  · have d1 : decide ((n : Int) < a) = false := decide_eq_false (by omega)
    have d2 : decide ((n : Int) - a > 12 - b) = false := decide_eq_false (by omega)
    have d3 : decide (12 - b < (n : Int) - a) = false := d2
    rw [decide_eq_true c1', decide_eq_true c2', Bool.and_true, if_pos rfl]
    clear h0 hl b1 b2 b3 b4 c1' c2'
    go_enter Try.func70, Try.ntmps70
    go_wp2_with (go_at_call 73; refine (HE.out _).mono ?_; rintro e w' ⟨rfl, rfl⟩)
    go_ret
    exact ⟨rfl, B.out⟩
end Go.Proofs.Ytcjkpeojjonpiaa
