
/-
  FlowsMay, plainly: the four blocks, with Halt behind, may be run.
-/
import Derived.Test.YtcjkpeojjonpiaaFl5
import Derived.Test.YtcjkpeojjonpiaaCk5
namespace Go.Proofs.Ytcjkpeojjonpiaa
open Go.RowKit Go.ChangeShapes Go.WideShapes
set_option linter.unusedSimpArgs false
set_option linter.unusedVariables false

theorem scanE_zero {f : Nat → Int} : ∀ {n i : Nat}, (∀ k, i ≤ k → k < i + n → f k = 0) → (scanE f i n).2 = 0 := by
  intro n
  induction n with
  | zero => intro i _; rfl
  | succ n ih =>
    intro i h
    unfold scanE
    rw [if_pos (h i (Nat.le_refl _) (by omega))]
    exact ih (fun k h1 h2 => h k (by omega) (by omega))
theorem ck15_ok {l : List Ins3} {tv : Int} (h1 : ¬ (l.length < 1 ∨ l.length > 64)) (h2 : ∀ i, i < l.length → f1E l i = 0) (h3 : (rg15 l).2.2 = 0) (h4 : (scanE (f2E l (rg15 l).1) 0 l.length).2 = 0) (h5 : (scanE (f3E l (rg15 l).1 tv) 0 l.length).2 = 0) (h6 : (dp15 l).2.2 = 0) : (ck15 l tv).2 = 0 := by
  unfold ck15
  have h2' : (scanE (f1E l) 0 l.length).2 = 0 := scanE_zero (fun k _ h => h2 k (by omega))
  rw [if_neg h1, if_neg (fun h => h h2'), if_neg (fun h => h h3), if_neg (fun h => h h4), if_neg (fun h => h h5)]
  exact h6
def hl : List Ins3 := [⟨28, 0, 0⟩]
theorem all24 {p : Nat → Prop} (h0 : p 0) (h1 : p 1) (h2 : p 2) (h3 : p 3) (h4 : p 4) (h5 : p 5) (h6 : p 6) (h7 : p 7) (h8 : p 8) (h9 : p 9) (h10 : p 10) (h11 : p 11) (h12 : p 12) (h13 : p 13) (h14 : p 14) (h15 : p 15) (h16 : p 16) (h17 : p 17) (h18 : p 18) (h19 : p 19) (h20 : p 20) (h21 : p 21) (h22 : p 22) (h23 : p 23) : ∀ i, i < 24 → p i := by
  intro i hi
  rcases (show i = 0 ∨ i = 1 ∨ i = 2 ∨ i = 3 ∨ i = 4 ∨ i = 5 ∨ i = 6 ∨ i = 7 ∨ i = 8 ∨ i = 9 ∨ i = 10 ∨ i = 11 ∨ i = 12 ∨ i = 13 ∨ i = 14 ∨ i = 15 ∨ i = 16 ∨ i = 17 ∨ i = 18 ∨ i = 19 ∨ i = 20 ∨ i = 21 ∨ i = 22 ∨ i = 23 by omega) with rfl | rfl | rfl | rfl | rfl | rfl | rfl | rfl | rfl | rfl | rfl | rfl | rfl | rfl | rfl | rfl | rfl | rfl | rfl | rfl | rfl | rfl | rfl | rfl
  · exact h0
  · exact h1
  · exact h2
  · exact h3
  · exact h4
  · exact h5
  · exact h6
  · exact h7
  · exact h8
  · exact h9
  · exact h10
  · exact h11
  · exact h12
  · exact h13
  · exact h14
  · exact h15
  · exact h16
  · exact h17
  · exact h18
  · exact h19
  · exact h20
  · exact h21
  · exact h22
  · exact h23
theorem may_enter1 (v : Int) (hv : rightB v = true) : (ck15 (enterL 0 1 0 v 0 ++ hl) 3).2 = 0 := by
  refine ck15_ok (show ¬ ((24 : Nat) < 1 ∨ (24 : Nat) > 64) by decide) ?_ (by kernel_rfl) (by kernel_rfl) (by kernel_rfl) (by kernel_rfl)
  have h6 : f1E (enterL 0 1 0 v 0 ++ hl) 6 = 0 := by
    have : rightI (xn (enterL 0 1 0 v 0 ++ hl) 6) = ((true && rightB v)) := by kernel_rfl
    unfold f1E
    rw [this, hv]; rfl
  exact all24 (by kernel_rfl) (by kernel_rfl) (by kernel_rfl) (by kernel_rfl) (by kernel_rfl) (by kernel_rfl) h6 (by kernel_rfl) (by kernel_rfl) (by kernel_rfl) (by kernel_rfl) (by kernel_rfl) (by kernel_rfl) (by kernel_rfl) (by kernel_rfl) (by kernel_rfl) (by kernel_rfl) (by kernel_rfl) (by kernel_rfl) (by kernel_rfl) (by kernel_rfl) (by kernel_rfl) (by kernel_rfl) (by kernel_rfl)
theorem may_take1 : (ck15 (takeL 0 1 0 0 0 ++ hl) 3).2 = 0 := by kernel_rfl
theorem may_arrive1 : (ck15 (arriveL 0 1 0 0 0 ++ hl) 3).2 = 0 := by kernel_rfl
theorem may_leave1 : (ck15 (leaveL 0 0 2 0 0 ++ hl) 3).2 = 0 := by kernel_rfl
theorem may_enter2 (v : Int) (hv : rightB v = true) : (ck15 (enterL 0 2 0 v 0 ++ hl) 4).2 = 0 := by
  refine ck15_ok (show ¬ ((24 : Nat) < 1 ∨ (24 : Nat) > 64) by decide) ?_ (by kernel_rfl) (by kernel_rfl) (by kernel_rfl) (by kernel_rfl)
  have h6 : f1E (enterL 0 2 0 v 0 ++ hl) 6 = 0 := by
    have : rightI (xn (enterL 0 2 0 v 0 ++ hl) 6) = ((true && rightB v)) := by kernel_rfl
    unfold f1E
    rw [this, hv]; rfl
  exact all24 (by kernel_rfl) (by kernel_rfl) (by kernel_rfl) (by kernel_rfl) (by kernel_rfl) (by kernel_rfl) h6 (by kernel_rfl) (by kernel_rfl) (by kernel_rfl) (by kernel_rfl) (by kernel_rfl) (by kernel_rfl) (by kernel_rfl) (by kernel_rfl) (by kernel_rfl) (by kernel_rfl) (by kernel_rfl) (by kernel_rfl) (by kernel_rfl) (by kernel_rfl) (by kernel_rfl) (by kernel_rfl) (by kernel_rfl)
theorem may_take2 : (ck15 (takeL 0 2 0 0 0 ++ hl) 4).2 = 0 := by kernel_rfl
theorem may_arrive2 : (ck15 (arriveL 0 2 0 0 0 ++ hl) 4).2 = 0 := by kernel_rfl
theorem may_leave2 : (ck15 (leaveL 0 0 2 0 0 ++ hl) 4).2 = 0 := by kernel_rfl
theorem may_enter3 (v : Int) (hv : rightB v = true) : (ck15 (enterL 0 3 0 v 0 ++ hl) 5).2 = 0 := by
  refine ck15_ok (show ¬ ((24 : Nat) < 1 ∨ (24 : Nat) > 64) by decide) ?_ (by kernel_rfl) (by kernel_rfl) (by kernel_rfl) (by kernel_rfl)
  have h6 : f1E (enterL 0 3 0 v 0 ++ hl) 6 = 0 := by
    have : rightI (xn (enterL 0 3 0 v 0 ++ hl) 6) = ((true && rightB v)) := by kernel_rfl
    unfold f1E
    rw [this, hv]; rfl
  exact all24 (by kernel_rfl) (by kernel_rfl) (by kernel_rfl) (by kernel_rfl) (by kernel_rfl) (by kernel_rfl) h6 (by kernel_rfl) (by kernel_rfl) (by kernel_rfl) (by kernel_rfl) (by kernel_rfl) (by kernel_rfl) (by kernel_rfl) (by kernel_rfl) (by kernel_rfl) (by kernel_rfl) (by kernel_rfl) (by kernel_rfl) (by kernel_rfl) (by kernel_rfl) (by kernel_rfl) (by kernel_rfl) (by kernel_rfl)
theorem may_take3 : (ck15 (takeL 0 3 0 0 0 ++ hl) 5).2 = 0 := by kernel_rfl
theorem may_arrive3 : (ck15 (arriveL 0 3 0 0 0 ++ hl) 5).2 = 0 := by kernel_rfl
theorem may_leave3 : (ck15 (leaveL 0 0 2 0 0 ++ hl) 5).2 = 0 := by kernel_rfl
theorem may_enter4 (v : Int) (hv : rightB v = true) : (ck15 (enterL 0 4 0 v 0 ++ hl) 6).2 = 0 := by
  refine ck15_ok (show ¬ ((24 : Nat) < 1 ∨ (24 : Nat) > 64) by decide) ?_ (by kernel_rfl) (by kernel_rfl) (by kernel_rfl) (by kernel_rfl)
  have h6 : f1E (enterL 0 4 0 v 0 ++ hl) 6 = 0 := by
    have : rightI (xn (enterL 0 4 0 v 0 ++ hl) 6) = ((true && rightB v)) := by kernel_rfl
    unfold f1E
    rw [this, hv]; rfl
  exact all24 (by kernel_rfl) (by kernel_rfl) (by kernel_rfl) (by kernel_rfl) (by kernel_rfl) (by kernel_rfl) h6 (by kernel_rfl) (by kernel_rfl) (by kernel_rfl) (by kernel_rfl) (by kernel_rfl) (by kernel_rfl) (by kernel_rfl) (by kernel_rfl) (by kernel_rfl) (by kernel_rfl) (by kernel_rfl) (by kernel_rfl) (by kernel_rfl) (by kernel_rfl) (by kernel_rfl) (by kernel_rfl) (by kernel_rfl)
theorem may_take4 : (ck15 (takeL 0 4 0 0 0 ++ hl) 6).2 = 0 := by kernel_rfl
theorem may_arrive4 : (ck15 (arriveL 0 4 0 0 0 ++ hl) 6).2 = 0 := by kernel_rfl
theorem may_leave4 : (ck15 (leaveL 0 0 2 0 0 ++ hl) 6).2 = 0 := by kernel_rfl
end Go.Proofs.Ytcjkpeojjonpiaa
