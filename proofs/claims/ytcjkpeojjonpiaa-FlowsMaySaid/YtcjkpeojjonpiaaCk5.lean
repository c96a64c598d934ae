
/-
  rowlockref15: Depths, Check: what they come to.
-/
import Derived.Test.YtcjkpeojjonpiaaCk4
namespace Go.Proofs.Ytcjkpeojjonpiaa
open Go.RowKit Go.ChangeShapes Go.WideShapes
set_option linter.unusedSimpArgs false
set_option linter.unusedVariables false

/-- What spread makes of the depths; the error. -/
def spL (n : Nat) (beh : Int) : List Int → List Int → List Int × Int
  | [], d => (d, 0)
  | x :: xs, d => if x < 0 ∨ x ≥ n then (d, 3) else if ivAt d x.toNat < 0 then spL n beh xs (d.set x.toNat beh) else if ivAt d x.toNat = beh then spL n beh xs d else (d, 12)
def behI (l : List Ins3) (d : List Int) (i : Nat) : Int := ivAt d i - popsI (xn l i).op + pushI (xn l i).op
def spF (l : List Ins3) (d : List Int) (i : Nat) : List Int × Int :=
  if ivAt d i < popsI (xn l i).op ∨ behI l d i > 12 then (d, 12) else spL l.length (behI l d i) (nextI l i) d
def skipB (d : List Int) (g : List Bool) (i : Nat) : Bool := decide (ivAt d i < 0) || lvAt g i
def firstI (d : List Int) (g : List Bool) : Nat → Nat → Nat | i, 0 => i | i, f + 1 => if skipB d g i = true then firstI d g (i + 1) f else i
def dpL (l : List Ins3) : Nat → List Int → List Bool → List Int × Int × Int
  | 0, d, _ => (d, 0, 0)
  | f + 1, d, g => if firstI d g 0 l.length = l.length then (d, 0, 0) else
      if (spF l d (firstI d g 0 l.length)).2 = 0 then dpL l f (spF l d (firstI d g 0 l.length)).1 (g.set (firstI d g 0 l.length) true)
      else ([], (firstI d g 0 l.length : Int), (spF l d (firstI d g 0 l.length)).2)
def dpInit (n : Nat) : List Int := (List.replicate n (-1)).set 0 0
/-- rowlockref15.Depths. -/
def dp15 (l : List Ins3) : List Int × Int × Int := if (rg15 l).2.2 = 0 then dpL l l.length (dpInit l.length) (List.replicate l.length false) else ([], (rg15 l).2.1, (rg15 l).2.2)
theorem spL_len (n : Nat) (beh : Int) : ∀ (xs d : List Int), (spL n beh xs d).1.length = d.length := by
  intro xs
  induction xs with
  | nil => intro d; rfl
  | cons x xs ih =>
    intro d
    unfold spL
    split
    · rfl
    · split
      · rw [ih, List.length_set]
      · split
        · exact ih d
        · rfl
theorem spF_len (l : List Ins3) (d : List Int) (i : Nat) : (spF l d i).1.length = d.length := by
  unfold spF
  split
  · rfl
  · exact spL_len _ _ _ _
theorem firstI_le (d : List Int) (g : List Bool) : ∀ f i, firstI d g i f ≤ i + f := by
  intro f
  induction f with
  | zero => intro i; exact Nat.le_refl _
  | succ f ih =>
    intro i
    unfold firstI
    split
    · have := ih (i + 1); omega
    · omega
def scanE (f : Nat → Int) : Nat → Nat → Int × Int | i, 0 => (0, 0) | i, n + 1 => if f i = 0 then scanE f (i + 1) n else ((i : Int), f i)
def f1E (l : List Ins3) (i : Nat) : Int := if rightI (xn l i) = true then 0 else 3
def f2E (l : List Ins3) (ins : List Int) (i : Nat) : Int := if ((varB (xn l i).op || (xn l i).op == 26) && decide (ivAt ins i < 0)) = true then 8 else if (((xn l i).op == 27 || (xn l i).op == 28) && decide (ivAt ins i ≥ 0)) = true then 8 else 0
def f3E (l : List Ins3) (ins : List Int) (tv : Int) (i : Nat) : Int := if (varB (xn l i).op && decide ((xn l i).arg ≥ tv)) = true then 2 else if (((xn l i).op == 19 || (xn l i).op == 20) && (decide ((xn l i).arg ≥ (l.length : Int)) || ivAt ins (xn l i).arg.toNat != ivAt ins i)) = true then 2 else 0
/-- rowlockref15.Check: the place, the error. -/
def ck15 (l : List Ins3) (tv : Int) : Int × Int :=
  if l.length < 1 ∨ l.length > 64 then (0, 3) else
  if (scanE (f1E l) 0 l.length).2 ≠ 0 then scanE (f1E l) 0 l.length else
  if (rg15 l).2.2 ≠ 0 then ((rg15 l).2.1, (rg15 l).2.2) else
  if (scanE (f2E l (rg15 l).1) 0 l.length).2 ≠ 0 then scanE (f2E l (rg15 l).1) 0 l.length else
  if (scanE (f3E l (rg15 l).1 tv) 0 l.length).2 ≠ 0 then scanE (f3E l (rg15 l).1 tv) 0 l.length else ((dp15 l).2.1, (dp15 l).2.2)
theorem scanE_ok {f : Nat → Int} : ∀ {n i : Nat}, (scanE f i n).2 = 0 → ∀ k, i ≤ k → k < i + n → f k = 0 := by
  intro n
  induction n with
  | zero => intro i _ k h1 h2; omega
  | succ n ih =>
    intro i h k h1 h2
    unfold scanE at h
    split at h
    · rename_i h0
      rcases Nat.lt_or_ge i k with hk | hk
      · exact ih h k hk (by omega)
      · have : k = i := by omega
        rw [this]
        exact h0
    · rename_i h0; exact absurd h h0
theorem ck15_parts {l : List Ins3} {tv : Int} (h : (ck15 l tv).2 = 0) : 1 ≤ l.length ∧ l.length ≤ 64 ∧ (∀ i, i < l.length → rightI (xn l i) = true) ∧ (rg15 l).2.2 = 0 ∧ (∀ i, i < l.length → f2E l (rg15 l).1 i = 0) ∧ (∀ i, i < l.length → f3E l (rg15 l).1 tv i = 0) ∧ (dp15 l).2.2 = 0 := by
  unfold ck15 at h
  split at h
  · cases h
  · split at h
    · rename_i h1 h2; exact absurd h h2
    · split at h
      · rename_i h1 h2 h3; exact absurd h h3
      · split at h
        · rename_i h1 h2 h3 h4; exact absurd h h4
        · split at h
          · rename_i h1 h2 h3 h4 h5; exact absurd h h5
          · rename_i h1 h2 h3 h4 h5
            refine ⟨by omega, by omega, fun i hi => ?_, by omega, fun i hi => scanE_ok (n := l.length) (Decidable.not_not.mp h4) i (Nat.zero_le _) (by omega), fun i hi => scanE_ok (n := l.length) (Decidable.not_not.mp h5) i (Nat.zero_le _) (by omega), h⟩
            have := scanE_ok (f := f1E l) (by omega) i (Nat.zero_le _) (by omega : i < 0 + l.length)
            unfold f1E at this
            split at this
            · assumption
            · cases this
theorem iv_set {d : List Int} {i : Nat} {v : Int} (h : i < d.length) : ivAt (d.set i v) i = v := by unfold ivAt; rw [List.getElem?_set_self h]; rfl
theorem iv_set_ne {d : List Int} {i j : Nat} {v : Int} (h : i ≠ j) : ivAt (d.set i v) j = ivAt d j := by unfold ivAt; rw [List.getElem?_set_ne h]
theorem lv_set {d : List Bool} {i : Nat} {v : Bool} (h : i < d.length) : lvAt (d.set i v) i = v := by unfold lvAt; rw [List.getElem?_set_self h]; rfl
theorem lv_set_ne {d : List Bool} {i j : Nat} {v : Bool} (h : i ≠ j) : lvAt (d.set i v) j = lvAt d j := by unfold lvAt; rw [List.getElem?_set_ne h]
end Go.Proofs.Ytcjkpeojjonpiaa
