
/-
  spec: fits, two, reckon.
-/
import Derived.Test.YtcjkpeojjonpiaaSp1
namespace Go.Proofs.Ytcjkpeojjonpiaa
open Go.RowKit Go.ChangeShapes Go.WideShapes
set_option linter.unusedSimpArgs false
set_option linter.unusedVariables false

theorem effs_small (o : Int) : (0 ≤ popsI o ∧ popsI o ≤ 2) ∧ 0 ≤ pushI o ∧ pushI o ≤ 2 := by
  unfold popsI pushI formAt
  generalize o.toNat = n
  by_cases h : n < 29
  · revert n
    decide
  · rw [List.getD_eq_getElem?_getD, List.getElem?_eq_none (by show 29 ≤ n; omega)]
    decide
def fitI (o : Int) (n : Nat) : Bool := decide ((n : Int) ≥ popsI o) && decide ((n : Int) - popsI o ≤ 12 - pushI o)
section
variable {F : Nat → Prop} {w : World} {g : Nat} {T : TypeId} {X : List Value} {I : Value} {s : St} {hp : List Int} {p : Pl}
theorem drew_below {w w' : World} (h : DrewN w w') : Below w.heap.size w w' := by
  obtain ⟨n, rfl⟩ := h
  exact bl_drewN (Below.refl _ _) n
def lessV (a b : Int) : Int := yesV (lessB a b)
def sameV (a b : Int) : Int := yesV (sameB a b)
theorem yesV_w64 (b : Bool) : W64 (yesV b) := by cases b <;> exact ⟨by decide, by decide⟩
def notV (a : Int) : Int := yesV (!truthB a)
end
end Go.Proofs.Ytcjkpeojjonpiaa
