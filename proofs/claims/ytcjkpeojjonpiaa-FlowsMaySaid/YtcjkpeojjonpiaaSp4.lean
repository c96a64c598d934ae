
/-
  spec: here.
-/
import Derived.Test.YtcjkpeojjonpiaaSp3
import Derived.StillTailTactics
import Derived.BigQuiet
namespace Go.Proofs.Ytcjkpeojjonpiaa
open Go.RowKit Go.ChangeShapes Go.WideShapes
set_option linter.unusedSimpArgs false
set_option linter.unusedVariables false

theorem still_of_quiet {P : Program} {ops : Array Oper} {w : World} {Q : Act → Prop} : ∀ (l : List Oper) (a : Act), wpQuiet P ops (fun w' => w' = w) Q l a → wpStill P ops w Q l a
  | [], _, h => h
  | o :: l, a, h => by
    unfold wpQuiet at h
    unfold wpStill
    split at h
    · rename_i hw
      rw [if_pos hw]
      obtain ⟨v, h1, h2⟩ := h
      have h1 := h1 w rfl
      have h3 := still_of_quiet l _ h2
      unfold Oper.quietAt at h1
      unfold Oper.still
      generalize (execOp a.eval o).run P w = r at h1 ⊢
      match r, h1 with
      | .ok (.value u) w', h1 => obtain ⟨rfl, rfl⟩ := h1; exact ⟨rfl, h3⟩
      | .ok .skip w', h1 => obtain ⟨rfl, rfl⟩ := h1; exact ⟨rfl, h3⟩
      | .ok (.enter f args) w', h1 => obtain ⟨rfl, hc⟩ := h1; exact ⟨rfl, v, hc, h3⟩
    · rename_i hw
      rw [if_neg hw]
      exact still_of_quiet l _ h
/-- A region whose first n operations only read, and whose rest stands in one order. -/
theorem quiet_tail {id : Nat} {P : Program} {Q : Exit → Act → World → Prop} {a : Act} {w : World} {l : List Oper} (n : Nat) (hm : P.follows .mixedOrders = true) (hB : Region.lexTailB .any l.toArray n = true)
    (h : wpQuiet P l.toArray (fun w' => w' = w.drew) (fun a' => wpList P l.toArray Q (l.drop n) a' w.drew) (l.take n) a) : (Code.region id l.toArray true).wp P Q a w :=
  wp_region_still_tail n hm hB (still_of_quiet (w := w.drew) _ _ h)
def hereB (l : List Ins3) (pc : Int) : Bool := decide (0 ≤ pc) && decide (pc < l.length) && rightI (xn l pc.toNat)
/-- The instructions stand in a foreign block. -/
def InsF (F : Nat → Prop) (w : World) (A : Option Addr) (l : List Ins3) : Prop := InssAt w A l ∧ ∀ ad, A = some ad → l ≠ [] → F ad.block
theorem insF_fr {F : Nat → Prop} {w w1 : World} {A : Option Addr} {l : List Ins3} (h : InsF F w A l) (hf : Fr F w w1) : InsF F w1 A l := by
  refine ⟨⟨h.1.1, fun j x hj => ?_⟩, h.2⟩
  obtain ⟨ad, e, hok, h1, h2, h3⟩ := h.1.2 j x hj
  have hb := h.2 ad e (by rintro rfl; simp at hj)
  have key : ∀ (p : Addr) (u : Value), p.block = ad.block → w.cell? p = some u → w1.cell? p = some u := fun p u hp hc => (World.cell?_of_block (by rw [hp]; exact hf.block _ hb)).trans hc
  exact ⟨ad, e, hok, key _ _ (by unfold Addr.add; split <;> rfl) h1, key _ _ (by unfold Addr.add; split <;> rfl) h2, key _ _ (by unfold Addr.add; split <;> rfl) h3⟩
theorem insF_below {F : Nat → Prop} {w w1 : World} {A : Option Addr} {l : List Ins3} (h : InsF F w A l) (hb : Below w.heap.size w w1) : InsF F w1 A l := ⟨inss_below h.1 hb, h.2⟩
theorem insF_of {F : Nat → Prop} {w : World} {A : Option Addr} {l : List Ins3} (h : InssAt w A l) (hF : ∀ k, k < w.heap.size → F k) : InsF F w A l := by
  refine ⟨h, fun ad e hl => hF _ ?_⟩
  cases l with
  | nil => exact absurd rfl hl
  | cons x l =>
    obtain ⟨ad', e', hx⟩ := h.2 0 x rfl
    rw [e] at e'
    obtain rfl := Option.some.inj e'
    have := inAt_lt hx
    have e2 : (ad.add (0 * 3)).block = ad.block := by unfold Addr.add; split <;> rfl
    omega
theorem insF_more {F F' : Nat → Prop} {w : World} {A : Option Addr} {l : List Ins3} (h : InsF F w A l) (hs : ∀ k, F k → F' k) : InsF F' w A l := ⟨h.1, fun ad e hl => hs _ (h.2 ad e hl)⟩
section
variable {F : Nat → Prop} {w : World} {g : Nat} {T : TypeId} {X : List Value} {I : Value} {s : St} {hp : List Int} {p : Pl}
end
end Go.Proofs.Ytcjkpeojjonpiaa
