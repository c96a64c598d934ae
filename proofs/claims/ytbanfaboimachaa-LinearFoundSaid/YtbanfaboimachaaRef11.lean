
/-
  The reference's Shape.
-/
import Derived.Test.YtbanfaboimachaaRef7
import Derived.Test.YtbanfaboimachaaRef8
import Derived.Deep.RegionHeld3
namespace Go.Proofs.Ytbanfaboimachaa
open Go.RowKit
set_option linter.unusedSimpArgs false
set_option linter.unusedVariables false
variable {ok : Nat → Prop} {r : Nat} {k size owner n gen : Int} {l : List Int}

theorem row_ok2 {W : World} {base c : Nat} {A : Option Addr} {l : List Int} (h : RowAt W base A c l) (hok : ∀ k, base ≤ k → ok k) : l.length ≤ c ∧ (A = none → c = 0) ∧ ValsAt ok W A l := by
  obtain ⟨A', c', hv, h2, _, h3, h4, _⟩ := vals_own (ok := ok) h.1 h.2 hok
  simp only [Value.slice.injEq, true_and] at hv
  obtain ⟨rfl, rfl⟩ := hv
  exact ⟨h2, h4, h3⟩
end Go.Proofs.Ytbanfaboimachaa
