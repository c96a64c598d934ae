
/-
  rowlocklaw20.ObjectPlays: for every kind, size and slice of calls it returns true.
-/
import Derived.Test.YtbanfaboimachaaPlay3
import Derived.Test.YtbanfaboimachaaRef7
import Derived.Test.YtbanfaboimachaaObj6
import Derived.LoopTactic
namespace Go.Proofs.Ytbanfaboimachaa
open Go.RowKit
set_option linter.unusedSimpArgs false
set_option linter.unusedVariables false

theorem sh_short {B : Nat} {w : World} {x : Value} {st : St} (H : RAt B w x st) : (shOf st).2.2.2.length ≤ 1000 := by
  cases st with
  | qu size l => obtain ⟨r, _, h, _⟩ := H; have := h.2.1.1; simp only [shOf]; omega
  | _ => simp [shOf]
end Go.Proofs.Ytbanfaboimachaa
