
/-
  play, and that a queue's values are right ones.
-/
import Derived.Test.YtbanfaboimachaaPlay3
import Derived.Test.YtbanfaboimachaaPlay4
namespace Go.Proofs.Ytbanfaboimachaa
open Go.RowKit
set_option linter.unusedSimpArgs false
set_option linter.unusedVariables false

def PlayPostR (W : World) (e : Ending) (w' : World) : Prop := ∃ x y st, e = .returned (.tuple #[x, y, .bool true]) ∧ Both W x y st w' ∧ StRight st
theorem stNew_right (k size : Int) : StRight (stNew k size) := by
  unfold stNew
  cases goodB k size <;> cases (k == 1) <;> cases (k == 2) <;> cases (k == 3) <;> simp [StRight]
end Go.Proofs.Ytbanfaboimachaa
