
/-
  A slice of calls that came in: the cells of each.
-/
import Derived.Test.YtbanfaboimachaaObj1
import Derived.Deep.Slices
import Derived.Deep.Fields
import Derived.ChangeSame
import Derived.OpenShut
namespace Go.Proofs.Ytbanfaboimachaa
open Go.RowKit Go.ChangeShapes Go.WideShapes
set_option linter.unusedVariables false

/-- The j-th call stands at 'ad'. -/
def CallAt (w : World) (ad : Addr) (k who v : Int) : Prop := (0 ≤ k ∧ k ≤ 255) ∧ (-9223372036854775808 ≤ who ∧ who ≤ 9223372036854775807) ∧ W64 v ∧ w.cell? ad = some (.int .u8 k) ∧ w.cell? ⟨ad.block, ad.off + 1, none⟩ = some (.int .i64 who) ∧ w.cell? ⟨ad.block, ad.off + 2, none⟩ = some (.int .u64 v)
def CallsAt (w : World) (A : Option Addr) (n : Nat) : Prop := n ≤ maxLen ∧ ∀ j, j < n → ∃ ad k who v, A = some ad ∧ CallAt w (ad.add (j * 3)) k who v
theorem callAt_lt {w : World} {ad : Addr} {k who v : Int} (h : CallAt w ad k who v) : ad.block < w.heap.size := World.block_lt_of_cell? w ad h.2.2.2.1
theorem callAt_below {w w1 : World} {ad : Addr} {k who v : Int} (h : CallAt w ad k who v) (hb : Below w.heap.size w w1) : CallAt w1 ad k who v :=
  have hl := callAt_lt h
  ⟨h.1, h.2.1, h.2.2.1, (hb.cell hl).trans h.2.2.2.1, (hb.cell (p := ⟨ad.block, ad.off + 1, none⟩) hl).trans h.2.2.2.2.1, (hb.cell (p := ⟨ad.block, ad.off + 2, none⟩) hl).trans h.2.2.2.2.2⟩
end Go.Proofs.Ytbanfaboimachaa
