
/-
  A slice of calls that came in: the cells of each.
-/
import Derived.Test.YtmmfadakhnagpaaObj1
import Derived.Deep.Slices
import Derived.Deep.Fields
import Derived.ChangeSame
import Derived.OpenShut
namespace Go.Proofs.Ytmmfadakhnagpaa
open Go.RowKit Go.ChangeShapes Go.WideShapes
set_option linter.unusedVariables false

/-- The j-th call stands at 'ad'. -/
def CallAt (w : World) (ad : Addr) (k who v : Int) : Prop := (0 ≤ k ∧ k ≤ 255) ∧ (-9223372036854775808 ≤ who ∧ who ≤ 9223372036854775807) ∧ W64 v ∧ w.cell? ad = some (.int .u8 k) ∧ w.cell? ⟨ad.block, ad.off + 1, none⟩ = some (.int .i64 who) ∧ w.cell? ⟨ad.block, ad.off + 2, none⟩ = some (.int .u64 v)
def CallsAt (w : World) (A : Option Addr) (n : Nat) : Prop := n ≤ maxLen ∧ ∀ j, j < n → ∃ ad k who v, A = some ad ∧ CallAt w (ad.add (j * 3)) k who v
theorem callAt_lt {w : World} {ad : Addr} {k who v : Int} (h : CallAt w ad k who v) : ad.block < w.heap.size := World.block_lt_of_cell? w ad h.2.2.2.1
theorem callAt_below {w w1 : World} {ad : Addr} {k who v : Int} (h : CallAt w ad k who v) (hb : Below w.heap.size w w1) : CallAt w1 ad k who v :=
  have hl := callAt_lt h
  ⟨h.1, h.2.1, h.2.2.1, (hb.cell hl).trans h.2.2.2.1, (hb.cell (p := ⟨ad.block, ad.off + 1, none⟩) hl).trans h.2.2.2.2.1, (hb.cell (p := ⟨ad.block, ad.off + 2, none⟩) hl).trans h.2.2.2.2.2⟩
set_option maxRecDepth 100000 in
theorem calls_of {H : Type} {enc : TypeId × Value → H} {W : World} {base : Nat} {spare : Nat → Bool} {held : Bool} {a : Option Addr} {len cap : Nat} {d : DataW H} {p : List MemPlace} (h : DataW.Trod enc Try.prog W base spare held 24 (.slice a len cap) d p) : CallsAt W a len := by
  obtain ⟨fuel, h⟩ := h
  rcases Go.Deep.open_slice Try.underlying24 h with ⟨h0, _⟩ | ⟨a', len', cap', m, n, D, Pl, hcs, hb, hl, hm, hmm, hx, hi⟩
  · obtain ⟨rfl, rfl, rfl⟩ : a = none ∧ len = 0 ∧ cap = 0 := by simpa [Value.cells] using h0
    exact ⟨Nat.zero_le _, fun j hj => absurd hj (Nat.not_lt_zero _)⟩
  · obtain ⟨rfl, rfl, rfl⟩ : a = some a' ∧ len = len' ∧ cap = cap' := by simpa [Value.cells] using hcs
    refine ⟨Nat.le_trans hl hm, fun j hj => ?_⟩
    obtain ⟨cs', hc, ht'⟩ := hi j (by rw [hmm]; split <;> omega)
    have hC : Program.cellsOf Try.prog 55 = 3 := by kernel_rfl
    rw [hC] at hc
    obtain ⟨ys, n', hn', hy, hlen, hyl, hf⟩ := DataW.trod_struct Try.underlying55 ht'
    rw [hC] at hlen
    obtain ⟨_, _, hat⟩ := World.cells?_some hc
    match cs', hlen, ys, hyl with
    | [c0, c1, c2], _, [y0, y1, y2], _ =>
      obtain ⟨k, e0, _, b0⟩ := DataW.trod_int (cs := [c0]) Try.underlying51 ((congrArg _ (by kernel_rfl)).trans (hf 0 _ rfl))
      obtain ⟨who, e1, _, b1⟩ := DataW.trod_int (cs := [c1]) Try.underlying3 ((congrArg _ (by kernel_rfl)).trans (hf 1 _ rfl))
      obtain ⟨v, e2, _, b2⟩ := DataW.trod_int (cs := [c2]) Try.underlying53 ((congrArg _ (by kernel_rfl)).trans (hf 2 _ rfl))
      simp only [List.cons.injEq, and_true] at e0 e1 e2
      subst e0 e1 e2
      refine ⟨a', k, who, v, rfl, bounds_u8 b0, bounds_i64 b1, ?_, hat 0 (by omega), hat 1 (by omega), hat 2 (by omega)⟩
      have := bounds_u64 b2
      exact ⟨by omega, by omega⟩
end Go.Proofs.Ytmmfadakhnagpaa
