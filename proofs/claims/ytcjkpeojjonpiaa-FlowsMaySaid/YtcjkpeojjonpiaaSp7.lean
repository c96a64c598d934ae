
/-
  spec: copied; clones as rows.
-/
import Derived.Test.YtcjkpeojjonpiaaSp4
import Derived.Deep.RegionWith
namespace Go.Proofs.Ytcjkpeojjonpiaa
open Go.RowKit Go.ChangeShapes Go.WideShapes
set_option linter.unusedSimpArgs false
set_option linter.unusedVariables false

def stC (s : St) (A1 : Option Addr) (c1 : Nat) (A2 : Option Addr) (c2 : Nat) : Array Value :=
  #[.int .i64 s.pc, .slice A1 s.stk.length c1, .int .u64 s.la, .int .u64 s.lb, .int .u64 s.lc, .int .u64 s.ld, .slice A2 s.out.length c2]
def stV (s : St) (A1 : Option Addr) (c1 : Nat) (A2 : Option Addr) (c2 : Nat) : Value := .agg (stC s A1 c1 A2 c2)
def CloneRow (l : List Int) (w : World) (e : Ending) (w' : World) : Prop := ∃ A' c', e = .returned (.slice A' l.length c') ∧ RowAt w' w.heap.size A' c' l ∧ Below w.heap.size w w'
/-- A slice's values, wherever they stand. -/
def VCells (w : World) (A : Option Addr) (l : List Int) : Prop := (∀ v ∈ l, W64 v) ∧ (A = none → l = []) ∧ ∀ b, A = some b → ∀ (j : Nat) (u : Value), (valsC l)[j]? = some u → w.cell? (b.add j) = some u
theorem vcells_of {ok : Nat → Prop} {w : World} {A : Option Addr} {l : List Int} (h : ValsAt ok w A l) : VCells w A l :=
  ⟨h.1, fun e => vals_none (e ▸ h), fun b e => vals_cell (e ▸ h)⟩
theorem vcells_below {w w1 : World} {A : Option Addr} {l : List Int} (h : VCells w A l) (hb : Below w.heap.size w w1) : VCells w1 A l :=
  ⟨h.1, h.2.1, fun b e j u hj => by
    have hc := h.2.2 b e j u hj
    exact (hb.cell (World.block_lt_of_cell? w _ hc)).trans hc⟩
/-- A list that is read: a slice's values, and its bounds. -/
structure Src (w : World) (A : Option Addr) (c : Nat) (l : List Int) : Prop where
  vals : VCells w A l
  cap : l.length ≤ c
  nil : A = none → c = 0
  len : l.length ≤ 1000
theorem Src.below {w w1 : World} {A : Option Addr} {c : Nat} {l : List Int} (h : Src w A c l) (hb : Below w.heap.size w w1) : Src w1 A c l := ⟨vcells_below h.vals hb, h.cap, h.nil, h.len⟩
theorem Src.row {w : World} {base : Nat} {A : Option Addr} {c : Nat} {l : List Int} (h : RowAt w base A c l) (hl : l.length ≤ 1000) : Src w A c l := ⟨vcells_of (row_vals h).1, (row_cap h).1, (row_cap h).2, hl⟩
theorem row_base {w : World} {base base' c : Nat} {A : Option Addr} {l : List Int} (h : RowAt w base A c l) (hb : base' ≤ base) : RowAt w base' A c l := by
  refine ⟨?_, h.2⟩
  obtain ⟨h1, h2⟩ := h.1
  refine ⟨h1, ?_⟩
  rcases h2 with h2 | ⟨g, cap, cur, hv, hb', r⟩
  · exact .inl h2
  · exact .inr ⟨g, cap, cur, hv, Nat.le_trans hb hb', r⟩
theorem row_ne {w : World} {base c b : Nat} {A : Option Addr} {l : List Int} (h : RowAt w base A c l) (hn : ∀ k, blk A = some k → k ≠ b) (j : Nat) (u : Value) : RowAt (w.setCell ⟨b, j, none⟩ u) base A c l :=
  row_other h (gb_set (gb_refl w (some b)) j u) (fun k hk e => hn k hk (Option.some.inj e))
def CopyPost (s : St) (w : World) (e : Ending) (w' : World) : Prop := ∃ A1 c1 A2 c2, e = .returned (stV s A1 c1 A2 c2) ∧ RowAt w' w.heap.size A1 c1 s.stk ∧ RowAt w' w.heap.size A2 c2 s.out ∧ (∀ k, blk A1 = some k → blk A2 ≠ some k) ∧ Below w.heap.size w w'
end Go.Proofs.Ytcjkpeojjonpiaa
