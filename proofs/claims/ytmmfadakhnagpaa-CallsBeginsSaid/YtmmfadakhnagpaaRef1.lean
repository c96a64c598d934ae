
/-
  The reference's object: its memory; Takes, Fits.
-/
import Derived.Test.YtmmfadakhnagpaaObj5
import Derived.Test.YtmmfadakhnagpaaObj2
import Derived.Test.YtmmfadakhnagpaaObj3
import Derived.Test.YtmmfadakhnagpaaObj4
import Derived.Maps.AppendAt
namespace Go.Proofs.Ytmmfadakhnagpaa
open Go.RowKit
set_option linter.unusedSimpArgs false
set_option linter.unusedVariables false
variable {ok : Nat → Prop}


def RCells (k size owner n gen : Int) (A : Option Addr) (len c : Nat) : Array Value := #[.int .u8 k, .int .i64 size, .int .i64 owner, .int .i64 n, .int .i64 gen, .slice A len c]
/-- The reference's object at r: its kind, its size, who has it, a number, the generation, values. -/
def RIn (ok : Nat → Prop) (w : World) (r : Nat) (k size owner n gen : Int) (l : List Int) : Prop := (∀ x, w.heap.size ≤ x → ok x) ∧ (l.length ≤ 4 ∧ (k = 3 → size ≤ 4)) ∧ ∃ A c, w.heap[r]? = some (.cells (RCells k size owner n gen A l.length c) 77 (0, 0)) ∧ l.length ≤ c ∧ (A = none → c = 0) ∧ ValsAt ok w A l
variable {w w1 : World} {r : Nat} {k size owner n gen : Int} {l : List Int}
theorem RIn_lt (h : RIn ok w r k size owner n gen l) : r < w.heap.size := by obtain ⟨_, _, A, c, h, _⟩ := h; exact hp_lt h
theorem RIn_below (h : RIn ok w r k size owner n gen l) (hb : Below w.heap.size w w1) : RIn ok w1 r k size owner n gen l := by obtain ⟨hf, h0, A, c, h, h2, h3, h4⟩ := h; exact ⟨fun k hk => hf k (Nat.le_trans hb.size hk), h0, A, c, hp_below h hb, h2, h3, vals_below h4 hb⟩
theorem RIn_alloc (h : RIn ok w r k size owner n gen l) (o : Obj) : RIn ok (w.alloc o) r k size owner n gen l := RIn_below h ((Below.refl _ _).alloc (Nat.le_refl _) o)
theorem RIn_drewN (h : RIn ok w r k size owner n gen l) (m : Nat) : RIn ok (w.drewN m) r k size owner n gen l := RIn_below h ⟨rfl, rfl, rfl, Nat.le_refl _, fun _ _ => rfl⟩
theorem RIn_far {g : Nat} {cs : Array Value} {t : TypeId} (h : RIn ok w r k size owner n gen l) (hg : w.heap[g]? = some (.cells cs t (0, 0))) (h2 : t ≠ 77) (h3 : t ≠ 53) (j : Nat) (u : Value) : RIn ok (w.setCell ⟨g, j, none⟩ u) r k size owner n gen l := by
  obtain ⟨hf, h0, A, c, h, h5, h6, h7⟩ := h
  exact ⟨fun k hk => hf k (by simpa [World.setCell] using hk), h0, A, c, hp_far h (hp_ne h hg h2.symm) u, h5, h6, vals_far h7 hg h3 j u⟩
theorem RIn_other {g : Nat} {cs : Array Value} {t : TypeId} (h : RIn ok w r k size owner n gen l) (hg : w.heap[g]? = some (.cells cs t (0, 0))) (hgr : w.grownBy w1 (some g)) (h2 : g ≠ r) (h3 : t ≠ 53) : RIn ok w1 r k size owner n gen l := by
  obtain ⟨hf, h0, A, c, h, h5, h6, h7⟩ := h
  exact ⟨fun k hk => hf k (Nat.le_trans hgr.size hk), h0, A, c, hp_grown h hgr (by simpa using h2.symm), h5, h6, vals_other h7 hg h3 hgr⟩
/-- Behind a call that wrote to the object's own block alone. -/
theorem RIn_mk {w' : World} {k' size' owner' n' gen' : Int} {l' : List Int} {A A' : Option Addr} {c c' : Nat} (h0 : l'.length ≤ 4 ∧ (k' = 3 → size' ≤ 4)) (hw : w.heap[r]? = some (.cells (RCells k size owner n gen A l.length c) 77 (0, 0))) (hw' : w'.heap[r]? = some (.cells (RCells k' size' owner' n' gen' A' l'.length c') 77 (0, 0)))
    (h1 : l'.length ≤ c') (h2 : A' = none → c' = 0) (hv : ValsAt ok w A' l') (hg : w.grownBy w' (some r)) (hf : ∀ k, w.heap.size ≤ k → ok k) : RIn ok w' r k' size' owner' n' gen' l' :=
  ⟨fun k hk => hf k (Nat.le_trans hg.size hk), h0, A', c', hw', h1, h2, vals_other hv hw (by decide) hg⟩

theorem refFits_any (k who v : Int) (hv : W64 v) (w : World) : Calls Try.prog 25 #[callV k who v] w fun e w' => e = .returned (.bool (fitsB k v)) ∧ Below w.heap.size w w' := by
  unfold fitsB callV
  cases h0 : rightB v <;> cases h1 : (v == 0) <;> cases h2 : (k == 5) <;> cases h3 : (k == 8)
  all_goals
    go_enter Try.func25, Try.ntmps25
    go_wp2_with (go_at_call 62; refine (refRight_any v hv _).mono ?_; rintro e w' ⟨rfl, rfl⟩)
    go_ret
    exact ⟨by simp [h0], (Below.refl _ _).alloc (Nat.le_refl _) _⟩
theorem rTakes_1 (c : Int) (w : World) (H : RIn ok w r 1 size owner n gen l) : Calls Try.prog 24 #[.pointer (some ⟨r, 0, none⟩), .int .u8 c] w fun e w' => e = .returned (.bool (muTk c)) ∧ w = w' := by
  obtain ⟨_, _, A, cc, hh, _⟩ := H
  have h0 : w.cell? ⟨r, 0, none⟩ = some (.int .u8 1) := hp_cell hh 0
  clear hh
  unfold muTk
  cases h1 : (c == 1) <;> cases h2 : (c == 2)
  all_goals
    go_enter Try.func24, Try.ntmps24
    go_wp2
    go_ret
    exact ⟨by simp, rfl⟩
theorem rTakes_2 (c : Int) (w : World) (H : RIn ok w r 2 size owner n gen l) : Calls Try.prog 24 #[.pointer (some ⟨r, 0, none⟩), .int .u8 c] w fun e w' => e = .returned (.bool (seTk c)) ∧ w = w' := by
  obtain ⟨_, _, A, cc, hh, _⟩ := H
  have h0 : w.cell? ⟨r, 0, none⟩ = some (.int .u8 2) := hp_cell hh 0
  clear hh
  unfold seTk
  cases h1 : (c == 3) <;> cases h2 : (c == 4)
  all_goals
    go_enter Try.func24, Try.ntmps24
    go_wp2
    go_ret
    exact ⟨by simp, rfl⟩
theorem rTakes_3 (c : Int) (w : World) (H : RIn ok w r 3 size owner n gen l) : Calls Try.prog 24 #[.pointer (some ⟨r, 0, none⟩), .int .u8 c] w fun e w' => e = .returned (.bool (quTk c)) ∧ w = w' := by
  obtain ⟨_, _, A, cc, hh, _⟩ := H
  have h0 : w.cell? ⟨r, 0, none⟩ = some (.int .u8 3) := hp_cell hh 0
  clear hh
  unfold quTk
  cases h1 : (c == 5) <;> cases h2 : (c == 6)
  all_goals
    go_enter Try.func24, Try.ntmps24
    go_wp2
    go_ret
    exact ⟨by simp, rfl⟩
theorem rTakes_4 (c : Int) (w : World) (H : RIn ok w r 4 size owner n gen l) : Calls Try.prog 24 #[.pointer (some ⟨r, 0, none⟩), .int .u8 c] w fun e w' => e = .returned (.bool (baTk c)) ∧ w = w' := by
  obtain ⟨_, _, A, cc, hh, _⟩ := H
  have h0 : w.cell? ⟨r, 0, none⟩ = some (.int .u8 4) := hp_cell hh 0
  clear hh
  unfold baTk
  cases h1 : (c == 7) <;> cases h2 : (c == 8)
  all_goals
    go_enter Try.func24, Try.ntmps24
    go_wp2
    go_ret
    exact ⟨by simp, rfl⟩

end Go.Proofs.Ytmmfadakhnagpaa
