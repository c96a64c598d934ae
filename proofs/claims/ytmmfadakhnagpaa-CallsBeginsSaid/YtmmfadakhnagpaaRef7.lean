
/-
  The reference's Shape; SameShape.
-/
import Derived.Test.YtmmfadakhnagpaaRef1
import Derived.Test.YtmmfadakhnagpaaFlow1
import Derived.Test.YtmmfadakhnagpaaSame
import Derived.Deep.RegionHeld3
namespace Go.Proofs.Ytmmfadakhnagpaa
open Go.RowKit
set_option linter.unusedSimpArgs false
set_option linter.unusedVariables false
variable {ok ok' : Nat → Prop}

theorem sameShape_any (o n g : Int) (A1 A2 : Option Addr) (c1 c2 : Nat) (l1 l2 : List Int) (w : World) (h1 : ValsAt ok w A1 l1) (h2 : ValsAt ok' w A2 l2) (b1 : l1.length ≤ 1000) (b2 : l2.length ≤ 1000) :
    Calls Try.prog 16 #[.agg #[.int .i64 o, .int .i64 n, .int .i64 g, .slice A1 l1.length c1], .agg #[.int .i64 o, .int .i64 n, .int .i64 g, .slice A2 l2.length c2]] w fun e w' => e = .returned (.bool (decide (l1 = l2))) ∧ Below w.heap.size w w' := by
  have H1 := Lib.hid h1
  have H2 := Lib.hid h2
  clear h1 h2
  go_enter Try.func16, Try.ntmps16
  go_wp2_with (go_at_call 40; refine (sameVals_any A1 A2 c1 c2 l1 l2 _ (vals_below H1.out (((Below.refl _ _).alloc (Nat.le_refl _) _).alloc (by simp) _)) (vals_below H2.out (((Below.refl _ _).alloc (Nat.le_refl _) _).alloc (by simp) _)) b1 b2).mono ?_; rintro e w1 ⟨rfl, hd⟩; have HB := Lib.hid ((((Below.refl w.heap.size w).alloc (Nat.le_refl _) _).alloc (by simp) _).trans (hd.below.mono (by simp; omega))); clear hd)
  go_ret
  exact ⟨rfl, HB.out⟩

def cellV (w : World) (a : Addr) : Value := (w.cell? a).getD undef
def ShS (ok : Nat → Prop) (W : World) (r q : Nat) (k size owner n gen : Int) (l : List Int) (A : Option Addr) (cc : Nat) (w' : World) : Prop :=
  w'.cell? ⟨r, 2, none⟩ = some (.int .i64 owner) ∧ w'.cell? ⟨r, 3, none⟩ = some (.int .i64 n) ∧ w'.cell? ⟨r, 4, none⟩ = some (.int .i64 gen) ∧ w'.cell? ⟨r, 5, none⟩ = some (.slice A l.length cc) ∧
  w'.cell? ⟨q, 0, none⟩ = some (cellV w' ⟨q, 0, none⟩) ∧ w'.cell? ⟨q, 1, none⟩ = some (cellV w' ⟨q, 1, none⟩) ∧ w'.cell? ⟨q, 2, none⟩ = some (cellV w' ⟨q, 2, none⟩) ∧ w'.cell? ⟨q, 3, none⟩ = some (cellV w' ⟨q, 3, none⟩) ∧
  w'.frozen? ⟨q, 0, none⟩ = false ∧ w'.frozen? ⟨q, 1, none⟩ = false ∧ w'.frozen? ⟨q, 2, none⟩ = false ∧ w'.frozen? ⟨q, 3, none⟩ = false ∧
  (w'.heap[r]? = some (.cells #[.int .u8 k, .int .i64 size, .int .i64 owner, .int .i64 n, .int .i64 gen, .slice A l.length cc] 77 (0, 0)) ∧ (∃ a b c d, w'.heap[q]? = some (.cells #[a, b, c, d] 42 (0, 0))) ∧ ValsAt ok w' A l ∧ Below W.heap.size W w' ∧ W.heap.size ≤ q)
variable {W w w1 : World} {r q : Nat} {k size owner n gen : Int} {l : List Int} {A : Option Addr} {cc : Nat}
theorem ShS.mk (h1 : w.heap[r]? = some (.cells #[.int .u8 k, .int .i64 size, .int .i64 owner, .int .i64 n, .int .i64 gen, .slice A l.length cc] 77 (0, 0))) (h2 : ∃ a b c d, w.heap[q]? = some (.cells #[a, b, c, d] 42 (0, 0))) (h3 : ValsAt ok w A l) (h4 : Below W.heap.size W w) (h5 : W.heap.size ≤ q) : ShS ok W r q k size owner n gen l A cc w := by
  obtain ⟨a, b, c, d, h⟩ := h2
  have y : ∀ j v, (#[a, b, c, d] : Array Value)[j]? = some v → w.cell? ⟨q, j, none⟩ = some (cellV w ⟨q, j, none⟩) := fun j v hj => by
    have : w.cell? ⟨q, j, none⟩ = some v := (hp_cell h j).trans hj
    rw [cellV, this]; rfl
  exact ⟨hp_cell h1 2, hp_cell h1 3, hp_cell h1 4, hp_cell h1 5, y 0 a rfl, y 1 b rfl, y 2 c rfl, y 3 d rfl, hp_frozen h 0, hp_frozen h 1, hp_frozen h 2, hp_frozen h 3, h1, ⟨a, b, c, d, h⟩, h3, h4, h5⟩
theorem ShS.drew (h : ShS ok W r q k size owner n gen l A cc w) : ShS ok W r q k size owner n gen l A cc w.drew := by
  obtain ⟨_, _, _, _, _, _, _, _, _, _, _, _, h1, ⟨a, b, c, d, h2⟩, h3, h4, h5⟩ := h
  exact ShS.mk h1 ⟨a, b, c, d, h2⟩ h3 h4.drew h5
theorem ShS.grown (h : ShS ok W r q k size owner n gen l A cc w) {g : Option Nat} (hg : w.grownBy w1 g) (hr : ∀ j, g = some j → w.heap.size ≤ j) : ShS ok W r q k size owner n gen l A cc w1 := by
  obtain ⟨_, _, _, _, _, _, _, _, _, _, _, _, h1, ⟨a, b, c, d, h2⟩, h3, h4, h5⟩ := h
  have hb : Below w.heap.size w w1 := (Below.refl _ _).grown hg (Nat.le_refl _) hr
  exact ShS.mk (hp_below h1 hb) ⟨a, b, c, d, hp_below h2 hb⟩ (vals_below h3 hb) (h4.trans (hb.mono h4.size)) h5
theorem ShS.below (h : ShS ok W r q k size owner n gen l A cc w) (hb : Below w.heap.size w w1) : ShS ok W r q k size owner n gen l A cc w1 := by
  obtain ⟨_, _, _, _, _, _, _, _, _, _, _, _, h1, ⟨a, b, c, d, h2⟩, h3, h4, h5⟩ := h
  exact ShS.mk (hp_below h1 hb) ⟨a, b, c, d, hp_below h2 hb⟩ (vals_below h3 hb) (h4.trans (hb.mono h4.size)) h5
theorem ShS.vals (h : ShS ok W r q k size owner n gen l A cc w) : ValsAt ok w A l := by
  obtain ⟨_, _, _, _, _, _, _, _, _, _, _, _, _, _, h3, _⟩ := h
  exact h3
theorem row_at0 {W : World} {base n0 : Nat} (h : W.heap[n0]? = some (.cells #[] 53 (0, 0))) (hb : base ≤ n0) : RowAt W base (some ⟨n0, 0, none⟩) 0 [] :=
  ⟨⟨rfl, .inr ⟨n0, 0, #[], rfl, hb, h, Nat.le_refl _, Nat.zero_le _, rfl, rfl⟩⟩, fun x hx => (List.not_mem_nil hx).elim⟩
theorem ShS.alloc (h : ShS ok W r q k size owner n gen l A cc w) (o : Obj) : ShS ok W r q k size owner n gen l A cc (w.alloc o) := h.grown (World.grownBy_alloc w o none) (fun j hj => by cases hj)
theorem ShS.set (h : ShS ok W r q k size owner n gen l A cc w) (j : Nat) (u : Value) : ShS ok W r q k size owner n gen l A cc (w.setCell ⟨q, j, none⟩ u) := by
  obtain ⟨_, _, _, _, _, _, _, _, _, _, _, _, h1, ⟨a, b, c, d, h2⟩, h3, h4, h5⟩ := h
  have hx := hp_put h2 j u rfl
  refine ShS.mk (hp_far h1 (hp_ne h1 h2 (by decide)) u) ?_ (vals_far h3 h2 (by decide) j u) (bl_new h4 h5 u) h5
  match j with
  | 0 => exact ⟨u, b, c, d, hx⟩
  | 1 => exact ⟨a, u, c, d, hx⟩
  | 2 => exact ⟨a, b, u, d, hx⟩
  | 3 => exact ⟨a, b, c, u, hx⟩
  | j + 4 => exact ⟨a, b, c, d, hx⟩

def RShape (b : Nat) (owner n gen : Int) (l : List Int) (e : Ending) (w' : World) : Prop := ∃ A' c', e = .returned (.agg #[.int .i64 owner, .int .i64 n, .int .i64 gen, .slice A' l.length c']) ∧ l.length ≤ c' ∧ (A' = none → c' = 0) ∧ ValsAt (fun k => b ≤ k) w' A' l
end Go.Proofs.Ytmmfadakhnagpaa
