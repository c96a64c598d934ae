
/-
  A mutex behind an interface: what its calls answer, and what becomes of its cells.
-/
import Derived.Test.YtmmfadakhnagpaaObj1
namespace Go.Proofs.Ytmmfadakhnagpaa
open Go.RowKit
set_option linter.unusedSimpArgs false
set_option linter.unusedVariables false

def muStep (k who v s : Int) : (Int × Bool × Int) × Int :=
  bif k == 2 then (bif s == who then (aOne, -1) else (aErr 0, s)) else (bif decide (0 ≤ s) then (aBlocks, s) else (aOne, who))
def muTk (k : Int) : Bool := k == 1 || k == 2
def muIn (w : World) (a : Nat) (s : Int) : Prop := w.heap[a]? = some (.cells #[.int .i64 s] 87 (0, 0))
theorem muIn_lt {w : World} {a : Nat} {s : Int} (h : muIn w a s) : a < w.heap.size := hp_lt h
theorem muIn_below {w w1 : World} {a : Nat} {s : Int} (h : muIn w a s) (hb : Below w.heap.size w w1) : muIn w1 a s := hp_below h hb
theorem muIn_far {w : World} {a g : Nat} {s : Int} {cs : Array Value} {t : TypeId} (h : muIn w a s) (hg : w.heap[g]? = some (.cells cs t (0, 0))) (h2 : t ≠ 87) (_h3 : t ≠ 53) (j : Nat) (u : Value) : muIn (w.setCell ⟨g, j, none⟩ u) a s := hp_far h (hp_ne h hg h2.symm) u
theorem muIn_other {w w1 : World} {a g : Nat} {s : Int} {cs : Array Value} {t : TypeId} (h : muIn w a s) (_hg : w.heap[g]? = some (.cells cs t (0, 0))) (hgr : w.grownBy w1 (some g)) (h2 : g ≠ a) (_h3 : t ≠ 53) : muIn w1 a s := hp_grown h hgr (by simpa using h2.symm)
theorem mu_ne {w : World} {p a : Nat} {s : Int} (h : w.heap[p]? = some (.cells #[.iface 85 (.pointer (some ⟨a, 0, none⟩))] 91 (0, 0)) ∧ muIn w a s) : p ≠ a := hp_ne h.1 h.2 (by decide)
def muAt (w : World) (p a : Nat) (s : Int) : Prop := w.heap[p]? = some (.cells #[.iface 85 (.pointer (some ⟨a, 0, none⟩))] 91 (0, 0)) ∧ muIn w a s
theorem muAt_below {w w1 : World} {p a : Nat} {s : Int} (h : muAt w p a s) (hb : Below w.heap.size w w1) : muAt w1 p a s := ⟨hp_below h.1 hb, muIn_below h.2 hb⟩
theorem muAt_alloc {w : World} {p a : Nat} {s : Int} (h : muAt w p a s) (o : Obj) : muAt (w.alloc o) p a s := muAt_below h ((Below.refl _ _).alloc (Nat.le_refl _) o)
theorem muAt_drewN {w : World} {p a : Nat} {s : Int} (h : muAt w p a s) (n : Nat) : muAt (w.drewN n) p a s := muAt_below h ⟨rfl, rfl, rfl, Nat.le_refl _, fun _ _ => rfl⟩
theorem muAt_far {w : World} {p a g : Nat} {s : Int} {cs : Array Value} {t : TypeId} (h : muAt w p a s) (hg : w.heap[g]? = some (.cells cs t (0, 0))) (h1 : t ≠ 91) (h2 : t ≠ 87) (h3 : t ≠ 53) (j : Nat) (u : Value) : muAt (w.setCell ⟨g, j, none⟩ u) p a s :=
  ⟨hp_far h.1 (hp_ne h.1 hg h1.symm) u, muIn_far h.2 hg h2 h3 j u⟩
theorem muAt_other {w w1 : World} {p a g : Nat} {s : Int} {cs : Array Value} {t : TypeId} (h : muAt w p a s) (hg : w.heap[g]? = some (.cells cs t (0, 0))) (hgr : w.grownBy w1 (some g)) (h1 : t ≠ 91) (h2 : g ≠ a) (h3 : t ≠ 53) : muAt w1 p a s :=
  ⟨hp_grown h.1 hgr (by have := hp_ne h.1 hg h1.symm; simpa using this), muIn_other h.2 hg hgr h2 h3⟩

theorem muTakes (x : Value) (k : Int) (w : World) : Calls Try.prog 137 #[x, .int .u8 k] w fun e w' => e = .returned (.bool (muTk k)) ∧ w = w' := by
  unfold muTk
  cases h1 : (k == 1) <;> cases h2 : (k == 2)
  all_goals
    go_enter Try.func137, Try.ntmps137
    go_wp2
    go_ret
    exact ⟨by simp, rfl⟩
theorem muTakesO (p a : Nat) (s : Int) (k : Int) (w : World) (H : muAt w p a s) : Calls Try.prog 43 #[.pointer (some ⟨p, 0, none⟩), .int .u8 k] w fun e w' => e = .returned (.bool (muTk k)) ∧ w = w' := by
  have hc : w.cell? ⟨p, 0, none⟩ = some (.iface 85 (.pointer (some ⟨a, 0, none⟩))) := hp_cell H.1 0
  go_enter Try.func43, Try.ntmps43
  go_wp2_with (go_at_call 137; refine (muTakes _ _ _).mono ?_; rintro e w' ⟨rfl, rfl⟩)
  go_ret
  exact ⟨rfl, rfl⟩
def muDo (k who v : Int) (s : Int) : (Int × Bool × Int) × Int := bif badB (muTk k) k who v then (aErr 3, s) else muStep k who v s
theorem ta_mu_0 (x : Addr) (w : World) : (Instr.typeAssert (.iface 85 (.pointer (some x))) 89 85 true).run Try.prog w = .ok (.tuple #[.pointer (some x), .bool true]) w := by kernel_rfl
end Go.Proofs.Ytmmfadakhnagpaa
