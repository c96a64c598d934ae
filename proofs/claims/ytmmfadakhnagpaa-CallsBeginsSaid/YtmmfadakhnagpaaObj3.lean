
/-
  A semaphore behind an interface: what its calls answer, and what becomes of its cells.
-/
import Derived.Test.YtmmfadakhnagpaaObj1
namespace Go.Proofs.Ytmmfadakhnagpaa
open Go.RowKit
set_option linter.unusedSimpArgs false
set_option linter.unusedVariables false

def seStep (k who v s : Int) : (Int × Bool × Int) × Int :=
  bif k == 4 then (bif decide (99 ≤ s) then (aErr 4, s) else (aOne, s + 1)) else (bif s == 0 then (aBlocks, s) else (aOne, s - 1))
def seTk (k : Int) : Bool := k == 3 || k == 4
def seIn (w : World) (a : Nat) (s : Int) : Prop := w.heap[a]? = some (.cells #[.int .i64 s] 94 (0, 0)) ∧ (0 ≤ s ∧ s ≤ 99)
theorem seIn_lt {w : World} {a : Nat} {s : Int} (h : seIn w a s) : a < w.heap.size := hp_lt h.1
theorem seIn_below {w w1 : World} {a : Nat} {s : Int} (h : seIn w a s) (hb : Below w.heap.size w w1) : seIn w1 a s := ⟨hp_below h.1 hb, h.2⟩
theorem seIn_far {w : World} {a g : Nat} {s : Int} {cs : Array Value} {t : TypeId} (h : seIn w a s) (hg : w.heap[g]? = some (.cells cs t (0, 0))) (h2 : t ≠ 94) (_h3 : t ≠ 53) (j : Nat) (u : Value) : seIn (w.setCell ⟨g, j, none⟩ u) a s := ⟨hp_far h.1 (hp_ne h.1 hg h2.symm) u, h.2⟩
theorem seIn_other {w w1 : World} {a g : Nat} {s : Int} {cs : Array Value} {t : TypeId} (h : seIn w a s) (_hg : w.heap[g]? = some (.cells cs t (0, 0))) (hgr : w.grownBy w1 (some g)) (h2 : g ≠ a) (_h3 : t ≠ 53) : seIn w1 a s := ⟨hp_grown h.1 hgr (by simpa using h2.symm), h.2⟩
theorem se_ne {w : World} {p a : Nat} {s : Int} (h : w.heap[p]? = some (.cells #[.iface 92 (.pointer (some ⟨a, 0, none⟩))] 91 (0, 0)) ∧ seIn w a s) : p ≠ a := hp_ne h.1 h.2.1 (by decide)
def seAt (w : World) (p a : Nat) (s : Int) : Prop := w.heap[p]? = some (.cells #[.iface 92 (.pointer (some ⟨a, 0, none⟩))] 91 (0, 0)) ∧ seIn w a s
theorem seAt_below {w w1 : World} {p a : Nat} {s : Int} (h : seAt w p a s) (hb : Below w.heap.size w w1) : seAt w1 p a s := ⟨hp_below h.1 hb, seIn_below h.2 hb⟩
theorem seAt_alloc {w : World} {p a : Nat} {s : Int} (h : seAt w p a s) (o : Obj) : seAt (w.alloc o) p a s := seAt_below h ((Below.refl _ _).alloc (Nat.le_refl _) o)
theorem seAt_drewN {w : World} {p a : Nat} {s : Int} (h : seAt w p a s) (n : Nat) : seAt (w.drewN n) p a s := seAt_below h ⟨rfl, rfl, rfl, Nat.le_refl _, fun _ _ => rfl⟩
theorem seAt_far {w : World} {p a g : Nat} {s : Int} {cs : Array Value} {t : TypeId} (h : seAt w p a s) (hg : w.heap[g]? = some (.cells cs t (0, 0))) (h1 : t ≠ 91) (h2 : t ≠ 94) (h3 : t ≠ 53) (j : Nat) (u : Value) : seAt (w.setCell ⟨g, j, none⟩ u) p a s :=
  ⟨hp_far h.1 (hp_ne h.1 hg h1.symm) u, seIn_far h.2 hg h2 h3 j u⟩
theorem seAt_other {w w1 : World} {p a g : Nat} {s : Int} {cs : Array Value} {t : TypeId} (h : seAt w p a s) (hg : w.heap[g]? = some (.cells cs t (0, 0))) (hgr : w.grownBy w1 (some g)) (h1 : t ≠ 91) (h2 : g ≠ a) (h3 : t ≠ 53) : seAt w1 p a s :=
  ⟨hp_grown h.1 hgr (by have := hp_ne h.1 hg h1.symm; simpa using this), seIn_other h.2 hg hgr h2 h3⟩

theorem seTakes (x : Value) (k : Int) (w : World) : Calls Try.prog 141 #[x, .int .u8 k] w fun e w' => e = .returned (.bool (seTk k)) ∧ w = w' := by
  unfold seTk
  cases h1 : (k == 3) <;> cases h2 : (k == 4)
  all_goals
    go_enter Try.func141, Try.ntmps141
    go_wp2
    go_ret
    exact ⟨by simp, rfl⟩
theorem seTakesO (p a : Nat) (s : Int) (k : Int) (w : World) (H : seAt w p a s) : Calls Try.prog 43 #[.pointer (some ⟨p, 0, none⟩), .int .u8 k] w fun e w' => e = .returned (.bool (seTk k)) ∧ w = w' := by
  have hc : w.cell? ⟨p, 0, none⟩ = some (.iface 92 (.pointer (some ⟨a, 0, none⟩))) := hp_cell H.1 0
  go_enter Try.func43, Try.ntmps43
  go_wp2_with (go_at_call 141; refine (seTakes _ _ _).mono ?_; rintro e w' ⟨rfl, rfl⟩)
  go_ret
  exact ⟨rfl, rfl⟩
def seDo (k who v : Int) (s : Int) : (Int × Bool × Int) × Int := bif badB (seTk k) k who v then (aErr 3, s) else seStep k who v s
theorem ta_se_0 (x : Addr) (w : World) : (Instr.typeAssert (.iface 92 (.pointer (some x))) 89 85 true).run Try.prog w = .ok (.tuple #[.pointer none, .bool false]) w := by kernel_rfl
theorem ta_se_1 (x : Addr) (w : World) : (Instr.typeAssert (.iface 92 (.pointer (some x))) 89 92 true).run Try.prog w = .ok (.tuple #[.pointer (some x), .bool true]) w := by kernel_rfl
end Go.Proofs.Ytmmfadakhnagpaa
