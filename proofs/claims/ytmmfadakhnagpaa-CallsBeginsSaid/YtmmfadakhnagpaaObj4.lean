
/-
  A barrier behind an interface: what its calls answer, and what becomes of its cells.
-/
import Derived.Test.YtmmfadakhnagpaaObj1
namespace Go.Proofs.Ytmmfadakhnagpaa
open Go.RowKit
set_option linter.unusedSimpArgs false
set_option linter.unusedVariables false

def baStep (k who v : Int) (s : Int × Int × Int) : (Int × Bool × Int) × (Int × Int × Int) :=
  bif k == 8 then (bif lessB v (intV s.2.2) then (aOne, s) else (aBlocks, s)) else (bif wrap64 (s.2.1 + 1) == s.1 then ((intV s.2.2, false, 0), (s.1, 0, wrap64 (s.2.2 + 1))) else ((intV s.2.2, false, 0), (s.1, wrap64 (s.2.1 + 1), s.2.2)))
def baTk (k : Int) : Bool := k == 7 || k == 8
def baIn (w : World) (a : Nat) (s : Int × Int × Int) : Prop := w.heap[a]? = some (.cells #[.int .i64 s.1, .int .i64 s.2.1, .int .i64 s.2.2] 100 (0, 0))
theorem baIn_lt {w : World} {a : Nat} {s : Int × Int × Int} (h : baIn w a s) : a < w.heap.size := hp_lt h
theorem baIn_below {w w1 : World} {a : Nat} {s : Int × Int × Int} (h : baIn w a s) (hb : Below w.heap.size w w1) : baIn w1 a s := hp_below h hb
theorem baIn_far {w : World} {a g : Nat} {s : Int × Int × Int} {cs : Array Value} {t : TypeId} (h : baIn w a s) (hg : w.heap[g]? = some (.cells cs t (0, 0))) (h2 : t ≠ 100) (_h3 : t ≠ 53) (j : Nat) (u : Value) : baIn (w.setCell ⟨g, j, none⟩ u) a s := hp_far h (hp_ne h hg h2.symm) u
theorem baIn_other {w w1 : World} {a g : Nat} {s : Int × Int × Int} {cs : Array Value} {t : TypeId} (h : baIn w a s) (_hg : w.heap[g]? = some (.cells cs t (0, 0))) (hgr : w.grownBy w1 (some g)) (h2 : g ≠ a) (_h3 : t ≠ 53) : baIn w1 a s := hp_grown h hgr (by simpa using h2.symm)
theorem ba_ne {w : World} {p a : Nat} {s : Int × Int × Int} (h : w.heap[p]? = some (.cells #[.iface 98 (.pointer (some ⟨a, 0, none⟩))] 91 (0, 0)) ∧ baIn w a s) : p ≠ a := hp_ne h.1 h.2 (by decide)
def baAt (w : World) (p a : Nat) (s : Int × Int × Int) : Prop := w.heap[p]? = some (.cells #[.iface 98 (.pointer (some ⟨a, 0, none⟩))] 91 (0, 0)) ∧ baIn w a s
theorem baAt_below {w w1 : World} {p a : Nat} {s : Int × Int × Int} (h : baAt w p a s) (hb : Below w.heap.size w w1) : baAt w1 p a s := ⟨hp_below h.1 hb, baIn_below h.2 hb⟩
theorem baAt_alloc {w : World} {p a : Nat} {s : Int × Int × Int} (h : baAt w p a s) (o : Obj) : baAt (w.alloc o) p a s := baAt_below h ((Below.refl _ _).alloc (Nat.le_refl _) o)
theorem baAt_drewN {w : World} {p a : Nat} {s : Int × Int × Int} (h : baAt w p a s) (n : Nat) : baAt (w.drewN n) p a s := baAt_below h ⟨rfl, rfl, rfl, Nat.le_refl _, fun _ _ => rfl⟩
theorem baAt_far {w : World} {p a g : Nat} {s : Int × Int × Int} {cs : Array Value} {t : TypeId} (h : baAt w p a s) (hg : w.heap[g]? = some (.cells cs t (0, 0))) (h1 : t ≠ 91) (h2 : t ≠ 100) (h3 : t ≠ 53) (j : Nat) (u : Value) : baAt (w.setCell ⟨g, j, none⟩ u) p a s :=
  ⟨hp_far h.1 (hp_ne h.1 hg h1.symm) u, baIn_far h.2 hg h2 h3 j u⟩
theorem baAt_other {w w1 : World} {p a g : Nat} {s : Int × Int × Int} {cs : Array Value} {t : TypeId} (h : baAt w p a s) (hg : w.heap[g]? = some (.cells cs t (0, 0))) (hgr : w.grownBy w1 (some g)) (h1 : t ≠ 91) (h2 : g ≠ a) (h3 : t ≠ 53) : baAt w1 p a s :=
  ⟨hp_grown h.1 hgr (by have := hp_ne h.1 hg h1.symm; simpa using this), baIn_other h.2 hg hgr h2 h3⟩

theorem baTakes (x : Value) (k : Int) (w : World) : Calls Try.prog 149 #[x, .int .u8 k] w fun e w' => e = .returned (.bool (baTk k)) ∧ w = w' := by
  unfold baTk
  cases h1 : (k == 7) <;> cases h2 : (k == 8)
  all_goals
    go_enter Try.func149, Try.ntmps149
    go_wp2
    go_ret
    exact ⟨by simp, rfl⟩
theorem baTakesO (p a : Nat) (s : Int × Int × Int) (k : Int) (w : World) (H : baAt w p a s) : Calls Try.prog 43 #[.pointer (some ⟨p, 0, none⟩), .int .u8 k] w fun e w' => e = .returned (.bool (baTk k)) ∧ w = w' := by
  have hc : w.cell? ⟨p, 0, none⟩ = some (.iface 98 (.pointer (some ⟨a, 0, none⟩))) := hp_cell H.1 0
  go_enter Try.func43, Try.ntmps43
  go_wp2_with (go_at_call 149; refine (baTakes _ _ _).mono ?_; rintro e w' ⟨rfl, rfl⟩)
  go_ret
  exact ⟨rfl, rfl⟩
def baDo (k who v : Int) (s : Int × Int × Int) : (Int × Bool × Int) × Int × Int × Int := bif badB (baTk k) k who v then (aErr 3, s) else baStep k who v s
theorem ta_ba_0 (x : Addr) (w : World) : (Instr.typeAssert (.iface 98 (.pointer (some x))) 89 85 true).run Try.prog w = .ok (.tuple #[.pointer none, .bool false]) w := by kernel_rfl
theorem ta_ba_1 (x : Addr) (w : World) : (Instr.typeAssert (.iface 98 (.pointer (some x))) 89 92 true).run Try.prog w = .ok (.tuple #[.pointer none, .bool false]) w := by kernel_rfl
theorem ta_ba_2 (x : Addr) (w : World) : (Instr.typeAssert (.iface 98 (.pointer (some x))) 89 95 true).run Try.prog w = .ok (.tuple #[.pointer none, .bool false]) w := by kernel_rfl
end Go.Proofs.Ytmmfadakhnagpaa
