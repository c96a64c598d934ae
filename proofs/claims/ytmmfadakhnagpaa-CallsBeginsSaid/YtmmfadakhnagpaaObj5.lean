
/-
  A queue behind an interface: what its calls answer, and what becomes of its cells.
-/
import Derived.Test.YtmmfadakhnagpaaVals
import Derived.Deep.RegionHeld3
import Derived.Deep.RegionLawGrows
import Derived.Outline
namespace Go.Proofs.Ytmmfadakhnagpaa
open Go.RowKit
set_option linter.unusedSimpArgs false
set_option linter.unusedVariables false
variable {ok : Nat → Prop}

def quStep (k who v : Int) (s : Int × List Int) : (Int × Bool × Int) × (Int × List Int) :=
  bif k == 6 && decide (0 < s.2.length) then ((s.2.headD 0, false, 0), (s.1, s.2.tail)) else (bif k == 5 && decide ((s.2.length : Int) < s.1) then (aOne, (s.1, s.2 ++ [v])) else (aBlocks, s))
def quTk (k : Int) : Bool := k == 5 || k == 6
def quIn (ok : Nat → Prop) (w : World) (a : Nat) (s : Int × List Int) : Prop := (∀ k, w.heap.size ≤ k → ok k) ∧ (0 ≤ s.1 ∧ s.1 ≤ 4 ∧ (s.2.length : Int) ≤ s.1) ∧ ∃ A c, w.heap[a]? = some (.cells #[.int .i64 s.1, .slice A s.2.length c] 97 (0, 0)) ∧ s.2.length ≤ c ∧ (A = none → c = 0) ∧ ValsAt ok w A s.2
theorem quIn_lt {w : World} {a : Nat} {s : Int × List Int} (h : quIn ok w a s) : a < w.heap.size := by obtain ⟨_, _, A, c, h, _⟩ := h; exact hp_lt h
theorem quIn_below {w w1 : World} {a : Nat} {s : Int × List Int} (h : quIn ok w a s) (hb : Below w.heap.size w w1) : quIn ok w1 a s := by obtain ⟨hf, h0, A, c, h, h2, h3, h4⟩ := h; exact ⟨fun k hk => hf k (Nat.le_trans hb.size hk), h0, A, c, hp_below h hb, h2, h3, vals_below h4 hb⟩
theorem quIn_far {w : World} {a g : Nat} {s : Int × List Int} {cs : Array Value} {t : TypeId} (h : quIn ok w a s) (hg : w.heap[g]? = some (.cells cs t (0, 0))) (h2 : t ≠ 97) (h3 : t ≠ 53) (j : Nat) (u : Value) : quIn ok (w.setCell ⟨g, j, none⟩ u) a s := by
  obtain ⟨hf, h0, A, c, h, h5, h6, h7⟩ := h
  exact ⟨fun k hk => hf k (by simpa [World.setCell] using hk), h0, A, c, hp_far h (hp_ne h hg h2.symm) u, h5, h6, vals_far h7 hg h3 j u⟩
theorem quIn_other {w w1 : World} {a g : Nat} {s : Int × List Int} {cs : Array Value} {t : TypeId} (h : quIn ok w a s) (hg : w.heap[g]? = some (.cells cs t (0, 0))) (hgr : w.grownBy w1 (some g)) (h2 : g ≠ a) (h3 : t ≠ 53) : quIn ok w1 a s := by
  obtain ⟨hf, h0, A, c, h, h5, h6, h7⟩ := h
  exact ⟨fun k hk => hf k (Nat.le_trans hgr.size hk), h0, A, c, hp_grown h hgr (by simpa using h2.symm), h5, h6, vals_other h7 hg h3 hgr⟩
theorem qu_ne {w : World} {p a : Nat} {s : Int × List Int} (h : w.heap[p]? = some (.cells #[.iface 95 (.pointer (some ⟨a, 0, none⟩))] 91 (0, 0)) ∧ quIn ok w a s) : p ≠ a := by
  obtain ⟨h1, _, h0, A, c, h, _⟩ := h
  exact hp_ne h1 h (by decide)
theorem quIn_mk {w w' : World} {a : Nat} {sz : Int} {l l' : List Int} {A A' : Option Addr} {c c' : Nat} (h0 : 0 ≤ sz ∧ sz ≤ 4 ∧ (l'.length : Int) ≤ sz) (hw : w.heap[a]? = some (.cells #[.int .i64 sz, .slice A l.length c] 97 (0, 0))) (hw' : w'.heap[a]? = some (.cells #[.int .i64 sz, .slice A' l'.length c'] 97 (0, 0))) (h1 : l'.length ≤ c') (h2 : A' = none → c' = 0) (hv : ValsAt ok w A' l') (hg : w.grownBy w' (some a)) (hf : ∀ k, w.heap.size ≤ k → ok k) : quIn ok w' a (sz, l') :=
  ⟨fun k hk => hf k (Nat.le_trans hg.size hk), h0, A', c', hw', h1, h2, vals_other hv hw (by decide) hg⟩
theorem vals_tail {w : World} {g o : Nat} {x : Int} {xs : List Int} (c : Nat) (hc : xs.length + 1 ≤ c) (h : ValsAt ok w (some ⟨g, o, none⟩) (x :: xs)) : ValsAt ok w (some (if c = 1 then ⟨g, o, none⟩ else ⟨g, o + 1, none⟩)) xs := by
  obtain ⟨h0, h | ⟨g', o', cells, hA, hg, hv, hk⟩⟩ := h
  · cases h.1
  · obtain ⟨rfl, rfl⟩ : g = g' ∧ o = o' := by simpa using hA
    refine ⟨fun v hv => h0 v (List.mem_cons_of_mem _ hv), .inr ?_⟩
    by_cases h1 : c = 1
    · have : xs = [] := List.eq_nil_of_length_eq_zero (by omega)
      subst this
      exact ⟨g, o, cells, by rw [if_pos h1], hg, fun j v h => by simp at h, hk⟩
    · exact ⟨g, o + 1, cells, by rw [if_neg h1], hg, fun j v h => by have := hv (j + 1) v (by simpa using h); rwa [show o + 1 + j = o + (j + 1) by omega], hk⟩
theorem slice_from1 (g o n c : Nat) (h1 : n + 1 ≤ c) (w : World) : (Instr.slice 36 (.slice (some ⟨g, o, none⟩) (n + 1) c) (some (.int .i64 1)) none none).run Try.prog w = .ok (.slice (some (if c = 1 then ⟨g, o, none⟩ else ⟨g, o + 1, none⟩)) n (c - 1)) w := by
  have hu := run_underlying (P := Try.prog) Try.underlying36
  have hs : ∀ w, (sizeOf 53).run Try.prog w = .ok 1 w := fun w => by kernel_rfl
  simp [Instr.slice, Instr.sliceBounds, Instr.sliceBound, asIntOf, hu, hs]
  rw [if_pos (by omega)]
  by_cases h : c = 1 <;> simp [h, add_at]
theorem hp_drew {w : World} {g : Nat} {o : Obj} (h : w.heap[g]? = some o) : w.drew.heap[g]? = some o := h
theorem res_new (w : World) (A B : Obj) : ((w.alloc A).alloc B).heap[w.heap.size + 1]? = some B := (congrArg _ (by simp)).trans (heap_alloc_new (w.alloc A) B)
theorem new_at {W : World} {n : Nat} {x : Value} {t : TypeId} (h : W.heap[n]? = some (.cells #[x] t (0, 0))) : ∀ (j : Nat) (u : Value), [x][j]? = some u → W.cell? ((⟨n, 0, none⟩ : Addr).add j) = some u := by
  intro j u hj
  cases j with
  | zero => (simp at hj; subst hj; rw [add_at, hp_cell h]; rfl)
  | succ j => simp at hj
theorem enter_after {w W w1 : World} {a : Nat} {sz v : Int} {l : List Int} {A : Option Addr} {c : Nat} {v' : Value} (HH : w.heap[a]? = some (.cells #[.int .i64 sz, .slice A l.length c] 97 (0, 0))) (hb : Below w.heap.size w W)
    (hres : W.heap[w.heap.size + 1]? = some (.cells #[.int .u64 0, .bool false, .int .i64 0] 180 (0, 0))) (hown : w1.ownsRow W.heap.size 53 1 v' (l.length + 1) (valsC l ++ [.int .u64 v])) (hgrow : W.grownBy w1 none) (hl : ValsAt ok w A l) (hv : W64 v) (hf : ∀ k, w.heap.size ≤ k → ok k) :
    ∃ A' c', v' = .slice A' (l.length + 1) c' ∧ l.length + 1 ≤ c' ∧ Hid (A' = none → c' = 0) ∧ Hid (ValsAt ok w1 A' (l ++ [v])) ∧ Hid (w1.heap[a]? = some (.cells #[.int .i64 sz, .slice A l.length c] 97 (0, 0))) ∧ Hid (w1.heap[w.heap.size + 1]? = some (.cells #[.int .u64 0, .bool false, .int .i64 0] 180 (0, 0))) ∧ Hid (w.grownBy w1 (some a)) ∧
      w1.cell? ⟨a, 1, none⟩ = some (.slice A l.length c) ∧ w1.frozen? ⟨a, 1, none⟩ = false ∧ w1.cell? ⟨w.heap.size + 1, 0, none⟩ = some (.int .u64 0) ∧ w1.cell? ⟨w.heap.size + 1, 1, none⟩ = some (.bool false) ∧ w1.cell? ⟨w.heap.size + 1, 2, none⟩ = some (.int .i64 0) ∧
      w1.frozen? ⟨w.heap.size + 1, 0, none⟩ = false ∧ w1.frozen? ⟨w.heap.size + 1, 1, none⟩ = false ∧ w1.frozen? ⟨w.heap.size + 1, 2, none⟩ = false ∧ a < w.heap.size ∧ w.heap.size + 1 < w1.heap.size := by
  have h1 := hp_grown (hp_below HH hb) hgrow (by simp)
  have h2 := hp_grown hres hgrow (by simp)
  obtain ⟨A', c', rfl, k1, k2, k3, k4, k5⟩ := vals_own (l := l ++ [v]) (by rw [valsC_append]; exact hown) (by intro x hx; rcases List.mem_append.mp hx with h | h; exact hl.1 x h; rw [List.mem_singleton.mp h]; exact hv) (fun k hk => hf k (Nat.le_trans hb.size hk))
  simp only [List.length_append, List.length_singleton] at k1
  exact ⟨A', c', by simp, k1, k4, k3, h1, h2, gb_trans (gb_below hb) ⟨hgrow.os, hgrow.tape, hgrow.output, hgrow.size, fun k hk _ => hgrow.block k hk (by simp)⟩, hp_cell h1 1, hp_frozen h1 1, hp_cell h2 0, hp_cell h2 1, hp_cell h2 2, hp_frozen h2 0, hp_frozen h2 1, hp_frozen h2 2, hp_lt HH, hp_lt h2⟩
theorem enter_end {w1 : World} {a r : Nat} {sz v : Int} {l : List Int} {A A' : Option Addr} {c c' : Nat} {x y z : Value} (O : Obj) (u0 u1 u2 : Value) (q1 : l.length + 1 ≤ c') (q2 : A' = none → c' = 0) (q3 : ValsAt ok w1 A' (l ++ [v]))
    (q4 : w1.heap[a]? = some (.cells #[.int .i64 sz, .slice A l.length c] 97 (0, 0))) (q5 : w1.heap[r]? = some (.cells #[x, y, z] 180 (0, 0))) (hne : a ≠ r) (h0 : 0 ≤ sz ∧ sz ≤ 4 ∧ (l.length : Int) + 1 ≤ sz) (hf : ∀ k, w1.heap.size ≤ k → ok k) :
    quIn ok (((((w1.setCell ⟨a, 1, none⟩ (.slice A' (l.length + 1) c')).setCell ⟨r, 0, none⟩ u0).setCell ⟨r, 1, none⟩ u1).setCell ⟨r, 2, none⟩ u2).alloc O) a (sz, l ++ [v]) := by
  have x1 : (w1.setCell ⟨a, 1, none⟩ (.slice A' (l.length + 1) c')).heap[a]? = some (.cells #[.int .i64 sz, .slice A' (l ++ [v]).length c'] 97 (0, 0)) := hp_put q4 1 _ (by simp)
  have y1 : (w1.setCell ⟨a, 1, none⟩ (.slice A' (l.length + 1) c')).heap[r]? = some (.cells #[x, y, z] 180 (0, 0)) := hp_far q5 (fun h => hne h.symm) _
  have k1 := vals_far q3 q4 (by decide) 1 (.slice A' (l.length + 1) c')
  have y2 := hp_put30 y1 u0
  have k2 := vals_far k1 y1 (by decide) 0 u0
  have y3 := hp_put31 y2 u1
  have k3 := vals_far k2 y2 (by decide) 1 u1
  have k4 := vals_far k3 y3 (by decide) 2 u2
  exact ⟨fun k hk => hf k (by simp [World.setCell] at hk; omega), ⟨h0.1, h0.2.1, by simpa using h0.2.2⟩, A', c', hp_alloc (hp_far (hp_far (hp_far x1 hne _) hne _) hne _) O, by simpa using q1, q2, vals_below k4 ((Below.refl _ _).alloc (Nat.le_refl _) O)⟩
def quAt (ok : Nat → Prop) (w : World) (p a : Nat) (s : Int × List Int) : Prop := w.heap[p]? = some (.cells #[.iface 95 (.pointer (some ⟨a, 0, none⟩))] 91 (0, 0)) ∧ quIn ok w a s
theorem quAt_below {w w1 : World} {p a : Nat} {s : Int × List Int} (h : quAt ok w p a s) (hb : Below w.heap.size w w1) : quAt ok w1 p a s := ⟨hp_below h.1 hb, quIn_below h.2 hb⟩
theorem quAt_alloc {w : World} {p a : Nat} {s : Int × List Int} (h : quAt ok w p a s) (o : Obj) : quAt ok (w.alloc o) p a s := quAt_below h ((Below.refl _ _).alloc (Nat.le_refl _) o)
theorem quAt_drewN {w : World} {p a : Nat} {s : Int × List Int} (h : quAt ok w p a s) (n : Nat) : quAt ok (w.drewN n) p a s := quAt_below h ⟨rfl, rfl, rfl, Nat.le_refl _, fun _ _ => rfl⟩
theorem quAt_far {w : World} {p a g : Nat} {s : Int × List Int} {cs : Array Value} {t : TypeId} (h : quAt ok w p a s) (hg : w.heap[g]? = some (.cells cs t (0, 0))) (h1 : t ≠ 91) (h2 : t ≠ 97) (h3 : t ≠ 53) (j : Nat) (u : Value) : quAt ok (w.setCell ⟨g, j, none⟩ u) p a s :=
  ⟨hp_far h.1 (hp_ne h.1 hg h1.symm) u, quIn_far h.2 hg h2 h3 j u⟩
theorem quAt_other {w w1 : World} {p a g : Nat} {s : Int × List Int} {cs : Array Value} {t : TypeId} (h : quAt ok w p a s) (hg : w.heap[g]? = some (.cells cs t (0, 0))) (hgr : w.grownBy w1 (some g)) (h1 : t ≠ 91) (h2 : g ≠ a) (h3 : t ≠ 53) : quAt ok w1 p a s :=
  ⟨hp_grown h.1 hgr (by have := hp_ne h.1 hg h1.symm; simpa using this), quIn_other h.2 hg hgr h2 h3⟩

theorem quTakes (x : Value) (k : Int) (w : World) : Calls Try.prog 145 #[x, .int .u8 k] w fun e w' => e = .returned (.bool (quTk k)) ∧ w = w' := by
  unfold quTk
  cases h1 : (k == 5) <;> cases h2 : (k == 6)
  all_goals
    go_enter Try.func145, Try.ntmps145
    go_wp2
    go_ret
    exact ⟨by simp, rfl⟩
theorem quTakesO (p a : Nat) (s : Int × List Int) (k : Int) (w : World) (H : quAt ok w p a s) : Calls Try.prog 43 #[.pointer (some ⟨p, 0, none⟩), .int .u8 k] w fun e w' => e = .returned (.bool (quTk k)) ∧ w = w' := by
  have hc : w.cell? ⟨p, 0, none⟩ = some (.iface 95 (.pointer (some ⟨a, 0, none⟩))) := hp_cell H.1 0
  go_enter Try.func43, Try.ntmps43
  go_wp2_with (go_at_call 145; refine (quTakes _ _ _).mono ?_; rintro e w' ⟨rfl, rfl⟩)
  go_ret
  exact ⟨rfl, rfl⟩
def quDo (k who v : Int) (s : Int × List Int) : (Int × Bool × Int) × Int × List Int := bif badB (quTk k) k who v then (aErr 3, s) else quStep k who v s
theorem vals_new4 {w : World} {A : Option Addr} {l : List Int} {r : Nat} {x y z q : Value} {t : TypeId} (h : ValsAt ok w A l) (hr : w.heap[r]? = some (.cells #[x, y, z, q] t (0, 0))) (ht : t ≠ 53) (a b c d : Value) : ValsAt ok ((((w.setCell ⟨r, 0, none⟩ a).setCell ⟨r, 1, none⟩ b).setCell ⟨r, 2, none⟩ c).setCell ⟨r, 3, none⟩ d) A l := by
  have h1 := hp_put hr 0 a rfl
  have h2 := hp_put h1 1 b rfl
  have h3 := hp_put h2 2 c rfl
  exact vals_far (vals_far (vals_far (vals_far h hr ht 0 a) h1 ht 1 b) h2 ht 2 c) h3 ht 3 d
def QuShape (b : Nat) (s : Int × List Int) (e : Ending) (w' : World) : Prop := ∃ A' c', e = .returned (.agg #[.int .i64 (-1), .int .i64 0, .int .i64 0, .slice A' s.2.length c']) ∧ s.2.length ≤ c' ∧ (A' = none → c' = 0) ∧ ValsAt (fun k => b ≤ k) w' A' s.2
theorem ta_qu_0 (x : Addr) (w : World) : (Instr.typeAssert (.iface 95 (.pointer (some x))) 89 85 true).run Try.prog w = .ok (.tuple #[.pointer none, .bool false]) w := by kernel_rfl
theorem ta_qu_1 (x : Addr) (w : World) : (Instr.typeAssert (.iface 95 (.pointer (some x))) 89 92 true).run Try.prog w = .ok (.tuple #[.pointer none, .bool false]) w := by kernel_rfl
theorem ta_qu_2 (x : Addr) (w : World) : (Instr.typeAssert (.iface 95 (.pointer (some x))) 89 95 true).run Try.prog w = .ok (.tuple #[.pointer (some x), .bool true]) w := by kernel_rfl
end Go.Proofs.Ytmmfadakhnagpaa
