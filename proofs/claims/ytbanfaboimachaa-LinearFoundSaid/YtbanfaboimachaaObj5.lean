
/-
  A queue behind an interface: what its calls answer, and what becomes of its cells.
-/
import Derived.Test.YtbanfaboimachaaVals
import Derived.Deep.RegionHeld3
import Derived.Deep.RegionLawGrows
import Derived.Outline
namespace Go.Proofs.Ytbanfaboimachaa
open Go.RowKit
set_option linter.unusedSimpArgs false
set_option linter.unusedVariables false
variable {ok : Nat → Prop}

def quStep (k who v : Int) (s : Int × List Int) : (Int × Bool × Int) × (Int × List Int) :=
  bif k == 6 && decide (0 < s.2.length) then ((s.2.headD 0, false, 0), (s.1, s.2.tail)) else (bif k == 5 && decide ((s.2.length : Int) < s.1) then (aOne, (s.1, s.2 ++ [v])) else (aBlocks, s))
def quTk (k : Int) : Bool := k == 5 || k == 6
def quIn (ok : Nat → Prop) (w : World) (a : Nat) (s : Int × List Int) : Prop := (∀ k, w.heap.size ≤ k → ok k) ∧ (0 ≤ s.1 ∧ s.1 ≤ 4 ∧ (s.2.length : Int) ≤ s.1) ∧ ∃ A c, w.heap[a]? = some (.cells #[.int .i64 s.1, .slice A s.2.length c] 74 (0, 0)) ∧ s.2.length ≤ c ∧ (A = none → c = 0) ∧ ValsAt ok w A s.2
theorem quIn_lt {w : World} {a : Nat} {s : Int × List Int} (h : quIn ok w a s) : a < w.heap.size := by obtain ⟨_, _, A, c, h, _⟩ := h; exact hp_lt h
theorem quIn_below {w w1 : World} {a : Nat} {s : Int × List Int} (h : quIn ok w a s) (hb : Below w.heap.size w w1) : quIn ok w1 a s := by obtain ⟨hf, h0, A, c, h, h2, h3, h4⟩ := h; exact ⟨fun k hk => hf k (Nat.le_trans hb.size hk), h0, A, c, hp_below h hb, h2, h3, vals_below h4 hb⟩
theorem quIn_far {w : World} {a g : Nat} {s : Int × List Int} {cs : Array Value} {t : TypeId} (h : quIn ok w a s) (hg : w.heap[g]? = some (.cells cs t (0, 0))) (h2 : t ≠ 74) (h3 : t ≠ 37) (j : Nat) (u : Value) : quIn ok (w.setCell ⟨g, j, none⟩ u) a s := by
  obtain ⟨hf, h0, A, c, h, h5, h6, h7⟩ := h
  exact ⟨fun k hk => hf k (by simpa [World.setCell] using hk), h0, A, c, hp_far h (hp_ne h hg h2.symm) u, h5, h6, vals_far h7 hg h3 j u⟩
theorem quIn_other {w w1 : World} {a g : Nat} {s : Int × List Int} {cs : Array Value} {t : TypeId} (h : quIn ok w a s) (hg : w.heap[g]? = some (.cells cs t (0, 0))) (hgr : w.grownBy w1 (some g)) (h2 : g ≠ a) (h3 : t ≠ 37) : quIn ok w1 a s := by
  obtain ⟨hf, h0, A, c, h, h5, h6, h7⟩ := h
  exact ⟨fun k hk => hf k (Nat.le_trans hgr.size hk), h0, A, c, hp_grown h hgr (by simpa using h2.symm), h5, h6, vals_other h7 hg h3 hgr⟩
theorem qu_ne {w : World} {p a : Nat} {s : Int × List Int} (h : w.heap[p]? = some (.cells #[.iface 71 (.pointer (some ⟨a, 0, none⟩))] 67 (0, 0)) ∧ quIn ok w a s) : p ≠ a := by
  obtain ⟨h1, _, h0, A, c, h, _⟩ := h
  exact hp_ne h1 h (by decide)
theorem quIn_mk {w w' : World} {a : Nat} {sz : Int} {l l' : List Int} {A A' : Option Addr} {c c' : Nat} (h0 : 0 ≤ sz ∧ sz ≤ 4 ∧ (l'.length : Int) ≤ sz) (hw : w.heap[a]? = some (.cells #[.int .i64 sz, .slice A l.length c] 74 (0, 0))) (hw' : w'.heap[a]? = some (.cells #[.int .i64 sz, .slice A' l'.length c'] 74 (0, 0))) (h1 : l'.length ≤ c') (h2 : A' = none → c' = 0) (hv : ValsAt ok w A' l') (hg : w.grownBy w' (some a)) (hf : ∀ k, w.heap.size ≤ k → ok k) : quIn ok w' a (sz, l') :=
  ⟨fun k hk => hf k (Nat.le_trans hg.size hk), h0, A', c', hw', h1, h2, vals_other hv hw (by decide) hg⟩
theorem vals_tail {w : World} {g o : Nat} {x : Int} {xs : List Int} (c : Nat) (hc : xs.length + 1 ≤ c) (h : ValsAt ok w (some ⟨g, o, none⟩) (x :: xs)) : ValsAt ok w (some (if c = 1 then ⟨g, o, none⟩ else ⟨g, o + 1, none⟩)) xs := by
  obtain ⟨h0, h | ⟨g', o', cells, hA, hg, hv, hk⟩⟩ := h
  · cases h.1
  · obtain ⟨rfl, rfl⟩ : g = g' ∧ o = o' := by simpa using hA
    refine ⟨fun v hv => h0 v (List.mem_cons_of_mem _ hv), .inr ?_⟩
    by_cases h1 : c = 1
    · have : xs = [] := List.eq_nil_of_length_eq_zero (by omega)
      subst this
      exact ⟨g, o, cells, by rw [if_pos h1], hg, fun j v h => by simp at h, hk⟩
    · exact ⟨g, o + 1, cells, by rw [if_neg h1], hg, fun j v h => by have := hv (j + 1) v (by simpa using h); rwa [show o + 1 + j = o + (j + 1) by omega], hk⟩
theorem slice_from1 (g o n c : Nat) (h1 : n + 1 ≤ c) (w : World) : (Instr.slice 72 (.slice (some ⟨g, o, none⟩) (n + 1) c) (some (.int .i64 1)) none none).run Try.prog w = .ok (.slice (some (if c = 1 then ⟨g, o, none⟩ else ⟨g, o + 1, none⟩)) n (c - 1)) w := by
  have hu := run_underlying (P := Try.prog) Try.underlying72
  have hs : ∀ w, (sizeOf 37).run Try.prog w = .ok 1 w := fun w => by kernel_rfl
  simp [Instr.slice, Instr.sliceBounds, Instr.sliceBound, asIntOf, hu, hs]
  rw [if_pos (by omega)]
  by_cases h : c = 1 <;> simp [h, add_at]
theorem quCall_0 (a : Nat) (sz x : Int) (xs : List Int) (k who v : Int) (hv : W64 v) (w : World) (ha : quIn ok w a (sz, x :: xs)) (h6 : (k == 6) = true) :
    Calls Try.prog 77 #[.pointer (some ⟨a, 0, none⟩), callV k who v] w fun e w' =>
      e = .returned (ansV (quStep k who v (sz, x :: xs)).1) ∧ quIn ok w' a (quStep k who v (sz, x :: xs)).2 ∧ w.grownBy w' (some a) := by
  obtain ⟨hfr, h0, A, c, hh, h1, h2, hA⟩ := ha
  have HF := Lib.hid hfr
  clear hfr
  have hlt := hp_lt hh
  have c0 : w.cell? ⟨a, 0, none⟩ = some (.int .i64 sz) := hp_cell hh 0
  have c1 : w.cell? ⟨a, 1, none⟩ = some (.slice A (x :: xs).length c) := hp_cell hh 1
  have z0 : w.frozen? ⟨a, 0, none⟩ = false := hp_frozen hh 0
  have z1 : w.frozen? ⟨a, 1, none⟩ = false := hp_frozen hh 1
  have HH := Lib.hid hh
  have HV := Lib.hid hA
  clear hh hA
  have H2 := Lib.hid h2
  clear h2
  obtain ⟨g, o, cells, rfl, hg, hcs⟩ : ∃ g o cells, A = some ⟨g, o, none⟩ ∧ w.heap[g]? = some (.cells cells 37 (0, 0)) ∧ cells[o]? = some (.int .u64 x) := by
    obtain ⟨_, h | ⟨g, o, cells, hA, hg, hc, _⟩⟩ := HV.out
    · cases h.2
    · exact ⟨g, o, cells, hA, hg, hc 0 x rfl⟩
  have cx : w.cell? ⟨g, o, none⟩ = some (.int .u64 x) := (hp_cell hg o).trans hcs
  have lg := hp_lt hg
  simp only [List.length_cons] at c1 h1
  obtain ⟨o', hb⟩ : ∃ o', (if c = 1 then (⟨g, o, none⟩ : Addr) else ⟨g, o + 1, none⟩) = ⟨g, o', none⟩ := by
    by_cases h : c = 1
    · exact ⟨o, if_pos h⟩
    · exact ⟨o + 1, if_neg h⟩
  have hsl := slice_from1 g o xs.length c (by omega)
  have VT := vals_tail c h1 HV.out
  simp only [hb] at hsl VT
  have VT := Lib.hid VT
  clear hb
  have e0 : decide (0 < xs.length + 1) = true := decide_eq_true (by omega)
  have e1 : decide ((0 : Int) < ((xs.length + 1 : Nat) : Int)) = true := decide_eq_true (by omega)
  have l4 : xs.length + 1 ≤ 4 := by have := h0; simp only [List.length_cons] at this; omega
  have E : Hid _ := Lib.hid (show quStep k who v (sz, x :: xs) = ((x, false, 0), (sz, xs)) by simp [quStep, h6])
  have H0 := Lib.hid h0
  clear hg hcs h0
  unfold callV
  go_enter Try.func77, Try.ntmps77
  go_wp2_with fail
  go_returns
  rw [E.out]
  refine (fun G => ⟨rfl, quIn_mk (A := some ⟨g, o, none⟩) (l := x :: xs) (c := c) ⟨H0.out.1, H0.out.2.1, by have := H0.out.2.2; simp only [List.length_cons] at this; omega⟩ HH.out (by (repeat (with_reducible first | apply hp_alloc | apply hp_drewN | (refine hp_far ?_ (by simp; omega) _))); exact hp_put HH.out 1 _ rfl) (by omega) (fun h => by cases h) VT.out G HF.out, G⟩) ?_
  (repeat (with_reducible first | apply gb_alloc | apply gb_drewN | apply gb_set | (refine gb_new ?_ (by simp) _))); exact gb_refl _ _
theorem quCall_1 (a : Nat) (sz : Int) (l : List Int) (k who v : Int) (hv : W64 v) (w : World) (ha : quIn ok w a (sz, l)) (hl : l = []) (h6 : (k == 6) = true) :
    Calls Try.prog 77 #[.pointer (some ⟨a, 0, none⟩), callV k who v] w fun e w' =>
      e = .returned (ansV (quStep k who v (sz, l)).1) ∧ quIn ok w' a (quStep k who v (sz, l)).2 ∧ w.grownBy w' (some a) := by
  obtain ⟨hfr, h0, A, c, hh, h1, h2, hA⟩ := ha
  have HF := Lib.hid hfr
  clear hfr
  have hlt := hp_lt hh
  have c0 : w.cell? ⟨a, 0, none⟩ = some (.int .i64 sz) := hp_cell hh 0
  have c1 : w.cell? ⟨a, 1, none⟩ = some (.slice A l.length c) := hp_cell hh 1
  have z0 : w.frozen? ⟨a, 0, none⟩ = false := hp_frozen hh 0
  have z1 : w.frozen? ⟨a, 1, none⟩ = false := hp_frozen hh 1
  have HH := Lib.hid hh
  have HV := Lib.hid hA
  clear hh hA
  have l4 : (l.length : Int) ≤ 4 := by have := h0; dsimp only at this; omega
  have H0 := Lib.hid h0
  have H2 := Lib.hid h2
  clear h0 h2
  obtain rfl := eq_of_beq h6
  subst hl
  have E : Hid _ := Lib.hid (show quStep 6 who v (sz, []) = (aBlocks, (sz, [])) by simp [quStep, h6])
  unfold callV
  go_enter Try.func77, Try.ntmps77
  go_wp2_with fail
  go_quiet (fail)
  go_wp2
  go_returns
  rw [E.out]
  refine (fun G => ⟨rfl, quIn_mk (A := A) (l := []) (c := c) H0.out HH.out (by (repeat (with_reducible first | apply hp_alloc | apply hp_drewN | (refine hp_far ?_ (by simp; omega) _))); exact HH.out) h1 H2.out HV.out G HF.out, G⟩) ?_
  (repeat (with_reducible first | apply gb_alloc | apply gb_drewN | apply gb_set | (refine gb_new ?_ (by simp) _))); exact gb_refl _ _
theorem quCall_3 (a : Nat) (sz : Int) (l : List Int) (k who v : Int) (hv : W64 v) (w : World) (ha : quIn ok w a (sz, l)) (h6 : (k == 6) = false) (h5 : (k == 5) = true) (hf : decide ((l.length : Int) < sz) = false) :
    Calls Try.prog 77 #[.pointer (some ⟨a, 0, none⟩), callV k who v] w fun e w' =>
      e = .returned (ansV (quStep k who v (sz, l)).1) ∧ quIn ok w' a (quStep k who v (sz, l)).2 ∧ w.grownBy w' (some a) := by
  obtain ⟨hfr, h0, A, c, hh, h1, h2, hA⟩ := ha
  have HF := Lib.hid hfr
  clear hfr
  have hlt := hp_lt hh
  have c0 : w.cell? ⟨a, 0, none⟩ = some (.int .i64 sz) := hp_cell hh 0
  have c1 : w.cell? ⟨a, 1, none⟩ = some (.slice A l.length c) := hp_cell hh 1
  have z0 : w.frozen? ⟨a, 0, none⟩ = false := hp_frozen hh 0
  have z1 : w.frozen? ⟨a, 1, none⟩ = false := hp_frozen hh 1
  have HH := Lib.hid hh
  have HV := Lib.hid hA
  clear hh hA
  have l4 : (l.length : Int) ≤ 4 := by have := h0; dsimp only at this; omega
  have H0 := Lib.hid h0
  have H2 := Lib.hid h2
  clear h0 h2
  have E : Hid _ := Lib.hid (show quStep k who v (sz, l) = (aBlocks, (sz, l)) by simp [quStep, h6, h5, hf])
  unfold callV
  go_enter Try.func77, Try.ntmps77
  go_wp2_with fail
  go_quiet (fail)
  go_wp2
  go_returns
  rw [E.out]
  refine (fun G => ⟨rfl, quIn_mk (A := A) (l := l) (c := c) H0.out HH.out (by (repeat (with_reducible first | apply hp_alloc | apply hp_drewN | (refine hp_far ?_ (by simp; omega) _))); exact HH.out) h1 H2.out HV.out G HF.out, G⟩) ?_
  (repeat (with_reducible first | apply gb_alloc | apply gb_drewN | apply gb_set | (refine gb_new ?_ (by simp) _))); exact gb_refl _ _
theorem quCall_4 (a : Nat) (sz : Int) (l : List Int) (k who v : Int) (hv : W64 v) (w : World) (ha : quIn ok w a (sz, l)) (h6 : (k == 6) = false) (h5 : (k == 5) = false) :
    Calls Try.prog 77 #[.pointer (some ⟨a, 0, none⟩), callV k who v] w fun e w' =>
      e = .returned (ansV (quStep k who v (sz, l)).1) ∧ quIn ok w' a (quStep k who v (sz, l)).2 ∧ w.grownBy w' (some a) := by
  obtain ⟨hfr, h0, A, c, hh, h1, h2, hA⟩ := ha
  have HF := Lib.hid hfr
  clear hfr
  have hlt := hp_lt hh
  have c0 : w.cell? ⟨a, 0, none⟩ = some (.int .i64 sz) := hp_cell hh 0
  have c1 : w.cell? ⟨a, 1, none⟩ = some (.slice A l.length c) := hp_cell hh 1
  have z0 : w.frozen? ⟨a, 0, none⟩ = false := hp_frozen hh 0
  have z1 : w.frozen? ⟨a, 1, none⟩ = false := hp_frozen hh 1
  have HH := Lib.hid hh
  have HV := Lib.hid hA
  clear hh hA
  have l4 : (l.length : Int) ≤ 4 := by have := h0; dsimp only at this; omega
  have H0 := Lib.hid h0
  have H2 := Lib.hid h2
  clear h0 h2
  have E : Hid _ := Lib.hid (show quStep k who v (sz, l) = (aBlocks, (sz, l)) by simp [quStep, h6, h5])
  unfold callV
  go_enter Try.func77, Try.ntmps77
  go_wp2_with fail
  go_quiet (fail)
  go_wp2
  go_returns
  rw [E.out]
  refine (fun G => ⟨rfl, quIn_mk (A := A) (l := l) (c := c) H0.out HH.out (by (repeat (with_reducible first | apply hp_alloc | apply hp_drewN | (refine hp_far ?_ (by simp; omega) _))); exact HH.out) h1 H2.out HV.out G HF.out, G⟩) ?_
  (repeat (with_reducible first | apply gb_alloc | apply gb_drewN | apply gb_set | (refine gb_new ?_ (by simp) _))); exact gb_refl _ _
theorem hp_drew {w : World} {g : Nat} {o : Obj} (h : w.heap[g]? = some o) : w.drew.heap[g]? = some o := h
theorem res_new (w : World) (A B : Obj) : ((w.alloc A).alloc B).heap[w.heap.size + 1]? = some B := (congrArg _ (by simp)).trans (heap_alloc_new (w.alloc A) B)
theorem new_at {W : World} {n : Nat} {x : Value} {t : TypeId} (h : W.heap[n]? = some (.cells #[x] t (0, 0))) : ∀ (j : Nat) (u : Value), [x][j]? = some u → W.cell? ((⟨n, 0, none⟩ : Addr).add j) = some u := by
  intro j u hj
  cases j with
  | zero => (simp at hj; subst hj; rw [add_at, hp_cell h]; rfl)
  | succ j => simp at hj
theorem enter_after {w W w1 : World} {a : Nat} {sz v : Int} {l : List Int} {A : Option Addr} {c : Nat} {v' : Value} (HH : w.heap[a]? = some (.cells #[.int .i64 sz, .slice A l.length c] 74 (0, 0))) (hb : Below w.heap.size w W)
    (hres : W.heap[w.heap.size + 1]? = some (.cells #[.int .u64 0, .bool false, .int .i64 0] 83 (0, 0))) (hown : w1.ownsRow W.heap.size 37 1 v' (l.length + 1) (valsC l ++ [.int .u64 v])) (hgrow : W.grownBy w1 none) (hl : ValsAt ok w A l) (hv : W64 v) (hf : ∀ k, w.heap.size ≤ k → ok k) :
    ∃ A' c', v' = .slice A' (l.length + 1) c' ∧ l.length + 1 ≤ c' ∧ Hid (A' = none → c' = 0) ∧ Hid (ValsAt ok w1 A' (l ++ [v])) ∧ Hid (w1.heap[a]? = some (.cells #[.int .i64 sz, .slice A l.length c] 74 (0, 0))) ∧ Hid (w1.heap[w.heap.size + 1]? = some (.cells #[.int .u64 0, .bool false, .int .i64 0] 83 (0, 0))) ∧ Hid (w.grownBy w1 (some a)) ∧
      w1.cell? ⟨a, 1, none⟩ = some (.slice A l.length c) ∧ w1.frozen? ⟨a, 1, none⟩ = false ∧ w1.cell? ⟨w.heap.size + 1, 0, none⟩ = some (.int .u64 0) ∧ w1.cell? ⟨w.heap.size + 1, 1, none⟩ = some (.bool false) ∧ w1.cell? ⟨w.heap.size + 1, 2, none⟩ = some (.int .i64 0) ∧
      w1.frozen? ⟨w.heap.size + 1, 0, none⟩ = false ∧ w1.frozen? ⟨w.heap.size + 1, 1, none⟩ = false ∧ w1.frozen? ⟨w.heap.size + 1, 2, none⟩ = false ∧ a < w.heap.size ∧ w.heap.size + 1 < w1.heap.size := by
  have h1 := hp_grown (hp_below HH hb) hgrow (by simp)
  have h2 := hp_grown hres hgrow (by simp)
  obtain ⟨A', c', rfl, k1, k2, k3, k4, k5⟩ := vals_own (l := l ++ [v]) (by rw [valsC_append]; exact hown) (by intro x hx; rcases List.mem_append.mp hx with h | h; exact hl.1 x h; rw [List.mem_singleton.mp h]; exact hv) (fun k hk => hf k (Nat.le_trans hb.size hk))
  simp only [List.length_append, List.length_singleton] at k1
  exact ⟨A', c', by simp, k1, k4, k3, h1, h2, gb_trans (gb_below hb) ⟨hgrow.os, hgrow.tape, hgrow.output, hgrow.size, fun k hk _ => hgrow.block k hk (by simp)⟩, hp_cell h1 1, hp_frozen h1 1, hp_cell h2 0, hp_cell h2 1, hp_cell h2 2, hp_frozen h2 0, hp_frozen h2 1, hp_frozen h2 2, hp_lt HH, hp_lt h2⟩
theorem enter_end {w1 : World} {a r : Nat} {sz v : Int} {l : List Int} {A A' : Option Addr} {c c' : Nat} {x y z : Value} (O : Obj) (u0 u1 u2 : Value) (q1 : l.length + 1 ≤ c') (q2 : A' = none → c' = 0) (q3 : ValsAt ok w1 A' (l ++ [v]))
    (q4 : w1.heap[a]? = some (.cells #[.int .i64 sz, .slice A l.length c] 74 (0, 0))) (q5 : w1.heap[r]? = some (.cells #[x, y, z] 83 (0, 0))) (hne : a ≠ r) (h0 : 0 ≤ sz ∧ sz ≤ 4 ∧ (l.length : Int) + 1 ≤ sz) (hf : ∀ k, w1.heap.size ≤ k → ok k) :
    quIn ok (((((w1.setCell ⟨a, 1, none⟩ (.slice A' (l.length + 1) c')).setCell ⟨r, 0, none⟩ u0).setCell ⟨r, 1, none⟩ u1).setCell ⟨r, 2, none⟩ u2).alloc O) a (sz, l ++ [v]) := by
  have x1 : (w1.setCell ⟨a, 1, none⟩ (.slice A' (l.length + 1) c')).heap[a]? = some (.cells #[.int .i64 sz, .slice A' (l ++ [v]).length c'] 74 (0, 0)) := hp_put q4 1 _ (by simp)
  have y1 : (w1.setCell ⟨a, 1, none⟩ (.slice A' (l.length + 1) c')).heap[r]? = some (.cells #[x, y, z] 83 (0, 0)) := hp_far q5 (fun h => hne h.symm) _
  have k1 := vals_far q3 q4 (by decide) 1 (.slice A' (l.length + 1) c')
  have y2 := hp_put30 y1 u0
  have k2 := vals_far k1 y1 (by decide) 0 u0
  have y3 := hp_put31 y2 u1
  have k3 := vals_far k2 y2 (by decide) 1 u1
  have k4 := vals_far k3 y3 (by decide) 2 u2
  exact ⟨fun k hk => hf k (by simp [World.setCell] at hk; omega), ⟨h0.1, h0.2.1, by simpa using h0.2.2⟩, A', c', hp_alloc (hp_far (hp_far (hp_far x1 hne _) hne _) hne _) O, by simpa using q1, q2, vals_below k4 ((Below.refl _ _).alloc (Nat.le_refl _) O)⟩
set_option maxHeartbeats 3200000 in
theorem quCall_2 (a : Nat) (sz : Int) (l : List Int) (k who v : Int) (hv : W64 v) (w : World) (ha : quIn ok w a (sz, l)) (h6 : (k == 6) = false) (h5 : (k == 5) = true) (hf : decide ((l.length : Int) < sz) = true) :
    Calls Try.prog 77 #[.pointer (some ⟨a, 0, none⟩), callV k who v] w fun e w' =>
      e = .returned (ansV (quStep k who v (sz, l)).1) ∧ quIn ok w' a (quStep k who v (sz, l)).2 ∧ w.grownBy w' (some a) := by
  obtain ⟨hfr, h0, A, c, hh, h1, h2, hA⟩ := ha
  have HF := Lib.hid hfr
  clear hfr
  have hlt := hp_lt hh
  have c0 : w.cell? ⟨a, 0, none⟩ = some (.int .i64 sz) := hp_cell hh 0
  have c1 : w.cell? ⟨a, 1, none⟩ = some (.slice A l.length c) := hp_cell hh 1
  have z0 : w.frozen? ⟨a, 0, none⟩ = false := hp_frozen hh 0
  have z1 : w.frozen? ⟨a, 1, none⟩ = false := hp_frozen hh 1
  have HH := Lib.hid hh
  have HV := Lib.hid hA
  clear hh hA
  have l4 : (l.length : Int) ≤ 4 := by have := h0; dsimp only at this; omega
  have H0 := Lib.hid h0
  have H2 := Lib.hid h2
  clear h0 h2
  have E : Hid _ := Lib.hid (show quStep k who v (sz, l) = (aOne, (sz, l ++ [v])) by simp [quStep, h6, h5, hf])
  have hlt4 : (l.length : Int) < sz := of_decide_eq_true hf
  have HLT := Lib.hid hlt4
  clear hlt4
  obtain ⟨i0, hi, hz0, hz1, hz2⟩ := info_parts Val_info
  have HI := Lib.hid hi
  have HZ0 := Lib.hid hz0
  have HZ1 := Lib.hid hz1
  have HZ2 := Lib.hid hz2
  clear hi hz0 hz1 hz2
  unfold callV
  go_enter Try.func77, Try.ntmps77
  go_wp2_with fail
  go_quiet (fail)
  go_wp2_with fail
  have hb0 : Below w.heap.size w (((w.alloc (.cells #[.int .u8 k, .int .i64 who, .int .u64 v] 39)).alloc (.cells #[.int .u64 0, .bool false, .int .i64 0] 83)).drewN nq) := bl_drewN (((Below.refl _ _).alloc (Nat.le_refl _) _).alloc (by simp) _) nq
  have hr0 : (((w.alloc (.cells #[.int .u8 k, .int .i64 who, .int .u64 v] 39)).alloc (.cells #[.int .u64 0, .bool false, .int .i64 0] 83)).drewN nq).heap[w.heap.size + 1]? = some (.cells #[.int .u64 0, .bool false, .int .i64 0] 83 (0, 0)) := res_new _ _ _
  have hx0 : (((w.alloc (.cells #[.int .u8 k, .int .i64 who, .int .u64 v] 39)).alloc (.cells #[.int .u64 0, .bool false, .int .i64 0] 83)).drewN nq).heap[w.heap.size]? = some (.cells #[.int .u8 k, .int .i64 who, .int .u64 v] 39 (0, 0)) := hp_drewN (hp_alloc (heap_alloc_new w _) _) nq
  clear c0 c1 z0 z1
  generalize ((w.alloc (.cells #[.int .u8 k, .int .i64 who, .int .u64 v] 39)).alloc (.cells #[.int .u64 0, .bool false, .int .i64 0] 83)).drewN nq = W0 at *
  have HB0 := Lib.hid hb0
  have HR0 := Lib.hid hr0
  have c1 : W0.cell? ⟨a, 1, none⟩ = some (.slice A l.length c) := hp_cell (hp_below HH.out hb0) 1
  have cx : W0.cell? ⟨w.heap.size, 2, none⟩ = some (.int .u64 v) := hp_cell hx0 2
  have la := hp_lt (hp_below HH.out hb0)
  have lr := hp_lt hr0
  have lx := hp_lt hx0
  clear hb0 hr0 hx0
  go_region_law (first | (refine step_append_grows rfl (.tmp 55) (.tmp 58) 72 rfl 37 i0 (.int .u64 0) 1 8 Try.underlying72 HI.out HZ0.out HZ1.out HZ2.out rfl (by decide) A l.length l.length (valsC l) (by rfl) (fun h => ⟨by have := vals_none (h ▸ HV.out); simp [this], by have := vals_none (h ▸ HV.out); simp [this]⟩) (by rw [valsC_len, Nat.mul_one]) (fun b hb j u hj => vals_cell (hb ▸ vals_below HV.out (by (repeat (with_reducible first | (refine bl_alloc ?_ (by first | omega | (simp; done) | (simp; omega)) _) | apply bl_drewN | apply Below.drew | (refine bl_new ?_ (by simp) _))); exact HB0.out)) j u hj) _ 1 1 [.int .u64 v] (by rfl) (by rfl) (new_at (by first | exact (congrArg _ (by simp)).trans (heap_alloc_new _ _))) (by simp [Value.oneCell']) (by omega) (by unfold maxLen; omega) (by omega) ?_; intro v' w1 hown hgrow; obtain ⟨A', c', rfl, q1, q2, q3, q4, q5, q6, r1, r2, r3, r4, r5, r6, r7, r8, r9, r10⟩ := enter_after HH.out (by (repeat (with_reducible first | (refine bl_alloc ?_ (by first | omega | (simp; done) | (simp; omega)) _) | apply bl_drewN | apply Below.drew | (refine bl_new ?_ (by simp) _))); exact HB0.out) (by (repeat (first | with_reducible apply hp_alloc | with_reducible apply hp_drewN | with_reducible apply hp_drew)); exact HR0.out) hown hgrow HV.out hv HF.out; clear hown hgrow) | (go_simp; go_at_call 81; refine (clip_any A l.length c h1 H2.out _).mono ?_; rintro e w' ⟨rfl, rfl⟩))
  all_goals
    clear c1 cx la lr lx
    go_wp2
    refine bodyPost_ret (by simp [results, Try.results77, go_sem, *]; try rfl) rfl ?_
    rw [E.out]
    refine ⟨rfl, enter_end _ _ _ _ q1 q2.out q3.out q4.out q5.out (by omega) ⟨H0.out.1, H0.out.2.1, by have := HLT.out; omega⟩ (fun k hk => HF.out k (Nat.le_trans q6.out.size hk)), ?_⟩
    (repeat (with_reducible first | apply gb_alloc | apply gb_drewN | apply gb_set | (refine gb_new ?_ (by simp) _))); exact q6.out
theorem quCall (a : Nat) (s : Int × List Int) (k who v : Int) (hv : W64 v) (w : World) (ha : quIn ok w a s) :
    Calls Try.prog 77 #[.pointer (some ⟨a, 0, none⟩), callV k who v] w fun e w' =>
      e = .returned (ansV (quStep k who v s).1) ∧ quIn ok w' a (quStep k who v s).2 ∧ w.grownBy w' (some a) := by
  obtain ⟨sz, l⟩ := s
  cases h6 : (k == 6)
  · cases h5 : (k == 5)
    · exact quCall_4 a sz l k who v hv w ha h6 h5
    · cases hf : decide ((l.length : Int) < sz)
      · exact quCall_3 a sz l k who v hv w ha h6 h5 hf
      · exact quCall_2 a sz l k who v hv w ha h6 h5 hf
  · cases l with
    | nil => exact quCall_1 a sz [] k who v hv w ha rfl h6
    | cons x xs => exact quCall_0 a sz x xs k who v hv w ha h6

def quAt (ok : Nat → Prop) (w : World) (p a : Nat) (s : Int × List Int) : Prop := w.heap[p]? = some (.cells #[.iface 71 (.pointer (some ⟨a, 0, none⟩))] 67 (0, 0)) ∧ quIn ok w a s
theorem quAt_below {w w1 : World} {p a : Nat} {s : Int × List Int} (h : quAt ok w p a s) (hb : Below w.heap.size w w1) : quAt ok w1 p a s := ⟨hp_below h.1 hb, quIn_below h.2 hb⟩
theorem quAt_alloc {w : World} {p a : Nat} {s : Int × List Int} (h : quAt ok w p a s) (o : Obj) : quAt ok (w.alloc o) p a s := quAt_below h ((Below.refl _ _).alloc (Nat.le_refl _) o)
theorem quAt_drewN {w : World} {p a : Nat} {s : Int × List Int} (h : quAt ok w p a s) (n : Nat) : quAt ok (w.drewN n) p a s := quAt_below h ⟨rfl, rfl, rfl, Nat.le_refl _, fun _ _ => rfl⟩
theorem quAt_far {w : World} {p a g : Nat} {s : Int × List Int} {cs : Array Value} {t : TypeId} (h : quAt ok w p a s) (hg : w.heap[g]? = some (.cells cs t (0, 0))) (h1 : t ≠ 67) (h2 : t ≠ 74) (h3 : t ≠ 37) (j : Nat) (u : Value) : quAt ok (w.setCell ⟨g, j, none⟩ u) p a s :=
  ⟨hp_far h.1 (hp_ne h.1 hg h1.symm) u, quIn_far h.2 hg h2 h3 j u⟩
theorem quAt_other {w w1 : World} {p a g : Nat} {s : Int × List Int} {cs : Array Value} {t : TypeId} (h : quAt ok w p a s) (hg : w.heap[g]? = some (.cells cs t (0, 0))) (hgr : w.grownBy w1 (some g)) (h1 : t ≠ 67) (h2 : g ≠ a) (h3 : t ≠ 37) : quAt ok w1 p a s :=
  ⟨hp_grown h.1 hgr (by have := hp_ne h.1 hg h1.symm; simpa using this), quIn_other h.2 hg hgr h2 h3⟩

theorem quTakes (x : Value) (k : Int) (w : World) : Calls Try.prog 80 #[x, .int .u8 k] w fun e w' => e = .returned (.bool (quTk k)) ∧ w = w' := by
  unfold quTk
  cases h1 : (k == 5) <;> cases h2 : (k == 6)
  all_goals
    go_enter Try.func80, Try.ntmps80
    go_wp2
    go_ret
    exact ⟨by simp, rfl⟩
theorem quTakesO (p a : Nat) (s : Int × List Int) (k : Int) (w : World) (H : quAt ok w p a s) : Calls Try.prog 39 #[.pointer (some ⟨p, 0, none⟩), .int .u8 k] w fun e w' => e = .returned (.bool (quTk k)) ∧ w = w' := by
  have hc : w.cell? ⟨p, 0, none⟩ = some (.iface 71 (.pointer (some ⟨a, 0, none⟩))) := hp_cell H.1 0
  go_enter Try.func39, Try.ntmps39
  go_wp2_with (go_at_call 80; refine (quTakes _ _ _).mono ?_; rintro e w' ⟨rfl, rfl⟩)
  go_ret
  exact ⟨rfl, rfl⟩
set_option maxRecDepth 100000 in
theorem quDo_ok (p a : Nat) (s : Int × List Int) (k who v : Int) (hv : W64 v) (w : World) (H : quAt ok w p a s) (h1 : quTk k = true) (h2 : decide (who < 0) = false) (h3 : decide (4 ≤ who) = false) (h4 : fitsB k v = true) :
    Calls Try.prog 34 #[.pointer (some ⟨p, 0, none⟩), callV k who v] w fun e w' => e = .returned (ansV (quStep k who v s).1) ∧ quAt ok w' p a (quStep k who v s).2 ∧ w.grownBy w' (some a) := by
  have hne : p ≠ a := qu_ne H
  have hl := hp_lt H.1
  have hl' := quIn_lt H.2
  have HH := Lib.hid H
  clear H
  unfold callV
  go_enter Try.func34, Try.ntmps34
  go_wp2_with (first | (go_at_call 39; refine (quTakesO p a s k _ (quAt_alloc (quAt_alloc HH.out _) _)).mono ?_; rintro e w' ⟨rfl, rfl⟩) | (go_at_call 40; refine (fits_any k who v hv _).mono ?_; rintro e w1 ⟨rfl, hb⟩))
  have h1_ := quAt_below (quAt_alloc (quAt_alloc HH.out _) _) hb
  have hx : w1.heap[w.heap.size]? = some (.cells #[.int .u8 k, .int .i64 who, .int .u64 v] 39 (0, 0)) := hp_below (hp_alloc (heap_alloc_new w _) _) hb
  have hy : w1.heap[w.heap.size + 1]? = some (.cells #[.int .u64 0, .bool false, .int .i64 0] 83 (0, 0)) := hp_below ((congrArg _ (by simp)).trans (heap_alloc_new (w.alloc _) _)) hb
  have hg : w.grownBy w1 (some a) := gb_trans (gb_alloc (gb_alloc (gb_refl w _) _) _) (gb_below hb)
  have hcp : w1.cell? ⟨p, 0, none⟩ = some (.iface 71 (.pointer (some ⟨a, 0, none⟩))) := hp_cell h1_.1 0
  have hx0 : w1.cell? ⟨w.heap.size, 0, none⟩ = some (.int .u8 k) := hp_cell hx 0
  have hx1 : w1.cell? ⟨w.heap.size, 1, none⟩ = some (.int .i64 who) := hp_cell hx 1
  have hx2 : w1.cell? ⟨w.heap.size, 2, none⟩ = some (.int .u64 v) := hp_cell hx 2
  have HA := Lib.hid h1_
  have HY := Lib.hid hy
  have HL : Hid _ := Lib.hid (show a ≠ w.heap.size + 1 ∧ p ≠ w.heap.size + 1 by omega)
  clear h1_ hx hy hb hl hl'
  go_still_tail 5, (by kernel_rfl)
  go_wp2_with (go_at_call 77; refine (quCall a s k who v hv w1.drew (quIn_below HA.out.2 ⟨rfl, rfl, rfl, Nat.le_refl _, fun _ _ => rfl⟩)).mono ?_; rintro e w2 ⟨he, ha2, hg2⟩; simp only [ansV] at he; subst he; have hy2 := hp_grown (w := w1.drew) HY.out hg2 (by have := HL.out; simp; omega); have y0 : w2.cell? ⟨w.heap.size + 1, 0, none⟩ = some (.int .u64 0) := hp_cell hy2 0; have y1 : w2.cell? ⟨w.heap.size + 1, 1, none⟩ = some (.bool false) := hp_cell hy2 1; have y2 : w2.cell? ⟨w.heap.size + 1, 2, none⟩ = some (.int .i64 0) := hp_cell hy2 2; have z0 := hp_frozen hy2 0; have z1 := hp_frozen hy2 1; have z2 := hp_frozen hy2 2; have HY2 := Lib.hid hy2; have HA2 := Lib.hid ha2; clear hy2 ha2)
  refine bodyPost_ret (by simp [results, Try.results34, go_sem, y0, y1, y2]; try rfl) rfl ?_
  have hA2 : quAt ok w2 p a (quStep k who v s).2 := ⟨hp_grown (w := w1.drew) HA.out.1 hg2 (by simp; omega), HA2.out⟩
  refine ⟨rfl, quAt_far (quAt_far (quAt_far hA2 HY2.out (by decide) (by decide) (by decide) 0 _) (hp_put30 HY2.out _) (by decide) (by decide) (by decide) 1 _) (hp_put31 (hp_put30 HY2.out _) _) (by decide) (by decide) (by decide) 2 _, ?_⟩
  (repeat (with_reducible refine gb_new ?_ (by simp) _)); exact gb_trans hg (gb_trans (gb_drew (gb_refl _ _)) hg2)
theorem quDo_bad1 (p a : Nat) (s : Int × List Int) (k who v : Int) (w : World) (H : quAt ok w p a s) (h : quTk k = false ∨ (quTk k = true ∧ decide (who < 0) = true) ∨ (quTk k = true ∧ decide (who < 0) = false ∧ decide (4 ≤ who) = true)) :
    Calls Try.prog 34 #[.pointer (some ⟨p, 0, none⟩), callV k who v] w fun e w' => e = .returned (ansV (aErr 3)) ∧ quAt ok w' p a s ∧ w.grownBy w' (some a) := by
  have HH := Lib.hid H
  clear H
  unfold callV
  rcases h with h1 | ⟨h1, h2⟩ | ⟨h1, h2, h3⟩
  all_goals
    go_enter Try.func34, Try.ntmps34
    go_wp2_with (go_at_call 39; refine (quTakesO p a s k _ (quAt_alloc (quAt_alloc HH.out _) _)).mono ?_; rintro e w' ⟨rfl, rfl⟩)
    go_returns
    exact ⟨rfl, by (repeat with_reducible apply quAt_alloc); exact HH.out, by (repeat (with_reducible first | apply gb_alloc | apply gb_drewN | apply gb_set | (refine gb_new ?_ (by simp) _))); exact gb_refl _ _⟩
theorem quDo_bad2 (p a : Nat) (s : Int × List Int) (k who v : Int) (hv : W64 v) (w : World) (H : quAt ok w p a s) (h1 : quTk k = true) (h2 : decide (who < 0) = false) (h3 : decide (4 ≤ who) = false) (h4 : fitsB k v = false) :
    Calls Try.prog 34 #[.pointer (some ⟨p, 0, none⟩), callV k who v] w fun e w' => e = .returned (ansV (aErr 3)) ∧ quAt ok w' p a s ∧ w.grownBy w' (some a) := by
  have HH := Lib.hid H
  clear H
  unfold callV
  go_enter Try.func34, Try.ntmps34
  go_wp2_with (first | (go_at_call 39; refine (quTakesO p a s k _ (quAt_alloc (quAt_alloc HH.out _) _)).mono ?_; rintro e w' ⟨rfl, rfl⟩) | (go_at_call 40; refine (fits_any k who v hv _).mono ?_; rintro e w1 ⟨rfl, hb⟩; have HA := Lib.hid (quAt_below (quAt_alloc (quAt_alloc HH.out _) _) hb); have hy : w1.heap[w.heap.size + 1]? = some (.cells #[.int .u64 0, .bool false, .int .i64 0] 83 (0, 0)) := hp_below ((congrArg _ (by simp)).trans (heap_alloc_new (w.alloc _) _)) hb; have hg : w.grownBy w1 (some a) := gb_trans (gb_alloc (gb_alloc (gb_refl w _) _) _) (gb_below hb); have y0 : w1.cell? ⟨w.heap.size + 1, 0, none⟩ = some (.int .u64 0) := hp_cell hy 0; have y1 : w1.cell? ⟨w.heap.size + 1, 1, none⟩ = some (.bool false) := hp_cell hy 1; have y2 : w1.cell? ⟨w.heap.size + 1, 2, none⟩ = some (.int .i64 0) := hp_cell hy 2; have z0 := hp_frozen hy 0; have z1 := hp_frozen hy 1; have z2 := hp_frozen hy 2; have HY := Lib.hid hy; clear hy hb))
  refine bodyPost_ret (by simp [results, Try.results34, go_sem, y0, y1, y2]; try rfl) rfl ?_
  refine ⟨rfl, quAt_far (quAt_far (quAt_far HA.out HY.out (by decide) (by decide) (by decide) 0 _) (hp_put30 HY.out _) (by decide) (by decide) (by decide) 1 _) (hp_put31 (hp_put30 HY.out _) _) (by decide) (by decide) (by decide) 2 _, ?_⟩
  (repeat (with_reducible refine gb_new ?_ (by simp) _)); exact hg
def quDo (k who v : Int) (s : Int × List Int) : (Int × Bool × Int) × Int × List Int := bif badB (quTk k) k who v then (aErr 3, s) else quStep k who v s
theorem quDo_any (p a : Nat) (s : Int × List Int) (k who v : Int) (hv : W64 v) (w : World) (H : quAt ok w p a s) :
    Calls Try.prog 34 #[.pointer (some ⟨p, 0, none⟩), callV k who v] w fun e w' => e = .returned (ansV (quDo k who v s).1) ∧ quAt ok w' p a (quDo k who v s).2 ∧ w.grownBy w' (some a) := by
  unfold quDo badB
  cases h1 : quTk k
  · exact quDo_bad1 p a s k who v w H (.inl h1)
  · cases h2 : decide (who < 0)
    · cases h3 : decide (4 ≤ who)
      · cases h4 : fitsB k v
        · exact quDo_bad2 p a s k who v hv w H h1 h2 h3 h4
        · exact quDo_ok p a s k who v hv w H h1 h2 h3 h4
      · exact quDo_bad1 p a s k who v w H (.inr (.inr ⟨h1, h2, h3⟩))
    · exact quDo_bad1 p a s k who v w H (.inr (.inl ⟨h1, h2⟩))
theorem vals_new4 {w : World} {A : Option Addr} {l : List Int} {r : Nat} {x y z q : Value} {t : TypeId} (h : ValsAt ok w A l) (hr : w.heap[r]? = some (.cells #[x, y, z, q] t (0, 0))) (ht : t ≠ 37) (a b c d : Value) : ValsAt ok ((((w.setCell ⟨r, 0, none⟩ a).setCell ⟨r, 1, none⟩ b).setCell ⟨r, 2, none⟩ c).setCell ⟨r, 3, none⟩ d) A l := by
  have h1 := hp_put hr 0 a rfl
  have h2 := hp_put h1 1 b rfl
  have h3 := hp_put h2 2 c rfl
  exact vals_far (vals_far (vals_far (vals_far h hr ht 0 a) h1 ht 1 b) h2 ht 2 c) h3 ht 3 d
def QuShape (b : Nat) (s : Int × List Int) (e : Ending) (w' : World) : Prop := ∃ A' c', e = .returned (.agg #[.int .i64 (-1), .int .i64 0, .int .i64 0, .slice A' s.2.length c']) ∧ s.2.length ≤ c' ∧ (A' = none → c' = 0) ∧ ValsAt (fun k => b ≤ k) w' A' s.2
theorem ta_qu_0 (x : Addr) (w : World) : (Instr.typeAssert (.iface 71 (.pointer (some x))) 65 61 true).run Try.prog w = .ok (.tuple #[.pointer none, .bool false]) w := by kernel_rfl
theorem ta_qu_1 (x : Addr) (w : World) : (Instr.typeAssert (.iface 71 (.pointer (some x))) 65 68 true).run Try.prog w = .ok (.tuple #[.pointer none, .bool false]) w := by kernel_rfl
theorem ta_qu_2 (x : Addr) (w : World) : (Instr.typeAssert (.iface 71 (.pointer (some x))) 65 71 true).run Try.prog w = .ok (.tuple #[.pointer (some x), .bool true]) w := by kernel_rfl
end Go.Proofs.Ytbanfaboimachaa
