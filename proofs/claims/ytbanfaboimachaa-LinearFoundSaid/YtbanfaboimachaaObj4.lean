
/-
  A barrier behind an interface: what its calls answer, and what becomes of its cells.
-/
import Derived.Test.YtbanfaboimachaaObj1
namespace Go.Proofs.Ytbanfaboimachaa
open Go.RowKit
set_option linter.unusedSimpArgs false
set_option linter.unusedVariables false

def baStep (k who v : Int) (s : Int × Int × Int) : (Int × Bool × Int) × (Int × Int × Int) :=
  bif k == 8 then (bif lessB v (intV s.2.2) then (aOne, s) else (aBlocks, s)) else (bif wrap64 (s.2.1 + 1) == s.1 then ((intV s.2.2, false, 0), (s.1, 0, wrap64 (s.2.2 + 1))) else ((intV s.2.2, false, 0), (s.1, wrap64 (s.2.1 + 1), s.2.2)))
def baTk (k : Int) : Bool := k == 7 || k == 8
def baIn (w : World) (a : Nat) (s : Int × Int × Int) : Prop := w.heap[a]? = some (.cells #[.int .i64 s.1, .int .i64 s.2.1, .int .i64 s.2.2] 77 (0, 0))
theorem baIn_lt {w : World} {a : Nat} {s : Int × Int × Int} (h : baIn w a s) : a < w.heap.size := hp_lt h
theorem baIn_below {w w1 : World} {a : Nat} {s : Int × Int × Int} (h : baIn w a s) (hb : Below w.heap.size w w1) : baIn w1 a s := hp_below h hb
theorem baIn_far {w : World} {a g : Nat} {s : Int × Int × Int} {cs : Array Value} {t : TypeId} (h : baIn w a s) (hg : w.heap[g]? = some (.cells cs t (0, 0))) (h2 : t ≠ 77) (_h3 : t ≠ 37) (j : Nat) (u : Value) : baIn (w.setCell ⟨g, j, none⟩ u) a s := hp_far h (hp_ne h hg h2.symm) u
theorem baIn_other {w w1 : World} {a g : Nat} {s : Int × Int × Int} {cs : Array Value} {t : TypeId} (h : baIn w a s) (_hg : w.heap[g]? = some (.cells cs t (0, 0))) (hgr : w.grownBy w1 (some g)) (h2 : g ≠ a) (_h3 : t ≠ 37) : baIn w1 a s := hp_grown h hgr (by simpa using h2.symm)
theorem ba_ne {w : World} {p a : Nat} {s : Int × Int × Int} (h : w.heap[p]? = some (.cells #[.iface 75 (.pointer (some ⟨a, 0, none⟩))] 67 (0, 0)) ∧ baIn w a s) : p ≠ a := hp_ne h.1 h.2 (by decide)
theorem baCall_0 (a : Nat) (s : Int × Int × Int) (k who v : Int) (hv : W64 v) (w : World) (ha : baIn w a s) (h0 : (k == 8) = true) (h1 : lessB v (intV s.2.2) = true) :
    Calls Try.prog 83 #[.pointer (some ⟨a, 0, none⟩), callV k who v] w fun e w' =>
      e = .returned (ansV (baStep k who v s).1) ∧ baIn w' a (baStep k who v s).2 ∧ w.grownBy w' (some a) := by
  have hlt := hp_lt ha
  have hc0 : w.cell? ⟨a, 0, none⟩ = some (.int .i64 s.1) := hp_cell ha 0
  have hf0 : w.frozen? ⟨a, 0, none⟩ = false := hp_frozen ha 0
  have hc1 : w.cell? ⟨a, 1, none⟩ = some (.int .i64 s.2.1) := hp_cell ha 1
  have hf1 : w.frozen? ⟨a, 1, none⟩ = false := hp_frozen ha 1
  have hc2 : w.cell? ⟨a, 2, none⟩ = some (.int .i64 s.2.2) := hp_cell ha 2
  have hf2 : w.frozen? ⟨a, 2, none⟩ = false := hp_frozen ha 2
  have HI := Lib.hid ha
  have HA := Lib.hid ha
  clear ha
  have E : Hid _ := Lib.hid (show baStep k who v s = (aOne, s) by simp only [baStep, h0, h1, cond_true, cond_false])
  unfold callV
  go_enter Try.func83, Try.ntmps83
  go_wp2_with (first | (go_at_call 87; refine (int_any _ _).mono ?_; rintro e w' ⟨rfl, rfl⟩) | (go_at_call 88; refine (less_any v (intV s.2.2) hv (intV_w64 _) _).mono ?_; rintro e w' ⟨rfl, rfl⟩) | (go_at_call 71; refine (one_any _).mono ?_; simp only [ansV, aOne]; rintro e w' ⟨rfl, rfl⟩) | (go_at_call 72; refine (blocks_any _).mono ?_; simp only [ansV, aBlocks]; rintro e w' ⟨rfl, rfl⟩))
  go_returns
  rw [E.out]
  exact ⟨rfl, by (try unfold baIn); (try dsimp only); (repeat (with_reducible first | apply hp_alloc | apply hp_drewN | apply hp_put1 | apply hp_put30 | apply hp_put31 | apply hp_put32 | (refine hp_far ?_ (by simp; omega) _))); exact HA.out, by (repeat (with_reducible first | apply gb_alloc | apply gb_drewN | apply gb_set | (refine gb_new ?_ (by simp) _))); exact gb_refl _ _⟩
theorem baCall_1 (a : Nat) (s : Int × Int × Int) (k who v : Int) (hv : W64 v) (w : World) (ha : baIn w a s) (h0 : (k == 8) = true) (h1 : lessB v (intV s.2.2) = false) :
    Calls Try.prog 83 #[.pointer (some ⟨a, 0, none⟩), callV k who v] w fun e w' =>
      e = .returned (ansV (baStep k who v s).1) ∧ baIn w' a (baStep k who v s).2 ∧ w.grownBy w' (some a) := by
  have hlt := hp_lt ha
  have hc0 : w.cell? ⟨a, 0, none⟩ = some (.int .i64 s.1) := hp_cell ha 0
  have hf0 : w.frozen? ⟨a, 0, none⟩ = false := hp_frozen ha 0
  have hc1 : w.cell? ⟨a, 1, none⟩ = some (.int .i64 s.2.1) := hp_cell ha 1
  have hf1 : w.frozen? ⟨a, 1, none⟩ = false := hp_frozen ha 1
  have hc2 : w.cell? ⟨a, 2, none⟩ = some (.int .i64 s.2.2) := hp_cell ha 2
  have hf2 : w.frozen? ⟨a, 2, none⟩ = false := hp_frozen ha 2
  have HI := Lib.hid ha
  have HA := Lib.hid ha
  clear ha
  have E : Hid _ := Lib.hid (show baStep k who v s = (aBlocks, s) by simp only [baStep, h0, h1, cond_true, cond_false])
  unfold callV
  go_enter Try.func83, Try.ntmps83
  go_wp2_with (first | (go_at_call 87; refine (int_any _ _).mono ?_; rintro e w' ⟨rfl, rfl⟩) | (go_at_call 88; refine (less_any v (intV s.2.2) hv (intV_w64 _) _).mono ?_; rintro e w' ⟨rfl, rfl⟩) | (go_at_call 71; refine (one_any _).mono ?_; simp only [ansV, aOne]; rintro e w' ⟨rfl, rfl⟩) | (go_at_call 72; refine (blocks_any _).mono ?_; simp only [ansV, aBlocks]; rintro e w' ⟨rfl, rfl⟩))
  go_returns
  rw [E.out]
  exact ⟨rfl, by (try unfold baIn); (try dsimp only); (repeat (with_reducible first | apply hp_alloc | apply hp_drewN | apply hp_put1 | apply hp_put30 | apply hp_put31 | apply hp_put32 | (refine hp_far ?_ (by simp; omega) _))); exact HA.out, by (repeat (with_reducible first | apply gb_alloc | apply gb_drewN | apply gb_set | (refine gb_new ?_ (by simp) _))); exact gb_refl _ _⟩
theorem baCall_2 (a : Nat) (s : Int × Int × Int) (k who v : Int) (hv : W64 v) (w : World) (ha : baIn w a s) (h0 : (k == 8) = false) (h1 : (wrap64 (s.2.1 + 1) == s.1) = true) :
    Calls Try.prog 83 #[.pointer (some ⟨a, 0, none⟩), callV k who v] w fun e w' =>
      e = .returned (ansV (baStep k who v s).1) ∧ baIn w' a (baStep k who v s).2 ∧ w.grownBy w' (some a) := by
  have hlt := hp_lt ha
  have hc0 : w.cell? ⟨a, 0, none⟩ = some (.int .i64 s.1) := hp_cell ha 0
  have hf0 : w.frozen? ⟨a, 0, none⟩ = false := hp_frozen ha 0
  have hc1 : w.cell? ⟨a, 1, none⟩ = some (.int .i64 s.2.1) := hp_cell ha 1
  have hf1 : w.frozen? ⟨a, 1, none⟩ = false := hp_frozen ha 1
  have hc2 : w.cell? ⟨a, 2, none⟩ = some (.int .i64 s.2.2) := hp_cell ha 2
  have hf2 : w.frozen? ⟨a, 2, none⟩ = false := hp_frozen ha 2
  have HI := Lib.hid ha
  have HA := Lib.hid ha
  clear ha
  have E : Hid _ := Lib.hid (show baStep k who v s = ((intV s.2.2, false, 0), (s.1, 0, wrap64 (s.2.2 + 1))) by simp only [baStep, h0, h1, cond_true, cond_false])
  unfold callV
  go_enter Try.func83, Try.ntmps83
  go_wp2_with (first | (go_at_call 87; refine (int_any _ _).mono ?_; rintro e w' ⟨rfl, rfl⟩) | (go_at_call 88; refine (less_any v (intV s.2.2) hv (intV_w64 _) _).mono ?_; rintro e w' ⟨rfl, rfl⟩) | (go_at_call 71; refine (one_any _).mono ?_; simp only [ansV, aOne]; rintro e w' ⟨rfl, rfl⟩) | (go_at_call 72; refine (blocks_any _).mono ?_; simp only [ansV, aBlocks]; rintro e w' ⟨rfl, rfl⟩))
  go_quiet (fail)
  go_wp2_with (first | (go_at_call 87; refine (int_any _ _).mono ?_; rintro e w' ⟨rfl, rfl⟩) | (go_at_call 88; refine (less_any v (intV s.2.2) hv (intV_w64 _) _).mono ?_; rintro e w' ⟨rfl, rfl⟩) | (go_at_call 71; refine (one_any _).mono ?_; simp only [ansV, aOne]; rintro e w' ⟨rfl, rfl⟩) | (go_at_call 72; refine (blocks_any _).mono ?_; simp only [ansV, aBlocks]; rintro e w' ⟨rfl, rfl⟩))
  go_returns
  rw [E.out]
  exact ⟨rfl, by (try unfold baIn); (try dsimp only); (repeat (with_reducible first | apply hp_alloc | apply hp_drewN | apply hp_put1 | apply hp_put30 | apply hp_put31 | apply hp_put32 | (refine hp_far ?_ (by simp; omega) _))); exact HA.out, by (repeat (with_reducible first | apply gb_alloc | apply gb_drewN | apply gb_set | (refine gb_new ?_ (by simp) _))); exact gb_refl _ _⟩
theorem baCall_3 (a : Nat) (s : Int × Int × Int) (k who v : Int) (hv : W64 v) (w : World) (ha : baIn w a s) (h0 : (k == 8) = false) (h1 : (wrap64 (s.2.1 + 1) == s.1) = false) :
    Calls Try.prog 83 #[.pointer (some ⟨a, 0, none⟩), callV k who v] w fun e w' =>
      e = .returned (ansV (baStep k who v s).1) ∧ baIn w' a (baStep k who v s).2 ∧ w.grownBy w' (some a) := by
  have hlt := hp_lt ha
  have hc0 : w.cell? ⟨a, 0, none⟩ = some (.int .i64 s.1) := hp_cell ha 0
  have hf0 : w.frozen? ⟨a, 0, none⟩ = false := hp_frozen ha 0
  have hc1 : w.cell? ⟨a, 1, none⟩ = some (.int .i64 s.2.1) := hp_cell ha 1
  have hf1 : w.frozen? ⟨a, 1, none⟩ = false := hp_frozen ha 1
  have hc2 : w.cell? ⟨a, 2, none⟩ = some (.int .i64 s.2.2) := hp_cell ha 2
  have hf2 : w.frozen? ⟨a, 2, none⟩ = false := hp_frozen ha 2
  have HI := Lib.hid ha
  have HA := Lib.hid ha
  clear ha
  have E : Hid _ := Lib.hid (show baStep k who v s = ((intV s.2.2, false, 0), (s.1, wrap64 (s.2.1 + 1), s.2.2)) by simp only [baStep, h0, h1, cond_true, cond_false])
  unfold callV
  go_enter Try.func83, Try.ntmps83
  go_wp2_with (first | (go_at_call 87; refine (int_any _ _).mono ?_; rintro e w' ⟨rfl, rfl⟩) | (go_at_call 88; refine (less_any v (intV s.2.2) hv (intV_w64 _) _).mono ?_; rintro e w' ⟨rfl, rfl⟩) | (go_at_call 71; refine (one_any _).mono ?_; simp only [ansV, aOne]; rintro e w' ⟨rfl, rfl⟩) | (go_at_call 72; refine (blocks_any _).mono ?_; simp only [ansV, aBlocks]; rintro e w' ⟨rfl, rfl⟩))
  go_quiet (fail)
  go_wp2_with (first | (go_at_call 87; refine (int_any _ _).mono ?_; rintro e w' ⟨rfl, rfl⟩) | (go_at_call 88; refine (less_any v (intV s.2.2) hv (intV_w64 _) _).mono ?_; rintro e w' ⟨rfl, rfl⟩) | (go_at_call 71; refine (one_any _).mono ?_; simp only [ansV, aOne]; rintro e w' ⟨rfl, rfl⟩) | (go_at_call 72; refine (blocks_any _).mono ?_; simp only [ansV, aBlocks]; rintro e w' ⟨rfl, rfl⟩))
  go_returns
  rw [E.out]
  exact ⟨rfl, by (try unfold baIn); (try dsimp only); (repeat (with_reducible first | apply hp_alloc | apply hp_drewN | apply hp_put1 | apply hp_put30 | apply hp_put31 | apply hp_put32 | (refine hp_far ?_ (by simp; omega) _))); exact HA.out, by (repeat (with_reducible first | apply gb_alloc | apply gb_drewN | apply gb_set | (refine gb_new ?_ (by simp) _))); exact gb_refl _ _⟩
theorem baCall (a : Nat) (s : Int × Int × Int) (k who v : Int) (hv : W64 v) (w : World) (ha : baIn w a s) :
    Calls Try.prog 83 #[.pointer (some ⟨a, 0, none⟩), callV k who v] w fun e w' =>
      e = .returned (ansV (baStep k who v s).1) ∧ baIn w' a (baStep k who v s).2 ∧ w.grownBy w' (some a) := by
  cases h1 : (k == 8)
  · cases h2 : (wrap64 (s.2.1 + 1) == s.1)
    · exact baCall_3 a s k who v hv w ha h1 h2
    · exact baCall_2 a s k who v hv w ha h1 h2
  · cases h2 : lessB v (intV s.2.2)
    · exact baCall_1 a s k who v hv w ha h1 h2
    · exact baCall_0 a s k who v hv w ha h1 h2

def baAt (w : World) (p a : Nat) (s : Int × Int × Int) : Prop := w.heap[p]? = some (.cells #[.iface 75 (.pointer (some ⟨a, 0, none⟩))] 67 (0, 0)) ∧ baIn w a s
theorem baAt_below {w w1 : World} {p a : Nat} {s : Int × Int × Int} (h : baAt w p a s) (hb : Below w.heap.size w w1) : baAt w1 p a s := ⟨hp_below h.1 hb, baIn_below h.2 hb⟩
theorem baAt_alloc {w : World} {p a : Nat} {s : Int × Int × Int} (h : baAt w p a s) (o : Obj) : baAt (w.alloc o) p a s := baAt_below h ((Below.refl _ _).alloc (Nat.le_refl _) o)
theorem baAt_drewN {w : World} {p a : Nat} {s : Int × Int × Int} (h : baAt w p a s) (n : Nat) : baAt (w.drewN n) p a s := baAt_below h ⟨rfl, rfl, rfl, Nat.le_refl _, fun _ _ => rfl⟩
theorem baAt_far {w : World} {p a g : Nat} {s : Int × Int × Int} {cs : Array Value} {t : TypeId} (h : baAt w p a s) (hg : w.heap[g]? = some (.cells cs t (0, 0))) (h1 : t ≠ 67) (h2 : t ≠ 77) (h3 : t ≠ 37) (j : Nat) (u : Value) : baAt (w.setCell ⟨g, j, none⟩ u) p a s :=
  ⟨hp_far h.1 (hp_ne h.1 hg h1.symm) u, baIn_far h.2 hg h2 h3 j u⟩
theorem baAt_other {w w1 : World} {p a g : Nat} {s : Int × Int × Int} {cs : Array Value} {t : TypeId} (h : baAt w p a s) (hg : w.heap[g]? = some (.cells cs t (0, 0))) (hgr : w.grownBy w1 (some g)) (h1 : t ≠ 67) (h2 : g ≠ a) (h3 : t ≠ 37) : baAt w1 p a s :=
  ⟨hp_grown h.1 hgr (by have := hp_ne h.1 hg h1.symm; simpa using this), baIn_other h.2 hg hgr h2 h3⟩

theorem baTakes (x : Value) (k : Int) (w : World) : Calls Try.prog 86 #[x, .int .u8 k] w fun e w' => e = .returned (.bool (baTk k)) ∧ w = w' := by
  unfold baTk
  cases h1 : (k == 7) <;> cases h2 : (k == 8)
  all_goals
    go_enter Try.func86, Try.ntmps86
    go_wp2
    go_ret
    exact ⟨by simp, rfl⟩
theorem baTakesO (p a : Nat) (s : Int × Int × Int) (k : Int) (w : World) (H : baAt w p a s) : Calls Try.prog 39 #[.pointer (some ⟨p, 0, none⟩), .int .u8 k] w fun e w' => e = .returned (.bool (baTk k)) ∧ w = w' := by
  have hc : w.cell? ⟨p, 0, none⟩ = some (.iface 75 (.pointer (some ⟨a, 0, none⟩))) := hp_cell H.1 0
  go_enter Try.func39, Try.ntmps39
  go_wp2_with (go_at_call 86; refine (baTakes _ _ _).mono ?_; rintro e w' ⟨rfl, rfl⟩)
  go_ret
  exact ⟨rfl, rfl⟩
set_option maxRecDepth 100000 in
theorem baDo_ok (p a : Nat) (s : Int × Int × Int) (k who v : Int) (hv : W64 v) (w : World) (H : baAt w p a s) (h1 : baTk k = true) (h2 : decide (who < 0) = false) (h3 : decide (4 ≤ who) = false) (h4 : fitsB k v = true) :
    Calls Try.prog 34 #[.pointer (some ⟨p, 0, none⟩), callV k who v] w fun e w' => e = .returned (ansV (baStep k who v s).1) ∧ baAt w' p a (baStep k who v s).2 ∧ w.grownBy w' (some a) := by
  have hne : p ≠ a := ba_ne H
  have hl := hp_lt H.1
  have hl' := baIn_lt H.2
  have HH := Lib.hid H
  clear H
  unfold callV
  go_enter Try.func34, Try.ntmps34
  go_wp2_with (first | (go_at_call 39; refine (baTakesO p a s k _ (baAt_alloc (baAt_alloc HH.out _) _)).mono ?_; rintro e w' ⟨rfl, rfl⟩) | (go_at_call 40; refine (fits_any k who v hv _).mono ?_; rintro e w1 ⟨rfl, hb⟩))
  have h1_ := baAt_below (baAt_alloc (baAt_alloc HH.out _) _) hb
  have hx : w1.heap[w.heap.size]? = some (.cells #[.int .u8 k, .int .i64 who, .int .u64 v] 39 (0, 0)) := hp_below (hp_alloc (heap_alloc_new w _) _) hb
  have hy : w1.heap[w.heap.size + 1]? = some (.cells #[.int .u64 0, .bool false, .int .i64 0] 83 (0, 0)) := hp_below ((congrArg _ (by simp)).trans (heap_alloc_new (w.alloc _) _)) hb
  have hg : w.grownBy w1 (some a) := gb_trans (gb_alloc (gb_alloc (gb_refl w _) _) _) (gb_below hb)
  have hcp : w1.cell? ⟨p, 0, none⟩ = some (.iface 75 (.pointer (some ⟨a, 0, none⟩))) := hp_cell h1_.1 0
  have hx0 : w1.cell? ⟨w.heap.size, 0, none⟩ = some (.int .u8 k) := hp_cell hx 0
  have hx1 : w1.cell? ⟨w.heap.size, 1, none⟩ = some (.int .i64 who) := hp_cell hx 1
  have hx2 : w1.cell? ⟨w.heap.size, 2, none⟩ = some (.int .u64 v) := hp_cell hx 2
  have HA := Lib.hid h1_
  have HY := Lib.hid hy
  have HL : Hid _ := Lib.hid (show a ≠ w.heap.size + 1 ∧ p ≠ w.heap.size + 1 by omega)
  clear h1_ hx hy hb hl hl'
  go_still_tail 5, (by kernel_rfl)
  go_wp2_with (go_at_call 83; refine (baCall a s k who v hv w1.drew (baIn_below HA.out.2 ⟨rfl, rfl, rfl, Nat.le_refl _, fun _ _ => rfl⟩)).mono ?_; rintro e w2 ⟨he, ha2, hg2⟩; simp only [ansV] at he; subst he; have hy2 := hp_grown (w := w1.drew) HY.out hg2 (by have := HL.out; simp; omega); have y0 : w2.cell? ⟨w.heap.size + 1, 0, none⟩ = some (.int .u64 0) := hp_cell hy2 0; have y1 : w2.cell? ⟨w.heap.size + 1, 1, none⟩ = some (.bool false) := hp_cell hy2 1; have y2 : w2.cell? ⟨w.heap.size + 1, 2, none⟩ = some (.int .i64 0) := hp_cell hy2 2; have z0 := hp_frozen hy2 0; have z1 := hp_frozen hy2 1; have z2 := hp_frozen hy2 2; have HY2 := Lib.hid hy2; have HA2 := Lib.hid ha2; clear hy2 ha2)
  refine bodyPost_ret (by simp [results, Try.results34, go_sem, y0, y1, y2]; try rfl) rfl ?_
  have hA2 : baAt w2 p a (baStep k who v s).2 := ⟨hp_grown (w := w1.drew) HA.out.1 hg2 (by simp; omega), HA2.out⟩
  refine ⟨rfl, baAt_far (baAt_far (baAt_far hA2 HY2.out (by decide) (by decide) (by decide) 0 _) (hp_put30 HY2.out _) (by decide) (by decide) (by decide) 1 _) (hp_put31 (hp_put30 HY2.out _) _) (by decide) (by decide) (by decide) 2 _, ?_⟩
  (repeat (with_reducible refine gb_new ?_ (by simp) _)); exact gb_trans hg (gb_trans (gb_drew (gb_refl _ _)) hg2)
theorem baDo_bad1 (p a : Nat) (s : Int × Int × Int) (k who v : Int) (w : World) (H : baAt w p a s) (h : baTk k = false ∨ (baTk k = true ∧ decide (who < 0) = true) ∨ (baTk k = true ∧ decide (who < 0) = false ∧ decide (4 ≤ who) = true)) :
    Calls Try.prog 34 #[.pointer (some ⟨p, 0, none⟩), callV k who v] w fun e w' => e = .returned (ansV (aErr 3)) ∧ baAt w' p a s ∧ w.grownBy w' (some a) := by
  have HH := Lib.hid H
  clear H
  unfold callV
  rcases h with h1 | ⟨h1, h2⟩ | ⟨h1, h2, h3⟩
  all_goals
    go_enter Try.func34, Try.ntmps34
    go_wp2_with (go_at_call 39; refine (baTakesO p a s k _ (baAt_alloc (baAt_alloc HH.out _) _)).mono ?_; rintro e w' ⟨rfl, rfl⟩)
    go_returns
    exact ⟨rfl, by (repeat with_reducible apply baAt_alloc); exact HH.out, by (repeat (with_reducible first | apply gb_alloc | apply gb_drewN | apply gb_set | (refine gb_new ?_ (by simp) _))); exact gb_refl _ _⟩
theorem baDo_bad2 (p a : Nat) (s : Int × Int × Int) (k who v : Int) (hv : W64 v) (w : World) (H : baAt w p a s) (h1 : baTk k = true) (h2 : decide (who < 0) = false) (h3 : decide (4 ≤ who) = false) (h4 : fitsB k v = false) :
    Calls Try.prog 34 #[.pointer (some ⟨p, 0, none⟩), callV k who v] w fun e w' => e = .returned (ansV (aErr 3)) ∧ baAt w' p a s ∧ w.grownBy w' (some a) := by
  have HH := Lib.hid H
  clear H
  unfold callV
  go_enter Try.func34, Try.ntmps34
  go_wp2_with (first | (go_at_call 39; refine (baTakesO p a s k _ (baAt_alloc (baAt_alloc HH.out _) _)).mono ?_; rintro e w' ⟨rfl, rfl⟩) | (go_at_call 40; refine (fits_any k who v hv _).mono ?_; rintro e w1 ⟨rfl, hb⟩; have HA := Lib.hid (baAt_below (baAt_alloc (baAt_alloc HH.out _) _) hb); have hy : w1.heap[w.heap.size + 1]? = some (.cells #[.int .u64 0, .bool false, .int .i64 0] 83 (0, 0)) := hp_below ((congrArg _ (by simp)).trans (heap_alloc_new (w.alloc _) _)) hb; have hg : w.grownBy w1 (some a) := gb_trans (gb_alloc (gb_alloc (gb_refl w _) _) _) (gb_below hb); have y0 : w1.cell? ⟨w.heap.size + 1, 0, none⟩ = some (.int .u64 0) := hp_cell hy 0; have y1 : w1.cell? ⟨w.heap.size + 1, 1, none⟩ = some (.bool false) := hp_cell hy 1; have y2 : w1.cell? ⟨w.heap.size + 1, 2, none⟩ = some (.int .i64 0) := hp_cell hy 2; have z0 := hp_frozen hy 0; have z1 := hp_frozen hy 1; have z2 := hp_frozen hy 2; have HY := Lib.hid hy; clear hy hb))
  refine bodyPost_ret (by simp [results, Try.results34, go_sem, y0, y1, y2]; try rfl) rfl ?_
  refine ⟨rfl, baAt_far (baAt_far (baAt_far HA.out HY.out (by decide) (by decide) (by decide) 0 _) (hp_put30 HY.out _) (by decide) (by decide) (by decide) 1 _) (hp_put31 (hp_put30 HY.out _) _) (by decide) (by decide) (by decide) 2 _, ?_⟩
  (repeat (with_reducible refine gb_new ?_ (by simp) _)); exact hg
def baDo (k who v : Int) (s : Int × Int × Int) : (Int × Bool × Int) × Int × Int × Int := bif badB (baTk k) k who v then (aErr 3, s) else baStep k who v s
theorem baDo_any (p a : Nat) (s : Int × Int × Int) (k who v : Int) (hv : W64 v) (w : World) (H : baAt w p a s) :
    Calls Try.prog 34 #[.pointer (some ⟨p, 0, none⟩), callV k who v] w fun e w' => e = .returned (ansV (baDo k who v s).1) ∧ baAt w' p a (baDo k who v s).2 ∧ w.grownBy w' (some a) := by
  unfold baDo badB
  cases h1 : baTk k
  · exact baDo_bad1 p a s k who v w H (.inl h1)
  · cases h2 : decide (who < 0)
    · cases h3 : decide (4 ≤ who)
      · cases h4 : fitsB k v
        · exact baDo_bad2 p a s k who v hv w H h1 h2 h3 h4
        · exact baDo_ok p a s k who v hv w H h1 h2 h3 h4
      · exact baDo_bad1 p a s k who v w H (.inr (.inr ⟨h1, h2, h3⟩))
    · exact baDo_bad1 p a s k who v w H (.inr (.inl ⟨h1, h2⟩))
theorem ta_ba_0 (x : Addr) (w : World) : (Instr.typeAssert (.iface 75 (.pointer (some x))) 65 61 true).run Try.prog w = .ok (.tuple #[.pointer none, .bool false]) w := by kernel_rfl
theorem ta_ba_1 (x : Addr) (w : World) : (Instr.typeAssert (.iface 75 (.pointer (some x))) 65 68 true).run Try.prog w = .ok (.tuple #[.pointer none, .bool false]) w := by kernel_rfl
theorem ta_ba_2 (x : Addr) (w : World) : (Instr.typeAssert (.iface 75 (.pointer (some x))) 65 71 true).run Try.prog w = .ok (.tuple #[.pointer none, .bool false]) w := by kernel_rfl
end Go.Proofs.Ytbanfaboimachaa
