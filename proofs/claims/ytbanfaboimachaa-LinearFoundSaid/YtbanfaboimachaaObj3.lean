
/-
  A semaphore behind an interface: what its calls answer, and what becomes of its cells.
-/
import Derived.Test.YtbanfaboimachaaObj1
namespace Go.Proofs.Ytbanfaboimachaa
open Go.RowKit
set_option linter.unusedSimpArgs false
set_option linter.unusedVariables false

def seStep (k who v s : Int) : (Int × Bool × Int) × Int :=
  bif k == 4 then (bif decide (99 ≤ s) then (aErr 4, s) else (aOne, s + 1)) else (bif s == 0 then (aBlocks, s) else (aOne, s - 1))
def seTk (k : Int) : Bool := k == 3 || k == 4
def seIn (w : World) (a : Nat) (s : Int) : Prop := w.heap[a]? = some (.cells #[.int .i64 s] 70 (0, 0)) ∧ (0 ≤ s ∧ s ≤ 99)
theorem seIn_lt {w : World} {a : Nat} {s : Int} (h : seIn w a s) : a < w.heap.size := hp_lt h.1
theorem seIn_below {w w1 : World} {a : Nat} {s : Int} (h : seIn w a s) (hb : Below w.heap.size w w1) : seIn w1 a s := ⟨hp_below h.1 hb, h.2⟩
theorem seIn_far {w : World} {a g : Nat} {s : Int} {cs : Array Value} {t : TypeId} (h : seIn w a s) (hg : w.heap[g]? = some (.cells cs t (0, 0))) (h2 : t ≠ 70) (_h3 : t ≠ 37) (j : Nat) (u : Value) : seIn (w.setCell ⟨g, j, none⟩ u) a s := ⟨hp_far h.1 (hp_ne h.1 hg h2.symm) u, h.2⟩
theorem seIn_other {w w1 : World} {a g : Nat} {s : Int} {cs : Array Value} {t : TypeId} (h : seIn w a s) (_hg : w.heap[g]? = some (.cells cs t (0, 0))) (hgr : w.grownBy w1 (some g)) (h2 : g ≠ a) (_h3 : t ≠ 37) : seIn w1 a s := ⟨hp_grown h.1 hgr (by simpa using h2.symm), h.2⟩
theorem se_ne {w : World} {p a : Nat} {s : Int} (h : w.heap[p]? = some (.cells #[.iface 68 (.pointer (some ⟨a, 0, none⟩))] 67 (0, 0)) ∧ seIn w a s) : p ≠ a := hp_ne h.1 h.2.1 (by decide)
theorem seCall_0 (a : Nat) (s : Int) (k who v : Int) (w : World) (ha : seIn w a s) (h0 : (k == 4) = true) (h1 : decide (99 ≤ s) = true) :
    Calls Try.prog 73 #[.pointer (some ⟨a, 0, none⟩), callV k who v] w fun e w' =>
      e = .returned (ansV (seStep k who v s).1) ∧ seIn w' a (seStep k who v s).2 ∧ w.grownBy w' (some a) := by
  have hlt := hp_lt ha.1
  have hc : w.cell? ⟨a, 0, none⟩ = some (.int .i64 s) := hp_cell ha.1 0
  have hf : w.frozen? ⟨a, 0, none⟩ = false := hp_frozen ha.1 0
  obtain ⟨b0, b1⟩ := ha.2
  have HI := Lib.hid ha
  have HA := Lib.hid ha.1
  clear ha
  have E : Hid _ := Lib.hid (show seStep k who v s = (aErr 4, s) by simp only [seStep, h0, h1, cond_true, cond_false])
  unfold callV
  go_enter Try.func73, Try.ntmps73
  go_wp2
  go_returns
  rw [E.out]
  exact ⟨rfl, ⟨by (try unfold seIn); (try dsimp only); (repeat (with_reducible first | apply hp_alloc | apply hp_drewN | apply hp_put1 | apply hp_put30 | apply hp_put31 | apply hp_put32 | (refine hp_far ?_ (by simp; omega) _))); exact HA.out, HI.out.2⟩, by (repeat (with_reducible first | apply gb_alloc | apply gb_drewN | apply gb_set | (refine gb_new ?_ (by simp) _))); exact gb_refl _ _⟩
theorem seCall_1 (a : Nat) (s : Int) (k who v : Int) (w : World) (ha : seIn w a s) (h0 : (k == 4) = true) (h1 : decide (99 ≤ s) = false) :
    Calls Try.prog 73 #[.pointer (some ⟨a, 0, none⟩), callV k who v] w fun e w' =>
      e = .returned (ansV (seStep k who v s).1) ∧ seIn w' a (seStep k who v s).2 ∧ w.grownBy w' (some a) := by
  have hlt := hp_lt ha.1
  have hc : w.cell? ⟨a, 0, none⟩ = some (.int .i64 s) := hp_cell ha.1 0
  have hf : w.frozen? ⟨a, 0, none⟩ = false := hp_frozen ha.1 0
  obtain ⟨b0, b1⟩ := ha.2
  have HI := Lib.hid ha
  have HA := Lib.hid ha.1
  clear ha
  have E : Hid _ := Lib.hid (show seStep k who v s = (aOne, s + 1) by simp only [seStep, h0, h1, cond_true, cond_false])
  unfold callV
  go_enter Try.func73, Try.ntmps73
  go_wp2
  go_returns
  rw [E.out]
  exact ⟨rfl, ⟨by (try unfold seIn); (try dsimp only); (repeat (with_reducible first | apply hp_alloc | apply hp_drewN | apply hp_put1 | apply hp_put30 | apply hp_put31 | apply hp_put32 | (refine hp_far ?_ (by simp; omega) _))); exact HA.out, by have := HI.out.2; have := of_decide_eq_false h1; dsimp only; omega⟩, by (repeat (with_reducible first | apply gb_alloc | apply gb_drewN | apply gb_set | (refine gb_new ?_ (by simp) _))); exact gb_refl _ _⟩
theorem seCall_2 (a : Nat) (s : Int) (k who v : Int) (w : World) (ha : seIn w a s) (h0 : (k == 4) = false) (h1 : (s == 0) = true) :
    Calls Try.prog 73 #[.pointer (some ⟨a, 0, none⟩), callV k who v] w fun e w' =>
      e = .returned (ansV (seStep k who v s).1) ∧ seIn w' a (seStep k who v s).2 ∧ w.grownBy w' (some a) := by
  have hlt := hp_lt ha.1
  have hc : w.cell? ⟨a, 0, none⟩ = some (.int .i64 s) := hp_cell ha.1 0
  have hf : w.frozen? ⟨a, 0, none⟩ = false := hp_frozen ha.1 0
  obtain ⟨b0, b1⟩ := ha.2
  have HI := Lib.hid ha
  have HA := Lib.hid ha.1
  clear ha
  have E : Hid _ := Lib.hid (show seStep k who v s = (aBlocks, s) by simp only [seStep, h0, h1, cond_true, cond_false])
  unfold callV
  go_enter Try.func73, Try.ntmps73
  go_wp2
  go_returns
  rw [E.out]
  exact ⟨rfl, ⟨by (try unfold seIn); (try dsimp only); (repeat (with_reducible first | apply hp_alloc | apply hp_drewN | apply hp_put1 | apply hp_put30 | apply hp_put31 | apply hp_put32 | (refine hp_far ?_ (by simp; omega) _))); exact HA.out, HI.out.2⟩, by (repeat (with_reducible first | apply gb_alloc | apply gb_drewN | apply gb_set | (refine gb_new ?_ (by simp) _))); exact gb_refl _ _⟩
theorem seCall_3 (a : Nat) (s : Int) (k who v : Int) (w : World) (ha : seIn w a s) (h0 : (k == 4) = false) (h1 : (s == 0) = false) :
    Calls Try.prog 73 #[.pointer (some ⟨a, 0, none⟩), callV k who v] w fun e w' =>
      e = .returned (ansV (seStep k who v s).1) ∧ seIn w' a (seStep k who v s).2 ∧ w.grownBy w' (some a) := by
  have hlt := hp_lt ha.1
  have hc : w.cell? ⟨a, 0, none⟩ = some (.int .i64 s) := hp_cell ha.1 0
  have hf : w.frozen? ⟨a, 0, none⟩ = false := hp_frozen ha.1 0
  obtain ⟨b0, b1⟩ := ha.2
  have HI := Lib.hid ha
  have HA := Lib.hid ha.1
  clear ha
  have E : Hid _ := Lib.hid (show seStep k who v s = (aOne, s - 1) by simp only [seStep, h0, h1, cond_true, cond_false])
  unfold callV
  go_enter Try.func73, Try.ntmps73
  go_wp2
  go_returns
  rw [E.out]
  exact ⟨rfl, ⟨by (try unfold seIn); (try dsimp only); (repeat (with_reducible first | apply hp_alloc | apply hp_drewN | apply hp_put1 | apply hp_put30 | apply hp_put31 | apply hp_put32 | (refine hp_far ?_ (by simp; omega) _))); exact HA.out, by have := HI.out.2; have : s ≠ 0 := (by simpa using h1); dsimp only; omega⟩, by (repeat (with_reducible first | apply gb_alloc | apply gb_drewN | apply gb_set | (refine gb_new ?_ (by simp) _))); exact gb_refl _ _⟩
theorem seCall (a : Nat) (s : Int) (k who v : Int) (w : World) (ha : seIn w a s) :
    Calls Try.prog 73 #[.pointer (some ⟨a, 0, none⟩), callV k who v] w fun e w' =>
      e = .returned (ansV (seStep k who v s).1) ∧ seIn w' a (seStep k who v s).2 ∧ w.grownBy w' (some a) := by
  cases h1 : (k == 4)
  · cases h2 : (s == 0)
    · exact seCall_3 a s k who v w ha h1 h2
    · exact seCall_2 a s k who v w ha h1 h2
  · cases h2 : decide (99 ≤ s)
    · exact seCall_1 a s k who v w ha h1 h2
    · exact seCall_0 a s k who v w ha h1 h2

def seAt (w : World) (p a : Nat) (s : Int) : Prop := w.heap[p]? = some (.cells #[.iface 68 (.pointer (some ⟨a, 0, none⟩))] 67 (0, 0)) ∧ seIn w a s
theorem seAt_below {w w1 : World} {p a : Nat} {s : Int} (h : seAt w p a s) (hb : Below w.heap.size w w1) : seAt w1 p a s := ⟨hp_below h.1 hb, seIn_below h.2 hb⟩
theorem seAt_alloc {w : World} {p a : Nat} {s : Int} (h : seAt w p a s) (o : Obj) : seAt (w.alloc o) p a s := seAt_below h ((Below.refl _ _).alloc (Nat.le_refl _) o)
theorem seAt_drewN {w : World} {p a : Nat} {s : Int} (h : seAt w p a s) (n : Nat) : seAt (w.drewN n) p a s := seAt_below h ⟨rfl, rfl, rfl, Nat.le_refl _, fun _ _ => rfl⟩
theorem seAt_far {w : World} {p a g : Nat} {s : Int} {cs : Array Value} {t : TypeId} (h : seAt w p a s) (hg : w.heap[g]? = some (.cells cs t (0, 0))) (h1 : t ≠ 67) (h2 : t ≠ 70) (h3 : t ≠ 37) (j : Nat) (u : Value) : seAt (w.setCell ⟨g, j, none⟩ u) p a s :=
  ⟨hp_far h.1 (hp_ne h.1 hg h1.symm) u, seIn_far h.2 hg h2 h3 j u⟩
theorem seAt_other {w w1 : World} {p a g : Nat} {s : Int} {cs : Array Value} {t : TypeId} (h : seAt w p a s) (hg : w.heap[g]? = some (.cells cs t (0, 0))) (hgr : w.grownBy w1 (some g)) (h1 : t ≠ 67) (h2 : g ≠ a) (h3 : t ≠ 37) : seAt w1 p a s :=
  ⟨hp_grown h.1 hgr (by have := hp_ne h.1 hg h1.symm; simpa using this), seIn_other h.2 hg hgr h2 h3⟩

theorem seTakes (x : Value) (k : Int) (w : World) : Calls Try.prog 76 #[x, .int .u8 k] w fun e w' => e = .returned (.bool (seTk k)) ∧ w = w' := by
  unfold seTk
  cases h1 : (k == 3) <;> cases h2 : (k == 4)
  all_goals
    go_enter Try.func76, Try.ntmps76
    go_wp2
    go_ret
    exact ⟨by simp, rfl⟩
theorem seTakesO (p a : Nat) (s : Int) (k : Int) (w : World) (H : seAt w p a s) : Calls Try.prog 39 #[.pointer (some ⟨p, 0, none⟩), .int .u8 k] w fun e w' => e = .returned (.bool (seTk k)) ∧ w = w' := by
  have hc : w.cell? ⟨p, 0, none⟩ = some (.iface 68 (.pointer (some ⟨a, 0, none⟩))) := hp_cell H.1 0
  go_enter Try.func39, Try.ntmps39
  go_wp2_with (go_at_call 76; refine (seTakes _ _ _).mono ?_; rintro e w' ⟨rfl, rfl⟩)
  go_ret
  exact ⟨rfl, rfl⟩
set_option maxRecDepth 100000 in
theorem seDo_ok (p a : Nat) (s : Int) (k who v : Int) (hv : W64 v) (w : World) (H : seAt w p a s) (h1 : seTk k = true) (h2 : decide (who < 0) = false) (h3 : decide (4 ≤ who) = false) (h4 : fitsB k v = true) :
    Calls Try.prog 34 #[.pointer (some ⟨p, 0, none⟩), callV k who v] w fun e w' => e = .returned (ansV (seStep k who v s).1) ∧ seAt w' p a (seStep k who v s).2 ∧ w.grownBy w' (some a) := by
  have hne : p ≠ a := se_ne H
  have hl := hp_lt H.1
  have hl' := seIn_lt H.2
  have HH := Lib.hid H
  clear H
  unfold callV
  go_enter Try.func34, Try.ntmps34
  go_wp2_with (first | (go_at_call 39; refine (seTakesO p a s k _ (seAt_alloc (seAt_alloc HH.out _) _)).mono ?_; rintro e w' ⟨rfl, rfl⟩) | (go_at_call 40; refine (fits_any k who v hv _).mono ?_; rintro e w1 ⟨rfl, hb⟩))
  have h1_ := seAt_below (seAt_alloc (seAt_alloc HH.out _) _) hb
  have hx : w1.heap[w.heap.size]? = some (.cells #[.int .u8 k, .int .i64 who, .int .u64 v] 39 (0, 0)) := hp_below (hp_alloc (heap_alloc_new w _) _) hb
  have hy : w1.heap[w.heap.size + 1]? = some (.cells #[.int .u64 0, .bool false, .int .i64 0] 83 (0, 0)) := hp_below ((congrArg _ (by simp)).trans (heap_alloc_new (w.alloc _) _)) hb
  have hg : w.grownBy w1 (some a) := gb_trans (gb_alloc (gb_alloc (gb_refl w _) _) _) (gb_below hb)
  have hcp : w1.cell? ⟨p, 0, none⟩ = some (.iface 68 (.pointer (some ⟨a, 0, none⟩))) := hp_cell h1_.1 0
  have hx0 : w1.cell? ⟨w.heap.size, 0, none⟩ = some (.int .u8 k) := hp_cell hx 0
  have hx1 : w1.cell? ⟨w.heap.size, 1, none⟩ = some (.int .i64 who) := hp_cell hx 1
  have hx2 : w1.cell? ⟨w.heap.size, 2, none⟩ = some (.int .u64 v) := hp_cell hx 2
  have HA := Lib.hid h1_
  have HY := Lib.hid hy
  have HL : Hid _ := Lib.hid (show a ≠ w.heap.size + 1 ∧ p ≠ w.heap.size + 1 by omega)
  clear h1_ hx hy hb hl hl'
  go_still_tail 5, (by kernel_rfl)
  go_wp2_with (go_at_call 73; refine (seCall a s k who v w1.drew (seIn_below HA.out.2 ⟨rfl, rfl, rfl, Nat.le_refl _, fun _ _ => rfl⟩)).mono ?_; rintro e w2 ⟨he, ha2, hg2⟩; simp only [ansV] at he; subst he; have hy2 := hp_grown (w := w1.drew) HY.out hg2 (by have := HL.out; simp; omega); have y0 : w2.cell? ⟨w.heap.size + 1, 0, none⟩ = some (.int .u64 0) := hp_cell hy2 0; have y1 : w2.cell? ⟨w.heap.size + 1, 1, none⟩ = some (.bool false) := hp_cell hy2 1; have y2 : w2.cell? ⟨w.heap.size + 1, 2, none⟩ = some (.int .i64 0) := hp_cell hy2 2; have z0 := hp_frozen hy2 0; have z1 := hp_frozen hy2 1; have z2 := hp_frozen hy2 2; have HY2 := Lib.hid hy2; have HA2 := Lib.hid ha2; clear hy2 ha2)
  refine bodyPost_ret (by simp [results, Try.results34, go_sem, y0, y1, y2]; try rfl) rfl ?_
  have hA2 : seAt w2 p a (seStep k who v s).2 := ⟨hp_grown (w := w1.drew) HA.out.1 hg2 (by simp; omega), HA2.out⟩
  refine ⟨rfl, seAt_far (seAt_far (seAt_far hA2 HY2.out (by decide) (by decide) (by decide) 0 _) (hp_put30 HY2.out _) (by decide) (by decide) (by decide) 1 _) (hp_put31 (hp_put30 HY2.out _) _) (by decide) (by decide) (by decide) 2 _, ?_⟩
  (repeat (with_reducible refine gb_new ?_ (by simp) _)); exact gb_trans hg (gb_trans (gb_drew (gb_refl _ _)) hg2)
theorem seDo_bad1 (p a : Nat) (s : Int) (k who v : Int) (w : World) (H : seAt w p a s) (h : seTk k = false ∨ (seTk k = true ∧ decide (who < 0) = true) ∨ (seTk k = true ∧ decide (who < 0) = false ∧ decide (4 ≤ who) = true)) :
    Calls Try.prog 34 #[.pointer (some ⟨p, 0, none⟩), callV k who v] w fun e w' => e = .returned (ansV (aErr 3)) ∧ seAt w' p a s ∧ w.grownBy w' (some a) := by
  have HH := Lib.hid H
  clear H
  unfold callV
  rcases h with h1 | ⟨h1, h2⟩ | ⟨h1, h2, h3⟩
  all_goals
    go_enter Try.func34, Try.ntmps34
    go_wp2_with (go_at_call 39; refine (seTakesO p a s k _ (seAt_alloc (seAt_alloc HH.out _) _)).mono ?_; rintro e w' ⟨rfl, rfl⟩)
    go_returns
    exact ⟨rfl, by (repeat with_reducible apply seAt_alloc); exact HH.out, by (repeat (with_reducible first | apply gb_alloc | apply gb_drewN | apply gb_set | (refine gb_new ?_ (by simp) _))); exact gb_refl _ _⟩
theorem seDo_bad2 (p a : Nat) (s : Int) (k who v : Int) (hv : W64 v) (w : World) (H : seAt w p a s) (h1 : seTk k = true) (h2 : decide (who < 0) = false) (h3 : decide (4 ≤ who) = false) (h4 : fitsB k v = false) :
    Calls Try.prog 34 #[.pointer (some ⟨p, 0, none⟩), callV k who v] w fun e w' => e = .returned (ansV (aErr 3)) ∧ seAt w' p a s ∧ w.grownBy w' (some a) := by
  have HH := Lib.hid H
  clear H
  unfold callV
  go_enter Try.func34, Try.ntmps34
  go_wp2_with (first | (go_at_call 39; refine (seTakesO p a s k _ (seAt_alloc (seAt_alloc HH.out _) _)).mono ?_; rintro e w' ⟨rfl, rfl⟩) | (go_at_call 40; refine (fits_any k who v hv _).mono ?_; rintro e w1 ⟨rfl, hb⟩; have HA := Lib.hid (seAt_below (seAt_alloc (seAt_alloc HH.out _) _) hb); have hy : w1.heap[w.heap.size + 1]? = some (.cells #[.int .u64 0, .bool false, .int .i64 0] 83 (0, 0)) := hp_below ((congrArg _ (by simp)).trans (heap_alloc_new (w.alloc _) _)) hb; have hg : w.grownBy w1 (some a) := gb_trans (gb_alloc (gb_alloc (gb_refl w _) _) _) (gb_below hb); have y0 : w1.cell? ⟨w.heap.size + 1, 0, none⟩ = some (.int .u64 0) := hp_cell hy 0; have y1 : w1.cell? ⟨w.heap.size + 1, 1, none⟩ = some (.bool false) := hp_cell hy 1; have y2 : w1.cell? ⟨w.heap.size + 1, 2, none⟩ = some (.int .i64 0) := hp_cell hy 2; have z0 := hp_frozen hy 0; have z1 := hp_frozen hy 1; have z2 := hp_frozen hy 2; have HY := Lib.hid hy; clear hy hb))
  refine bodyPost_ret (by simp [results, Try.results34, go_sem, y0, y1, y2]; try rfl) rfl ?_
  refine ⟨rfl, seAt_far (seAt_far (seAt_far HA.out HY.out (by decide) (by decide) (by decide) 0 _) (hp_put30 HY.out _) (by decide) (by decide) (by decide) 1 _) (hp_put31 (hp_put30 HY.out _) _) (by decide) (by decide) (by decide) 2 _, ?_⟩
  (repeat (with_reducible refine gb_new ?_ (by simp) _)); exact hg
def seDo (k who v : Int) (s : Int) : (Int × Bool × Int) × Int := bif badB (seTk k) k who v then (aErr 3, s) else seStep k who v s
theorem seDo_any (p a : Nat) (s : Int) (k who v : Int) (hv : W64 v) (w : World) (H : seAt w p a s) :
    Calls Try.prog 34 #[.pointer (some ⟨p, 0, none⟩), callV k who v] w fun e w' => e = .returned (ansV (seDo k who v s).1) ∧ seAt w' p a (seDo k who v s).2 ∧ w.grownBy w' (some a) := by
  unfold seDo badB
  cases h1 : seTk k
  · exact seDo_bad1 p a s k who v w H (.inl h1)
  · cases h2 : decide (who < 0)
    · cases h3 : decide (4 ≤ who)
      · cases h4 : fitsB k v
        · exact seDo_bad2 p a s k who v hv w H h1 h2 h3 h4
        · exact seDo_ok p a s k who v hv w H h1 h2 h3 h4
      · exact seDo_bad1 p a s k who v w H (.inr (.inr ⟨h1, h2, h3⟩))
    · exact seDo_bad1 p a s k who v w H (.inr (.inl ⟨h1, h2⟩))
theorem ta_se_0 (x : Addr) (w : World) : (Instr.typeAssert (.iface 68 (.pointer (some x))) 65 61 true).run Try.prog w = .ok (.tuple #[.pointer none, .bool false]) w := by kernel_rfl
theorem ta_se_1 (x : Addr) (w : World) : (Instr.typeAssert (.iface 68 (.pointer (some x))) 65 68 true).run Try.prog w = .ok (.tuple #[.pointer (some x), .bool true]) w := by kernel_rfl
end Go.Proofs.Ytbanfaboimachaa
