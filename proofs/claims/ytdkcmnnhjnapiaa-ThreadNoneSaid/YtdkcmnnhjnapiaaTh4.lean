
/-
  A thread: New; inside, Get; the block.
-/
import Derived.Test.YtdkcmnnhjnapiaaTh3
namespace Go.Proofs.Ytdkcmnnhjnapiaa
open Go.RowKit Go.ChangeShapes Go.WideShapes
set_option linter.unusedSimpArgs false
set_option linter.unusedVariables false

def sZ : St := ⟨0, [], 0, 0, 0, 0, []⟩
theorem prX_of {w : World} {base c : Nat} {A : Option Addr} {l : List Ins3} (h : NRow w base A c l) (hl : 1 ≤ l.length) : ∃ p, A = some ⟨p, 0, none⟩ ∧ base ≤ p ∧ PrX w p l := by
  rcases h.1.2 with ⟨hv, h0⟩ | ⟨g, cap, cur, hv, hb, hg, hcap, hm, hs, ht⟩
  · omega
  · simp only [Value.slice.injEq] at hv
    refine ⟨g, hv.1, hb, cur, hg, fun j u hj => ?_⟩
    rw [← ht, List.getElem?_take] at hj
    split at hj
    · rwa [Array.getElem?_toList] at hj
    · cases hj
theorem prX_inss {w : World} {p : Nat} {l : List Ins3} (h : PrX w p l) (hok : ∀ x ∈ l, x.ok) (hl : l.length ≤ 1000) : InssAt w (some ⟨p, 0, none⟩) l := by
  obtain ⟨cs, h1, h2⟩ := h
  refine ⟨by unfold maxLen; omega, fun j s hs => ⟨_, rfl, hok s (List.mem_of_getElem? hs), ?_⟩⟩
  have key : ∀ i u, (inC s)[i]? = some u → w.cell? ⟨p, j * 3 + i, none⟩ = some u := fun i u hu => by
    rw [hp_cell h1]
    have := insC_at l j s hs i u hu
    exact h2 _ _ (by simpa using this)
  have e : (Addr.add ⟨p, 0, none⟩ (j * 3)) = ⟨p, j * 3, none⟩ := by rw [add_at, Nat.zero_add]
  rw [e]
  exact ⟨key 0 _ rfl, key 1 _ rfl, key 2 _ rfl⟩
set_option maxRecDepth 20000 in
set_option maxHeartbeats 8000000 in
theorem inside_4 (W : World) (t f p n c : Nat) (iv : Value) (l : List Ins3) (s : St) (A1 : Option Addr) (c1 : Nat) (k0 ak0 tv0 v0 e0 ag vv : Int) (hn : s.stk.length ≤ 11) (b : Nat) (q0 q1 q2 q3 q4 q5 q6 : Value) (w : World) (ht : w.heap[t]? = some (.cells (thC f p n c iv k0 ak0 tv0 v0 e0) 56 (0, 0))) (hr : RsX W w t f p l s A1 c1) (hb : w.heap[b]? = some (.cells #[q0, q1, q2, q3, q4, q5, q6, .slice none 0 0] 67 (0, 0))) :
    Calls Try.prog 21 #[.pointer (some ⟨t, 0, none⟩), .pointer (some ⟨b, 0, none⟩), .agg #[.int .u8 4, .int .i64 ag, .int .u64 vv]] w (fun x w' => ∃ A2 c2, TellPost W w t f p n c iv l s A2 c2 2 1 ag 0 0 x w') := by
  have z1 := (Below.refl w.heap.size w).alloc (Nat.le_refl _) (.cells #[.int .u8 4, .int .i64 ag, .int .u64 vv] 53)
  have z2 := z1.alloc z1.size (.cells #[.int .u8 0, .int .u8 0, .int .i64 0, .int .u64 0, .int .i64 0] 33)
  have X2 := Lib.hid (hp_alloc (heap_alloc_new w (.cells #[.int .u8 4, .int .i64 ag, .int .u64 vv] 53)) (.cells #[.int .u8 0, .int .u8 0, .int .i64 0, .int .u64 0, .int .i64 0] 33))
  have Y2 := Lib.hid (show ((w.alloc (.cells #[.int .u8 4, .int .i64 ag, .int .u64 vv] 53)).alloc (.cells #[.int .u8 0, .int .u8 0, .int .i64 0, .int .u64 0, .int .i64 0] 33)).heap[w.heap.size + 1]? = some (.cells #[.int .u8 0, .int .u8 0, .int .i64 0, .int .u64 0, .int .i64 0] 33 (0, 0)) from (congrArg _ (by simp)).trans (heap_alloc_new (w.alloc (.cells #[.int .u8 4, .int .i64 ag, .int .u64 vv] 53)) (.cells #[.int .u8 0, .int .u8 0, .int .i64 0, .int .u64 0, .int .i64 0] 33)))
  have T2 := Lib.hid (hp_below ht z2)
  have R2 := Lib.hid (hr.below z2)
  have GB := Lib.hid (And.intro hr.bl.size (And.intro (hp_lt ht) (hp_lt hr.hf)))
  have F2 := Lib.hid (TFr.of (t := t) (f := f) z2)
  have Z2 := Lib.hid (hp_below hb z2)
  clear ht hr z1 z2 hb
  go_enter Try.func21, Try.ntmps21
  go_upto_region 1 with fail
  generalize World.alloc _ _ = w2 at X2 Y2 T2 R2 F2 Z2 ⊢
  obtain ⟨g, hg⟩ : ∃ g, w.heap.size = g := ⟨_, rfl⟩
  obtain ⟨r, hr⟩ : ∃ r, w.heap.size + 1 = r := ⟨_, rfl⟩
  have GR := Lib.hid (show W.heap.size ≤ r ∧ w.heap.size ≤ r ∧ w.heap.size ≤ g ∧ W.heap.size ≤ g by have := GB.out.1; omega)
  rw [hg] at X2 GB
  rw [hr] at Y2
  rw [hr, hg]
  have ne1 : g ≠ r := by omega
  have ne2 : r ≠ g := by omega
  have ne3 : t ≠ g := by have := GB.out.2.1; omega
  have ne4 : t ≠ r := by have := GB.out.2.1; omega
  have ne5 : g ≠ t := fun e => ne3 e.symm
  have ne6 : r ≠ t := fun e => ne4 e.symm
  have ne7 : g ≠ f := by have := GB.out.2.2; omega
  have ne8 : r ≠ f := by have := GB.out.2.2; omega
  clear hg hr
  have x0 : w2.cell? ⟨g, 0, none⟩ = some (.int .u8 4) := hp_cell (X2.out) 0; have x1 : w2.cell? ⟨g, 1, none⟩ = some (.int .i64 ag) := hp_cell (X2.out) 1; have x2 : w2.cell? ⟨g, 2, none⟩ = some (.int .u64 vv) := hp_cell (X2.out) 2; have xl := hp_lt (X2.out)
  have z7 : w2.cell? ⟨b, 7, none⟩ = some (.slice none 0 0) := hp_cell Z2.out 7
  have zl := hp_lt Z2.out
  go_wp2_with (go_at_call 35; refine (variable_4 W t f p n c iv l s A1 c1 k0 ak0 tv0 v0 e0 ag vv hn w2 T2.out R2.out).mono ?_; rintro x w3 ⟨Aq, cq, rfl, ht3, hr3, hf3⟩; have T3 := Lib.hid ht3; have R3 := Lib.hid hr3; have F3 := Lib.hid (F2.out.trans hf3); have Y3 := Lib.hid (hf3.hp Y2.out ne6 ne8); have y0 : w3.cell? ⟨r, 0, none⟩ = some (.int .u8 0) := hp_cell (Y3.out) 0; have yz0 := hp_frozen (Y3.out) 0; have y1 : w3.cell? ⟨r, 1, none⟩ = some (.int .u8 0) := hp_cell (Y3.out) 1; have yz1 := hp_frozen (Y3.out) 1; have y2 : w3.cell? ⟨r, 2, none⟩ = some (.int .i64 0) := hp_cell (Y3.out) 2; have yz2 := hp_frozen (Y3.out) 2; have y3 : w3.cell? ⟨r, 3, none⟩ = some (.int .u64 0) := hp_cell (Y3.out) 3; have yz3 := hp_frozen (Y3.out) 3; have y4 : w3.cell? ⟨r, 4, none⟩ = some (.int .i64 0) := hp_cell (Y3.out) 4; have yz4 := hp_frozen (Y3.out) 4; have yl := hp_lt (Y3.out); clear ht3 hr3 hf3)
  refine bodyPost_ret (by simp [results, Try.results21, go_sem, y0, y1, y2, y3, y4, ne1, ne2]; try rfl) rfl ?_
  have c0 := hp_put (cs' := #[.int .u8 2, .int .u8 0, .int .i64 0, .int .u64 0, .int .i64 0]) Y3.out 0 (.int .u8 2) (by simp)
  have d0 := hp_far (p := ⟨r, 0, none⟩) T3.out ne4 (.int .u8 2)
  have e0 := R3.out.set Y3.out (by decide) (by decide) (by decide) GR.out.1 0 (.int .u8 2)
  have c1 := hp_put (cs' := #[.int .u8 2, .int .u8 1, .int .i64 0, .int .u64 0, .int .i64 0]) c0 1 (.int .u8 1) (by simp)
  have d1 := hp_far (p := ⟨r, 1, none⟩) d0 ne4 (.int .u8 1)
  have e1 := e0.set c0 (by decide) (by decide) (by decide) GR.out.1 1 (.int .u8 1)
  have c2 := hp_put (cs' := #[.int .u8 2, .int .u8 1, .int .i64 ag, .int .u64 0, .int .i64 0]) c1 2 (.int .i64 ag) (by simp)
  have d2 := hp_far (p := ⟨r, 2, none⟩) d1 ne4 (.int .i64 ag)
  have e2 := e1.set c1 (by decide) (by decide) (by decide) GR.out.1 2 (.int .i64 ag)
  have c3 := hp_put (cs' := #[.int .u8 2, .int .u8 1, .int .i64 ag, .int .u64 0, .int .i64 0]) c2 3 (.int .u64 0) (by simp)
  have d3 := hp_far (p := ⟨r, 3, none⟩) d2 ne4 (.int .u64 0)
  have e3 := e2.set c2 (by decide) (by decide) (by decide) GR.out.1 3 (.int .u64 0)
  have c4 := hp_put (cs' := #[.int .u8 2, .int .u8 1, .int .i64 ag, .int .u64 0, .int .i64 0]) c3 4 (.int .i64 0) (by simp)
  have d4 := hp_far (p := ⟨r, 4, none⟩) d3 ne4 (.int .i64 0)
  have e4 := e3.set c3 (by decide) (by decide) (by decide) GR.out.1 4 (.int .i64 0)
  exact ⟨Aq, cq, rfl, d4, e4, (((((F3.out.new GR.out.2.1 _ _).new GR.out.2.1 _ _).new GR.out.2.1 _ _).new GR.out.2.1 _ _).new GR.out.2.1 _ _)⟩
set_option maxRecDepth 20000 in
set_option maxHeartbeats 8000000 in
theorem new_th (g c : Nat) (l : List Ins3) (h : l.length ≤ c) (h1 : 1 ≤ l.length) (h4 : l.length ≤ 64) (w W : World) (hi : InssAt w (some ⟨g, 0, none⟩) l) (hW : Below W.heap.size W w) : Calls Try.prog 16 #[.slice (some ⟨g, 0, none⟩) l.length c] w fun e w' => (∃ t f p c', e = .returned (.pointer (some ⟨t, 0, none⟩)) ∧ w'.heap[t]? = some (.cells (thC f p l.length c' .nilIface 0 0 0 0 0) 56 (0, 0)) ∧ RsX W w' t f p l sZ none 0) ∧ Below w.heap.size w w' := by
  have HI := Lib.hid hi
  have HW := Lib.hid hW
  have HL := Lib.hid (And.intro h (And.intro h1 h4))
  have t1 : decide ((l.length : Int) < 1) = false := decide_eq_false (by omega)
  have t2 : decide ((l.length : Int) > 64) = false := decide_eq_false (by omega)
  have t3 : decide ((64 : Int) < (l.length : Int)) = false := t2
  have X1 := Lib.hid (show (w.alloc (.cells #[.int .i64 0, .slice none 0 0, .int .u64 0, .int .u64 0, .int .u64 0, .int .u64 0, .slice none 0 0] 58)).heap[w.heap.size]? = some (.cells (stC sZ none 0 none 0) 58 (0, 0)) from heap_alloc_new w _)
  have B1 := Lib.hid ((Below.refl w.heap.size w).alloc (Nat.le_refl _) (.cells #[.int .i64 0, .slice none 0 0, .int .u64 0, .int .u64 0, .int .u64 0, .int .u64 0, .slice none 0 0] 58))
  clear hi hW h h1 h4
  go_enter Try.func16, Try.ntmps16
  go_wp2_with (go_at_call 30; refine (clone_inss ⟨g, 0, none⟩ c l HL.out.1 (by have := HL.out; omega) (fun x hx => by obtain ⟨j, hj, rfl⟩ := List.getElem_of_mem hx; obtain ⟨_, _, hh⟩ := HI.out.2 j _ (List.getElem?_eq_getElem hj); exact hh.1) _ (fun j u hu => by exact (B1.out.cell (World.block_lt_of_cell? w _ (inss_cells HI.out j u hu))).trans (inss_cells HI.out j u hu))).mono ?_; rintro e w3 ⟨A', c', rfl, hr3, hb3⟩; have R3 := Lib.hid hr3; have B3 := Lib.hid hb3; clear hr3 hb3)
  go_ret
  obtain ⟨p, hp, hpb, hpx⟩ := prX_of R3.out HL.out.2.1
  subst hp
  obtain ⟨cs, h1, h2⟩ := hpx
  have hz := (Below.refl w3.heap.size w3).alloc (Nat.le_refl _) (.cells (thC w.heap.size p l.length c' .nilIface 0 0 0 0 0) 56)
  have hb : Below w.heap.size w (w3.alloc (.cells (thC w.heap.size p l.length c' .nilIface 0 0 0 0 0) 56)) := (B1.out.trans (B3.out.mono B1.out.size)).trans (hz.mono (Nat.le_trans B1.out.size B3.out.size))
  exact ⟨⟨_, _, _, _, rfl, heap_alloc_new w3 _, hp_below (hp_below X1.out B3.out) hz, ⟨cs, hp_below h1 hz, h2⟩, row_nil _ 0, HW.out.trans (hb.mono HW.out.size), by have a := HW.out.size; have b := (B1.out.trans (B3.out.mono B1.out.size)).size; omega, HW.out.size⟩, hb⟩
end Go.Proofs.Ytdkcmnnhjnapiaa
