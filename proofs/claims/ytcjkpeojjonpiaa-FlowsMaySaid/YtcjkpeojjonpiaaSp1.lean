
/-
  spec: the state of a walk in memory; need, yes, variable, special, push, pop, jump.
-/
import Derived.Test.YtcjkpeojjonpiaaCode2
import Derived.Test.YtcjkpeojjonpiaaRowv
import Derived.RegionTactic
import Derived.ChangeAlike
import Derived.BigRegion
import Derived.Deep.RegionLaw
import Derived.Deep.RegionHeld3
import Derived.Deep.CutBlock
import Derived.ChangeSlices
import Derived.WalkSpells
import Derived.WalkLawsBesides
namespace Go.Proofs.Ytcjkpeojjonpiaa
open Go.RowKit Go.ChangeShapes Go.WideShapes
set_option linter.unusedSimpArgs false
set_option linter.unusedVariables false

structure St where
  pc : Int
  stk : List Int
  la : Int
  lb : Int
  lc : Int
  ld : Int
  out : List Int
def St.ok (s : St) : Prop := I64 s.pc ∧ W64 s.la ∧ W64 s.lb ∧ W64 s.lc ∧ W64 s.ld
structure Pl where
  A1 : Option Addr
  c1 : Nat
  A2 : Option Addr
  c2 : Nat
  A3 : Option Addr
  c3 : Nat
/-- The foreign blocks stay as they are. -/
structure Fr (F : Nat → Prop) (w w' : World) : Prop where
  os : w'.os = w.os
  tape : w'.tape = w.tape
  output : w'.output = w.output
  size : w.heap.size ≤ w'.heap.size
  block : ∀ k, F k → w'.heap[k]? = w.heap[k]?
theorem Fr.refl (F : Nat → Prop) (w : World) : Fr F w w := ⟨rfl, rfl, rfl, Nat.le_refl _, fun _ _ => rfl⟩
theorem Fr.trans {F : Nat → Prop} {a b c : World} (h : Fr F a b) (k : Fr F b c) : Fr F a c :=
  ⟨k.os.trans h.os, k.tape.trans h.tape, k.output.trans h.output, Nat.le_trans h.size k.size, fun i hi => (k.block i hi).trans (h.block i hi)⟩
theorem Fr.below {F : Nat → Prop} {w w1 : World} (hb : Below w.heap.size w w1) (hl : ∀ k, F k → k < w.heap.size) : Fr F w w1 :=
  ⟨hb.os, hb.tape, hb.output, hb.size, fun k hk => hb.block k (hl k hk)⟩
theorem Fr.grown {F : Nat → Prop} {w w1 : World} {r : Option Nat} (hg : w.grownBy w1 r) (hl : ∀ k, F k → k < w.heap.size) (hr : ∀ k, F k → some k ≠ r) : Fr F w w1 :=
  ⟨hg.os, hg.tape, hg.output, hg.size, fun k hk => hg.block k (hl k hk) (hr k hk)⟩
theorem Fr.set {F : Nat → Prop} (w : World) {g : Nat} (hg : ¬ F g) (j : Nat) (u : Value) : Fr F w (w.setCell ⟨g, j, none⟩ u) :=
  ⟨rfl, rfl, rfl, by simp [World.setCell], fun k hk => Below.heap_setCell w ⟨g, j, none⟩ u k (fun e => hg (by rw [← show k = g from e]; exact hk))⟩
theorem Fr.mono {F F' : Nat → Prop} {w w1 : World} (h : Fr F w w1) (hs : ∀ k, F' k → F k) : Fr F' w w1 := ⟨h.os, h.tape, h.output, h.size, fun k hk => h.block k (hs k hk)⟩
theorem Fr.toBelow {F : Nat → Prop} {w w1 : World} (h : Fr F w w1) {B : Nat} (hs : ∀ k, k < B → F k) : Below B w w1 := ⟨h.os, h.tape, h.output, h.size, fun k hk => h.block k (hs k hk)⟩
theorem Fr.hp {F : Nat → Prop} {w w1 : World} (h : Fr F w w1) {k : Nat} {o : Obj} (hk : w.heap[k]? = some o) (hF : F k) : w1.heap[k]? = some o := (h.block k hF).trans hk

theorem Fr.drew1 (F : Nat → Prop) (w : World) : Fr F w w.drew := ⟨rfl, rfl, rfl, Nat.le_refl _, fun _ _ => rfl⟩
theorem row_far {w : World} {base c r : Nat} {A : Option Addr} {l : List Int} {cs : Array Value} {t : TypeId} (h : RowAt w base A c l) (hr : w.heap[r]? = some (.cells cs t (0, 0))) (ht : t ≠ 25) (j : Nat) (u : Value) : RowAt (w.setCell ⟨r, j, none⟩ u) base A c l :=
  row_other h (gb_set (gb_refl w (some r)) j u) (fun k hk => by
    obtain ⟨cs', h'⟩ := row_typed h k hk
    have := hp_ne h' hr ht.symm
    simpa using this)
theorem row_pop {w : World} {base c : Nat} {A : Option Addr} {l : List Int} {v : Int} (h : RowAt w base A c (l ++ [v])) : RowAt w base A c l := by
  refine ⟨?_, fun x hx => h.2 x (List.mem_append.mpr (.inl hx))⟩
  obtain ⟨h1, h2⟩ := h.1
  refine ⟨by rw [valsC_len]; omega, ?_⟩
  rcases h2 with ⟨hv, h0⟩ | ⟨g, cap, cur, hv, hb, hg, hcap, hm, hs, ht⟩
  · simp at h0
  · simp only [Value.slice.injEq] at hv
    obtain ⟨e1, _, e3⟩ := hv
    simp only [List.length_append, List.length_singleton] at hcap ht
    refine .inr ⟨g, cap, cur, by rw [e1, ← e3], hb, hg, by omega, hm, hs, ?_⟩
    have e : valsC l = (valsC (l ++ [v])).take l.length := by
      rw [valsC_append, List.take_append_of_le_length (by rw [valsC_len]; omega), List.take_of_length_le (by rw [valsC_len]; omega)]
    rw [e, ← ht, List.take_take]
    congr 1
    simp
theorem row_cap {w : World} {base c : Nat} {A : Option Addr} {l : List Int} (h : RowAt w base A c l) : l.length ≤ c ∧ (A = none → c = 0) := by
  obtain ⟨A', c', hv, h2, _, h3, h4, _⟩ := vals_own (ok := fun _ => True) h.1 h.2 (fun _ _ => trivial)
  simp only [Value.slice.injEq, true_and] at hv
  obtain ⟨rfl, rfl⟩ := hv
  exact ⟨h2, h4⟩
theorem row_fr {F : Nat → Prop} {w w1 : World} {base c : Nat} {A : Option Addr} {l : List Int} (h : RowAt w base A c l) (hf : Fr F w w1) (hA : ∀ k, blk A = some k → F k) : RowAt w1 base A c l := by
  refine ⟨?_, h.2⟩
  obtain ⟨h1, h2⟩ := h.1
  refine ⟨h1, ?_⟩
  rcases h2 with h2 | ⟨g, cap, cur, hv, hb, hg, hcap, hm, hs, ht⟩
  · exact .inl h2
  · refine .inr ⟨g, cap, cur, hv, hb, (hf.block g (hA g ?_)).trans hg, hcap, hm, hs, ht⟩
    simp only [Value.slice.injEq] at hv
    rw [hv.1]
    rfl

theorem step_append_vat {ok : Nat → Prop} {ops : Array Oper} {o : Oper} {a : Act} {w : World} {K : Act → World → Prop} {Q : Exit → Act → World → Prop} {E : Prop} (hg : o.guard = none) (s x : Operand)
    (ho : o.op = .call { callee := .builtin .append, args := #[s, x], argTypes := #[47, 47] })
    (base : Nat) (A0 : Option Addr) (c0 : Nat) (xs : List Int) (hs : a.eval s = .slice A0 xs.length c0) (hr : RowAt w base A0 c0 xs) (b : Addr) (c : Nat) (src : List Int) (hx : a.eval x = .slice (some b) src.length c)
    (hv : ValsAt ok w (some b) src) (hlen : xs.length + src.length ≤ 1000) (hbase : base ≤ w.heap.size) (l' : List Int) (hl : xs ++ src = l')
    (h : ∀ A' c' w', RowAt w' base A' c' l' → w.grownBy w' (blk A0) → (blk A' = blk A0 ∨ blk A' = some w.heap.size) → K (a.put o.dst (.slice A' l'.length c')) w') :
    if Region.wanted o (yielded ops a.tmps) = true then Oper.wp Try.prog o a w K Q else E := by
  have hw : Region.wanted o (yielded ops a.tmps) = true := by simp [Region.wanted, hg]
  rw [if_pos hw]
  subst hl
  obtain ⟨i0, hi, hz0, hz1, hz2⟩ := info_parts Val_info
  obtain ⟨v', w', hrun, h1, h2, _, h3⟩ := run_append_own_at (P := Try.prog) w base 47 o.type 25 i0 (.int .u64 0) 1 8 Try.underlying47 hi hz0 hz1 hz2 rfl (by decide) _ xs.length (valsC xs) hr.1 b src.length c (valsC src) (by rw [valsC_len, Nat.mul_one]) (vals_cell hv) (valsC_one src) (by unfold maxLen; omega) (by omega) hbase
  unfold Oper.wp
  simp [execOp, ho, resolve, invoke, builtin, hs, hx, hrun, Result.andThen]
  obtain ⟨A', c', rfl, hrow⟩ := row_of (l := xs ++ src) (by rw [List.length_append, valsC_append]; exact h1) (fun x hx => by rcases List.mem_append.mp hx with hx | hx; exact hr.2 x hx; exact hv.1 x hx)
  rw [blk_own] at h2 h3
  rw [blk_own] at h3
  exact h A' c' w' hrow h2 h3
def wkL (I : Value) (s : St) (n : Nat) (p : Pl) (X : List Value) : Array Value :=
  (I :: .int .i64 s.pc :: .slice p.A1 s.stk.length p.c1 :: .int .u64 s.la :: .int .u64 s.lb :: .int .u64 s.lc :: .int .u64 s.ld :: .slice p.A2 s.out.length p.c2 :: .slice p.A3 n p.c3 :: X).toArray
/-- A walk stands in block g, of type T (its own, or a block's: X is what comes behind); F: what it may not touch. -/
structure WK (F : Nat → Prop) (w : World) (g : Nat) (T : TypeId) (X : List Value) (I : Value) (s : St) (hp : List Int) (p : Pl) : Prop where
  cells : w.heap[g]? = some (.cells (wkL I s hp.length p X) T (0, 0))
  stk : RowAt w 0 p.A1 p.c1 s.stk
  out : RowAt w 0 p.A2 p.c2 s.out
  hep : RowAt w 0 p.A3 p.c3 hp
  d12 : ∀ k, blk p.A1 = some k → blk p.A2 ≠ some k
  d13 : ∀ k, blk p.A1 = some k → blk p.A3 ≠ some k
  d23 : ∀ k, blk p.A2 = some k → blk p.A3 ≠ some k
  fg : ¬ F g
  f1 : ∀ k, blk p.A1 = some k → ¬ F k
  f2 : ∀ k, blk p.A2 = some k → ¬ F k
  f3 : ∀ k, blk p.A3 = some k → ¬ F k
  fl : ∀ k, F k → k < w.heap.size
  ok : s.ok
  ty : T ≠ 25
section
variable {F : Nat → Prop} {w w1 : World} {g : Nat} {T : TypeId} {X : List Value} {I : Value} {s : St} {hp : List Int} {p : Pl}
theorem WK.below (h : WK F w g T X I s hp p) (hb : Below w.heap.size w w1) : WK F w1 g T X I s hp p :=
  ⟨hp_below h.cells hb, row_below h.stk hb, row_below h.out hb, row_below h.hep hb, h.d12, h.d13, h.d23, h.fg, h.f1, h.f2, h.f3, fun k hk => Nat.lt_of_lt_of_le (h.fl k hk) hb.size, h.ok, h.ty⟩
theorem WK.alloc (h : WK F w g T X I s hp p) (o : Obj) : WK F (w.alloc o) g T X I s hp p := h.below ((Below.refl _ _).alloc (Nat.le_refl _) o)
theorem WK.drewN (h : WK F w g T X I s hp p) (n : Nat) : WK F (w.drewN n) g T X I s hp p := h.below ⟨rfl, rfl, rfl, Nat.le_refl _, fun _ _ => rfl⟩
theorem WK.drew (h : WK F w g T X I s hp p) : WK F w.drew g T X I s hp p := h.below ⟨rfl, rfl, rfl, Nat.le_refl _, fun _ _ => rfl⟩
theorem WK.fr (h : WK F w g T X I s hp p) (hb : Below w.heap.size w w1) : Fr F w w1 := Fr.below hb h.fl
theorem WK.at (h : WK F w g T X I s hp p) : w.cell? ⟨g, 0, none⟩ = some I ∧ w.cell? ⟨g, 1, none⟩ = some (.int .i64 s.pc) ∧ w.cell? ⟨g, 2, none⟩ = some (.slice p.A1 s.stk.length p.c1) ∧ w.cell? ⟨g, 3, none⟩ = some (.int .u64 s.la) ∧ w.cell? ⟨g, 4, none⟩ = some (.int .u64 s.lb) ∧ w.cell? ⟨g, 5, none⟩ = some (.int .u64 s.lc) ∧ w.cell? ⟨g, 6, none⟩ = some (.int .u64 s.ld) ∧ w.cell? ⟨g, 7, none⟩ = some (.slice p.A2 s.out.length p.c2) ∧ w.cell? ⟨g, 8, none⟩ = some (.slice p.A3 hp.length p.c3) :=
  ⟨(hp_cell h.cells 0).trans (by simp [wkL]), (hp_cell h.cells 1).trans (by simp [wkL]), (hp_cell h.cells 2).trans (by simp [wkL]), (hp_cell h.cells 3).trans (by simp [wkL]), (hp_cell h.cells 4).trans (by simp [wkL]), (hp_cell h.cells 5).trans (by simp [wkL]), (hp_cell h.cells 6).trans (by simp [wkL]), (hp_cell h.cells 7).trans (by simp [wkL]), (hp_cell h.cells 8).trans (by simp [wkL])⟩
theorem WK.fz (h : WK F w g T X I s hp p) (j : Nat) : w.frozen? ⟨g, j, none⟩ = false := hp_frozen h.cells j
theorem WK.lt (h : WK F w g T X I s hp p) : g < w.heap.size := hp_lt h.cells
/-- A cell of the walk is written, whatever it is. -/
theorem WK.set (h : WK F w g T X I s hp p) (j : Nat) (u : Value) (s' : St) (p' : Pl) (X' : List Value) (hs : s'.ok) (e : (wkL I s hp.length p X).setIfInBounds j u = wkL I s' hp.length p' X')
    (h1 : RowAt w 0 p'.A1 p'.c1 s'.stk) (h2 : RowAt w 0 p'.A2 p'.c2 s'.out) (h3 : RowAt w 0 p'.A3 p'.c3 hp) (d12 : ∀ k, blk p'.A1 = some k → blk p'.A2 ≠ some k) (d13 : ∀ k, blk p'.A1 = some k → blk p'.A3 ≠ some k) (d23 : ∀ k, blk p'.A2 = some k → blk p'.A3 ≠ some k)
    (f1 : ∀ k, blk p'.A1 = some k → ¬ F k) (f2 : ∀ k, blk p'.A2 = some k → ¬ F k) (f3 : ∀ k, blk p'.A3 = some k → ¬ F k) : WK F (w.setCell ⟨g, j, none⟩ u) g T X' I s' hp p' :=
  ⟨hp_put h.cells j u e, row_far h1 h.cells h.ty j u, row_far h2 h.cells h.ty j u, row_far h3 h.cells h.ty j u, d12, d13, d23, h.fg, f1, f2, f3, fun k hk => Nat.lt_of_lt_of_le (h.fl k hk) (by simp [World.setCell]), hs, h.ty⟩
theorem WK.setPc (h : WK F w g T X I s hp p) (n : Int) (hn : I64 n) : WK F (w.setCell ⟨g, 1, none⟩ (.int .i64 n)) g T X I { s with pc := n } hp p :=
  h.set 1 _ _ p X ⟨hn, h.ok.2⟩ (by simp [wkL]) h.stk h.out h.hep h.d12 h.d13 h.d23 h.f1 h.f2 h.f3
theorem WK.set0 (h : WK F w g T X I s hp p) (v : Int) (hv : W64 v) : WK F (w.setCell ⟨g, 3, none⟩ (.int .u64 v)) g T X I { s with la := v } hp p :=
  h.set 3 _ _ p X ⟨h.ok.1, hv, h.ok.2.2.1, h.ok.2.2.2.1, h.ok.2.2.2.2⟩ (by simp [wkL]) h.stk h.out h.hep h.d12 h.d13 h.d23 h.f1 h.f2 h.f3
theorem WK.set1 (h : WK F w g T X I s hp p) (v : Int) (hv : W64 v) : WK F (w.setCell ⟨g, 4, none⟩ (.int .u64 v)) g T X I { s with lb := v } hp p :=
  h.set 4 _ _ p X ⟨h.ok.1, h.ok.2.1, hv, h.ok.2.2.2.1, h.ok.2.2.2.2⟩ (by simp [wkL]) h.stk h.out h.hep h.d12 h.d13 h.d23 h.f1 h.f2 h.f3
theorem WK.set2 (h : WK F w g T X I s hp p) (v : Int) (hv : W64 v) : WK F (w.setCell ⟨g, 5, none⟩ (.int .u64 v)) g T X I { s with lc := v } hp p :=
  h.set 5 _ _ p X ⟨h.ok.1, h.ok.2.1, h.ok.2.2.1, hv, h.ok.2.2.2.2⟩ (by simp [wkL]) h.stk h.out h.hep h.d12 h.d13 h.d23 h.f1 h.f2 h.f3
theorem WK.set3 (h : WK F w g T X I s hp p) (v : Int) (hv : W64 v) : WK F (w.setCell ⟨g, 6, none⟩ (.int .u64 v)) g T X I { s with ld := v } hp p :=
  h.set 6 _ _ p X ⟨h.ok.1, h.ok.2.1, h.ok.2.2.1, h.ok.2.2.2.1, hv⟩ (by simp [wkL]) h.stk h.out h.hep h.d12 h.d13 h.d23 h.f1 h.f2 h.f3
theorem WK.pop {l : List Int} {v : Int} (h : WK F w g T X I s hp p) (hl : s.stk = l ++ [v]) : WK F (w.setCell ⟨g, 2, none⟩ (.slice p.A1 l.length p.c1)) g T X I { s with stk := l } hp p :=
  h.set 2 _ _ p X h.ok (by simp [wkL]) (row_pop (hl ▸ h.stk)) h.out h.hep h.d12 h.d13 h.d23 h.f1 h.f2 h.f3
/-- A new block that is kept as it is. -/
def Fb (F : Nat → Prop) (b : Nat) : Nat → Prop := fun k => F k ∨ k = b
theorem WK.box (h : WK F w g T X I s hp p) (o : Obj) : WK (Fb F w.heap.size) (w.alloc o) g T X I s hp p := by
  have k := h.alloc o
  have lg := h.lt
  refine ⟨k.cells, k.stk, k.out, k.hep, k.d12, k.d13, k.d23, ?_, ?_, ?_, ?_, ?_, k.ok, k.ty⟩
  · rintro (e | e)
    · exact h.fg e
    · omega
  · rintro j hj (e | e)
    · exact h.f1 j hj e
    · have := (row_lt h.stk j hj).2; omega
  · rintro j hj (e | e)
    · exact h.f2 j hj e
    · have := (row_lt h.out j hj).2; omega
  · rintro j hj (e | e)
    · exact h.f3 j hj e
    · have := (row_lt h.hep j hj).2; omega
  · rintro j (e | e)
    · exact k.fl j e
    · subst e; simp
theorem WK.less {F' : Nat → Prop} (h : WK F w g T X I s hp p) (hs : ∀ k, F' k → F k) : WK F' w g T X I s hp p :=
  ⟨h.cells, h.stk, h.out, h.hep, h.d12, h.d13, h.d23, fun e => h.fg (hs _ e), fun k hk e => h.f1 k hk (hs _ e), fun k hk e => h.f2 k hk (hs _ e), fun k hk e => h.f3 k hk (hs _ e), fun k e => h.fl k (hs _ e), h.ok, h.ty⟩
theorem WK.ne1 (h : WK F w g T X I s hp p) : some g ≠ blk p.A1 := fun e => by
  obtain ⟨cs, hc⟩ := row_typed h.stk g e.symm
  exact hp_ne h.cells hc h.ty rfl
theorem WK.ne2 (h : WK F w g T X I s hp p) : some g ≠ blk p.A2 := fun e => by
  obtain ⟨cs, hc⟩ := row_typed h.out g e.symm
  exact hp_ne h.cells hc h.ty rfl
theorem WK.ne3 (h : WK F w g T X I s hp p) : some g ≠ blk p.A3 := fun e => by
  obtain ⟨cs, hc⟩ := row_typed h.hep g e.symm
  exact hp_ne h.cells hc h.ty rfl
/-- Behind an append to the stack: what stands there, and then its store. -/
theorem WK.push {w2 : World} {A2 : Option Addr} {c2 : Nat} {l2 : List Int} (h : WK F w g T X I s hp p) (hr : RowAt w2 0 A2 c2 l2) (hg : w.grownBy w2 (blk p.A1)) (hat : blk A2 = blk p.A1 ∨ blk A2 = some w.heap.size) :
    w2.heap[g]? = some (.cells (wkL I s hp.length p X) T (0, 0)) ∧ WK F (w2.setCell ⟨g, 2, none⟩ (.slice A2 l2.length c2)) g T X I { s with stk := l2 } hp { p with A1 := A2, c1 := c2 } := by
  have hc := hp_grown h.cells hg h.ne1
  have ho : RowAt w2 0 p.A2 p.c2 s.out := row_other h.out hg (fun k hk e => h.d12 k e.symm hk)
  have hh : RowAt w2 0 p.A3 p.c3 hp := row_other h.hep hg (fun k hk e => h.d13 k e.symm hk)
  have n2 : ∀ k, blk A2 = some k → blk p.A2 ≠ some k := fun k hk e => by
    rcases hat with hat | hat
    · exact h.d12 k (hat ▸ hk) e
    · rw [hat] at hk
      have := (row_lt h.out k e).2
      simp at hk
      omega
  have n3 : ∀ k, blk A2 = some k → blk p.A3 ≠ some k := fun k hk e => by
    rcases hat with hat | hat
    · exact h.d13 k (hat ▸ hk) e
    · rw [hat] at hk
      have := (row_lt h.hep k e).2
      simp at hk
      omega
  have nf : ∀ k, blk A2 = some k → ¬ F k := fun k hk e => by
    rcases hat with hat | hat
    · exact h.f1 k (hat ▸ hk) e
    · rw [hat] at hk
      have := h.fl k e
      simp at hk
      omega
  exact ⟨hc, hp_put hc 2 _ (by simp [wkL]), row_far hr hc h.ty 2 _, row_far ho hc h.ty 2 _, row_far hh hc h.ty 2 _, n2, n3, h.d23, h.fg, nf, h.f2, h.f3, fun k hk => Nat.lt_of_lt_of_le (h.fl k hk) (by simp [World.setCell]; exact hg.size), h.ok, h.ty⟩
theorem WK.pushO {w2 : World} {A2 : Option Addr} {c2 : Nat} {l2 : List Int} (h : WK F w g T X I s hp p) (hr : RowAt w2 0 A2 c2 l2) (hg : w.grownBy w2 (blk p.A2)) (hat : blk A2 = blk p.A2 ∨ blk A2 = some w.heap.size) :
    w2.heap[g]? = some (.cells (wkL I s hp.length p X) T (0, 0)) ∧ WK F (w2.setCell ⟨g, 7, none⟩ (.slice A2 l2.length c2)) g T X I { s with out := l2 } hp { p with A2 := A2, c2 := c2 } := by
  have hc := hp_grown h.cells hg h.ne2
  have ho : RowAt w2 0 p.A1 p.c1 s.stk := row_other h.stk hg (fun k hk e => h.d12 k hk e.symm)
  have hh : RowAt w2 0 p.A3 p.c3 hp := row_other h.hep hg (fun k hk e => h.d23 k e.symm hk)
  have n2 : ∀ k, blk p.A1 = some k → blk A2 ≠ some k := fun k e hk => by
    rcases hat with hat | hat
    · exact h.d12 k e (hat ▸ hk)
    · rw [hat] at hk
      have := (row_lt h.stk k e).2
      simp at hk
      omega
  have n3 : ∀ k, blk A2 = some k → blk p.A3 ≠ some k := fun k hk e => by
    rcases hat with hat | hat
    · exact h.d23 k (hat ▸ hk) e
    · rw [hat] at hk
      have := (row_lt h.hep k e).2
      simp at hk
      omega
  have nf : ∀ k, blk A2 = some k → ¬ F k := fun k hk e => by
    rcases hat with hat | hat
    · exact h.f2 k (hat ▸ hk) e
    · rw [hat] at hk
      have := h.fl k e
      simp at hk
      omega
  exact ⟨hc, hp_put hc 7 _ (by simp [wkL]), row_far ho hc h.ty 7 _, row_far hr hc h.ty 7 _, row_far hh hc h.ty 7 _, n2, h.d13, n3, h.fg, h.f1, nf, h.f3, fun k hk => Nat.lt_of_lt_of_le (h.fl k hk) (by simp [World.setCell]; exact hg.size), h.ok, h.ty⟩
end

/-! ### What gives up, what answers -/
def yesV (b : Bool) : Int := bif b then 4607182418800017408 else 0
def varI (op : Int) : Bool := decide (op ≥ 4) && decide (op ≤ 7)
def specI (op : Int) : Bool := varI op || (decide (op ≥ 21) && decide (op ≤ 26)) || op == 28
/-! ### The stack -/
section
variable {F : Nat → Prop} {w : World} {g : Nat} {T : TypeId} {X : List Value} {I : Value} {s : St} {hp : List Int} {p : Pl}
end
end Go.Proofs.Ytcjkpeojjonpiaa
