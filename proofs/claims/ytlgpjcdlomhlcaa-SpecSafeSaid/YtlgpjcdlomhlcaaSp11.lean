
/-
  spec: block: keep.
-/
import Derived.Test.YtlgpjcdlomhlcaaSp10
namespace Go.Proofs.Ytlgpjcdlomhlcaa
open Go.RowKit Go.ChangeShapes Go.WideShapes
set_option linter.unusedSimpArgs false
set_option linter.unusedVariables false

/-- A row of cells that a walk owns, whatever its type. -/
def GRow (t : TypeId) (w : World) (A : Option Addr) (c : Nat) (vs : List Value) : Prop := w.ownsRow 0 t 1 (.slice A vs.length c) vs.length vs ∧ ∀ v ∈ vs, v.oneCell' = true
theorem grow_typed {t : TypeId} {w : World} {A : Option Addr} {c : Nat} {vs : List Value} (h : GRow t w A c vs) : ∀ k, blk A = some k → ∃ cs, w.heap[k]? = some (.cells cs t (0, 0)) := by
  intro k hk
  rcases h.1.2 with ⟨hn, _⟩ | ⟨g, cap, cur, hv, _, hg, _⟩
  · simp only [Value.slice.injEq] at hn
    rw [hn.1] at hk
    cases hk
  · simp only [Value.slice.injEq] at hv
    rw [hv.1] at hk
    simp only [blk, Option.map_some, Option.some.injEq] at hk
    subst hk
    exact ⟨cur, hg⟩
theorem grow_lt {t : TypeId} {w : World} {A : Option Addr} {c : Nat} {vs : List Value} (h : GRow t w A c vs) : ∀ k, blk A = some k → k < w.heap.size := fun k hk => by
  obtain ⟨cs, hc⟩ := grow_typed h k hk
  exact hp_lt hc
theorem grow_fr {t : TypeId} {F : Nat → Prop} {w w1 : World} {A : Option Addr} {c : Nat} {vs : List Value} (h : GRow t w A c vs) (hf : Fr F w w1) (hA : ∀ k, blk A = some k → F k) : GRow t w1 A c vs := by
  refine ⟨?_, h.2⟩
  obtain ⟨h1, h2⟩ := h.1
  refine ⟨h1, ?_⟩
  rcases h2 with h2 | ⟨g, cap, cur, hv, hb, hg, hcap, hm, hs, ht⟩
  · exact .inl h2
  · refine .inr ⟨g, cap, cur, hv, hb, (hf.block g (hA g ?_)).trans hg, hcap, hm, hs, ht⟩
    simp only [Value.slice.injEq] at hv
    rw [hv.1]
    rfl
theorem grow_of {t : TypeId} {w : World} {v : Value} {vs : List Value} (h : w.ownsRow 0 t 1 v vs.length vs) (h1 : ∀ v ∈ vs, v.oneCell' = true) : ∃ A c, v = .slice A vs.length c ∧ GRow t w A c vs := by
  rcases h.2 with ⟨hv, hn⟩ | ⟨g, cap, cur, hv, _⟩
  · have e : vs = [] := List.eq_nil_of_length_eq_zero hn
    subst e
    subst hv
    exact ⟨none, 0, rfl, h, h1⟩
  · subst hv
    exact ⟨_, _, rfl, h, h1⟩
theorem grow_pop {t : TypeId} {w : World} {A : Option Addr} {c : Nat} {vs : List Value} {v : Value} (h : GRow t w A c (vs ++ [v])) : GRow t w A c vs := by
  refine ⟨?_, fun x hx => h.2 x (List.mem_append.mpr (.inl hx))⟩
  obtain ⟨h1, h2⟩ := h.1
  refine ⟨by omega, ?_⟩
  rcases h2 with ⟨hv, h0⟩ | ⟨g, cap, cur, hv, hb, hg, hcap, hm, hs, ht⟩
  · simp at h0
  · simp only [Value.slice.injEq] at hv
    obtain ⟨e1, _, e3⟩ := hv
    simp only [List.length_append, List.length_singleton] at hcap ht
    refine .inr ⟨g, cap, cur, by rw [e1, ← e3], hb, hg, by omega, hm, hs, ?_⟩
    have e : vs = (vs ++ [v]).take vs.length := by rw [List.take_append_of_le_length (Nat.le_refl _), List.take_length]
    refine Eq.trans ?_ e.symm
    rw [← ht, List.take_take]
    congr 1
    omega
theorem grow_at {t : TypeId} {w : World} {A : Option Addr} {c : Nat} {vs : List Value} {v : Value} (h : GRow t w A c (vs ++ [v])) : ∃ b, A = some ⟨b, 0, none⟩ ∧ w.cell? ⟨b, vs.length, none⟩ = some v ∧ vs.length + 1 ≤ c := by
  rcases h.1.2 with ⟨hn, h0⟩ | ⟨g, cap, cur, hn, hb, hg, hcap, hm, hs, ht⟩
  · simp at h0
  · simp only [Value.slice.injEq] at hn
    obtain ⟨rfl, _, rfl⟩ := hn
    simp only [List.length_append, List.length_singleton] at hcap ht
    refine ⟨g, rfl, ?_, by omega⟩
    rw [hp_cell hg, ← Array.getElem?_toList]
    have : (vs ++ [v])[vs.length]? = some v := by simp
    rw [← ht, List.getElem?_take] at this
    split at this
    · exact this
    · cases this
theorem Fun_info : (Try.prog.info? 1).map (fun i => (i.zero, i.size, i.bytes)) = some (some .nilFunc, 1, 8) := by kernel_rfl
theorem Bool_info : (Try.prog.info? 4).map (fun i => (i.zero, i.size, i.bytes)) = some (some (.bool false), 1, 1) := by kernel_rfl
theorem step_append_fun {ops : Array Oper} {o : Oper} {a : Act} {w : World} {K : Act → World → Prop} {Q : Exit → Act → World → Prop} {E : Prop} (hg : o.guard = none) (s x : Operand)
    (ho : o.op = .call { callee := .builtin .append, args := #[s, x], argTypes := #[89, 89] })
    (A0 : Option Addr) (c0 : Nat) (vs : List Value) (hs : a.eval s = .slice A0 vs.length c0) (hr : GRow 1 w A0 c0 vs) (b : Addr) (v : Value) (hx : a.eval x = .slice (some b) 1 1)
    (hv : w.cell? b = some v) (hv1 : v.oneCell' = true) (hlen : vs.length ≤ 1000) (l' : List Value) (hl : vs ++ [v] = l')
    (h : ∀ A' c' w', GRow 1 w' A' c' l' → w.grownBy w' (blk A0) → (blk A' = blk A0 ∨ blk A' = some w.heap.size) → K (a.put o.dst (.slice A' l'.length c')) w') :
    if Region.wanted o (yielded ops a.tmps) = true then Oper.wp Try.prog o a w K Q else E := by
  have hw : Region.wanted o (yielded ops a.tmps) = true := by simp [Region.wanted, hg]
  rw [if_pos hw]
  subst hl
  obtain ⟨i0, hi, hz0, hz1, hz2⟩ := info_parts Fun_info
  obtain ⟨v', w', hrun, h1, h2, _, h3⟩ := run_append_own_at (P := Try.prog) w 0 89 o.type 1 i0 .nilFunc 1 8 Try.underlying89 hi hz0 hz1 hz2 rfl (by decide) _ vs.length vs hr.1 b 1 1 [v] rfl (fun j u hu => by
    cases j with
    | zero => (simp at hu; subst hu; rw [show b.add 0 = b from by unfold Addr.add; split <;> simp_all]; exact hv)
    | succ j => simp at hu) (fun u hu => by rw [List.mem_singleton.mp hu]; exact hv1) (by unfold maxLen; omega) (by omega) (Nat.zero_le _)
  unfold Oper.wp
  simp [execOp, ho, resolve, invoke, builtin, hs, hx, hrun, Result.andThen]
  obtain ⟨A', c', rfl, hrow⟩ := grow_of (vs := vs ++ [v]) (by rw [List.length_append]; exact h1) (fun u hu => by
    rcases List.mem_append.mp hu with hu | hu
    · exact hr.2 u hu
    · rw [List.mem_singleton.mp hu]; exact hv1)
  rw [blk_own] at h2 h3
  rw [blk_own] at h3
  exact h A' c' w' hrow h2 h3
/-- A mark: the state and the heap that were kept, where they stand, the instruction. -/
structure Mk where
  s0 : St
  hp0 : List Int
  p0 : Pl
  si : Nat
  hi : Nat
  bi : Nat
  xi : Nat
  x : Ins3
def Mk.clo (m : Mk) : Value := .func (.func 102) #[] #[.pointer (some ⟨m.si, 0, none⟩), .pointer (some ⟨m.hi, 0, none⟩), .pointer (some ⟨m.bi, 0, none⟩), .pointer (some ⟨m.xi, 0, none⟩)]
def MB (m : Mk) (k : Nat) : Prop := k = m.si ∨ k = m.hi ∨ k = m.bi ∨ k = m.xi ∨ blk m.p0.A1 = some k ∨ blk m.p0.A2 = some k ∨ blk m.p0.A3 = some k
structure MkOk (w : World) (g : Nat) (m : Mk) : Prop where
  c : MkC w g m.si m.hi m.bi m.xi m.s0 m.hp0.length m.p0 m.x
  r1 : RowAt w 0 m.p0.A1 m.p0.c1 m.s0.stk
  r2 : RowAt w 0 m.p0.A2 m.p0.c2 m.s0.out
  r3 : RowAt w 0 m.p0.A3 m.p0.c3 m.hp0
  d12 : ∀ k, blk m.p0.A1 = some k → blk m.p0.A2 ≠ some k
  d13 : ∀ k, blk m.p0.A1 = some k → blk m.p0.A3 ≠ some k
  d23 : ∀ k, blk m.p0.A2 = some k → blk m.p0.A3 ≠ some k
  ok : m.s0.ok
theorem mk_fr {F : Nat → Prop} {w w1 : World} {g : Nat} {m : Mk} (h : MkOk w g m) (hf : Fr F w w1) (hF : ∀ k, MB m k → F k) : MkOk w1 g m := by
  unfold MB at hF
  exact ⟨⟨hf.hp h.c.cs (hF _ (by simp)), hf.hp h.c.ch (hF _ (by simp)), hf.hp h.c.cb (hF _ (by simp)), hf.hp h.c.cx (hF _ (by simp))⟩, row_fr h.r1 hf (fun k hk => hF k (by simp [hk])), row_fr h.r2 hf (fun k hk => hF k (by simp [hk])), row_fr h.r3 hf (fun k hk => hF k (by simp [hk])), h.d12, h.d13, h.d23, h.ok⟩






/-- What the region of keep holds fast: what it reads, and all that is older. -/
def KS (w1 : World) (g q n : Nat) (s : St) (p : Pl) (w' : World) : Prop := w'.cell? ⟨g, 1, none⟩ = some (.int .i64 s.pc) ∧ w'.cell? ⟨g, 2, none⟩ = some (.slice p.A1 s.stk.length p.c1) ∧ w'.cell? ⟨g, 3, none⟩ = some (.int .u64 s.la) ∧ w'.cell? ⟨g, 4, none⟩ = some (.int .u64 s.lb) ∧ w'.cell? ⟨g, 5, none⟩ = some (.int .u64 s.lc) ∧ w'.cell? ⟨g, 6, none⟩ = some (.int .u64 s.ld) ∧ w'.cell? ⟨g, 7, none⟩ = some (.slice p.A2 s.out.length p.c2) ∧ w'.cell? ⟨g, 8, none⟩ = some (.slice p.A3 n p.c3) ∧ w'.cell? ⟨q, 0, none⟩ = some (.pointer (some ⟨g, 0, none⟩)) ∧ Below w1.heap.size w1 w'
theorem ks_of {w1 w' : World} {g q n : Nat} {s : St} {p : Pl} (h : KS w1 g q n s p w1) (lg : g < w1.heap.size) (lq : q < w1.heap.size) (hb : Below w1.heap.size w1 w') : KS w1 g q n s p w' := by
  obtain ⟨h0, h1, h2, h3, h4, h5, h6, h7, h8, _⟩ := h
  have key : ∀ (a : Addr) (u : Value), a.block < w1.heap.size → w1.cell? a = some u → w'.cell? a = some u := fun a u ha hc => (hb.cell ha).trans hc
  exact ⟨key _ _ lg h0, key _ _ lg h1, key _ _ lg h2, key _ _ lg h3, key _ _ lg h4, key _ _ lg h5, key _ _ lg h6, key _ _ lg h7, key _ _ lq h8, hb⟩
theorem put7 {w : World} {b c1 c2 : Nat} {A1 A2 : Option Addr} {s : St} (h : w.heap[b]? = some (.cells #[.int .i64 0, .slice none 0 0, .int .u64 0, .int .u64 0, .int .u64 0, .int .u64 0, .slice none 0 0] 28 (0, 0))) : (((((((w.setCell ⟨b, 0, none⟩ (.int .i64 s.pc)).setCell ⟨b, 1, none⟩ (.slice A1 s.stk.length c1)).setCell ⟨b, 2, none⟩ (.int .u64 s.la)).setCell ⟨b, 3, none⟩ (.int .u64 s.lb)).setCell ⟨b, 4, none⟩ (.int .u64 s.lc)).setCell ⟨b, 5, none⟩ (.int .u64 s.ld)).setCell ⟨b, 6, none⟩ (.slice A2 s.out.length c2)).heap[b]? = some (.cells (stC s A1 c1 A2 c2) 28 (0, 0)) := by
  have h1 := hp_put (cs' := #[.int .i64 s.pc, .slice none 0 0, .int .u64 0, .int .u64 0, .int .u64 0, .int .u64 0, .slice none 0 0]) h 0 (.int .i64 s.pc) rfl
  have h2 := hp_put (cs' := #[.int .i64 s.pc, .slice A1 s.stk.length c1, .int .u64 0, .int .u64 0, .int .u64 0, .int .u64 0, .slice none 0 0]) h1 1 (.slice A1 s.stk.length c1) rfl
  have h3 := hp_put (cs' := #[.int .i64 s.pc, .slice A1 s.stk.length c1, .int .u64 s.la, .int .u64 0, .int .u64 0, .int .u64 0, .slice none 0 0]) h2 2 (.int .u64 s.la) rfl
  have h4 := hp_put (cs' := #[.int .i64 s.pc, .slice A1 s.stk.length c1, .int .u64 s.la, .int .u64 s.lb, .int .u64 0, .int .u64 0, .slice none 0 0]) h3 3 (.int .u64 s.lb) rfl
  have h5 := hp_put (cs' := #[.int .i64 s.pc, .slice A1 s.stk.length c1, .int .u64 s.la, .int .u64 s.lb, .int .u64 s.lc, .int .u64 0, .slice none 0 0]) h4 4 (.int .u64 s.lc) rfl
  have h6 := hp_put (cs' := #[.int .i64 s.pc, .slice A1 s.stk.length c1, .int .u64 s.la, .int .u64 s.lb, .int .u64 s.lc, .int .u64 s.ld, .slice none 0 0]) h5 5 (.int .u64 s.ld) rfl
  have h7 := hp_put (cs' := #[.int .i64 s.pc, .slice A1 s.stk.length c1, .int .u64 s.la, .int .u64 s.lb, .int .u64 s.lc, .int .u64 s.ld, .slice A2 s.out.length c2]) h6 6 (.slice A2 s.out.length c2) rfl
  exact h7
theorem put7_fr {w : World} {b c1 c2 : Nat} {A1 A2 : Option Addr} {s : St} : Fr (fun k => k ≠ b) w (((((((w.setCell ⟨b, 0, none⟩ (.int .i64 s.pc)).setCell ⟨b, 1, none⟩ (.slice A1 s.stk.length c1)).setCell ⟨b, 2, none⟩ (.int .u64 s.la)).setCell ⟨b, 3, none⟩ (.int .u64 s.lb)).setCell ⟨b, 4, none⟩ (.int .u64 s.lc)).setCell ⟨b, 5, none⟩ (.int .u64 s.ld)).setCell ⟨b, 6, none⟩ (.slice A2 s.out.length c2)) := ((((((((Fr.refl (fun k => k ≠ b) w).trans (Fr.set _ (fun e => e rfl) 0 (.int .i64 s.pc))).trans (Fr.set _ (fun e => e rfl) 1 (.slice A1 s.stk.length c1))).trans (Fr.set _ (fun e => e rfl) 2 (.int .u64 s.la))).trans (Fr.set _ (fun e => e rfl) 3 (.int .u64 s.lb))).trans (Fr.set _ (fun e => e rfl) 4 (.int .u64 s.lc))).trans (Fr.set _ (fun e => e rfl) 5 (.int .u64 s.ld))).trans (Fr.set _ (fun e => e rfl) 6 (.slice A2 s.out.length c2)))
theorem below_ne {w1 w w' : World} {b : Nat} (h : Below w1.heap.size w1 w) (hf : Fr (fun k => k ≠ b) w w') (hb : w1.heap.size ≤ b) : Below w1.heap.size w1 w' :=
  ⟨hf.os.trans h.os, hf.tape.trans h.tape, hf.output.trans h.output, Nat.le_trans h.size hf.size, fun k hk => (hf.block k (by omega)).trans (h.block k hk)⟩
theorem row_ty {w w' : World} {base c b : Nat} {A : Option Addr} {l : List Int} {cs : Array Value} {t : TypeId} (h : RowAt w base A c l) (hf : Fr (fun k => k ≠ b) w w') (hb : w.heap[b]? = some (.cells cs t (0, 0))) (ht : t ≠ 25) : RowAt w' base A c l :=
  row_fr h hf (fun k hk e => by
    obtain ⟨cs', hc⟩ := row_typed h k hk
    exact hp_ne hc (show w.heap[k]? = _ from by rw [e]; exact hb) ht.symm rfl)
/-- What stands behind the region: the copies, and where they stand. -/
def KP (w1 : World) (s : St) (hp : List Int) (si hi : Nat) (v : World) : Prop := ∃ A1 c1 A2 c2 A3 c3, v.heap[si]? = some (.cells (stC s A1 c1 A2 c2) 28 (0, 0)) ∧ v.heap[hi]? = some (.cells #[.slice A3 hp.length c3] 23 (0, 0)) ∧ RowAt v w1.heap.size A1 c1 s.stk ∧ RowAt v w1.heap.size A2 c2 s.out ∧ RowAt v w1.heap.size A3 c3 hp ∧
  (∀ k, blk A1 = some k → blk A2 ≠ some k) ∧ (∀ k, blk A1 = some k → blk A3 ≠ some k) ∧ (∀ k, blk A2 = some k → blk A3 ≠ some k) ∧ w1.heap.size ≤ si ∧ w1.heap.size ≤ hi ∧ Below w1.heap.size w1 v
theorem grow_below {t : TypeId} {w w1 : World} {A : Option Addr} {c : Nat} {vs : List Value} (h : GRow t w A c vs) (hb : Below w.heap.size w w1) : GRow t w1 A c vs :=
  grow_fr (F := fun k => k < w.heap.size) h (Fr.below hb (fun _ hk => hk)) (fun k hk => grow_lt h k hk)
theorem ks_dr' {W0 W : World} (h : Below W0.heap.size W0 W) : Below W0.heap.size W0 W.drew := h.drew
theorem ks_al' {W0 W : World} (h : Below W0.heap.size W0 W) (o : Obj) : Below W0.heap.size W0 (W.alloc o) := h.alloc h.size o
theorem mb_typed {w : World} {g : Nat} {m : Mk} (h : MkOk w g m) {k : Nat} (hk : MB m k) : ∃ cs t, w.heap[k]? = some (.cells cs t (0, 0)) ∧ t ≠ 1 ∧ t ≠ 91 ∧ t ≠ 4 := by
  rcases hk with rfl | rfl | rfl | rfl | hk | hk | hk
  · exact ⟨_, _, h.c.cs, by decide, by decide, by decide⟩
  · exact ⟨_, _, h.c.ch, by decide, by decide, by decide⟩
  · exact ⟨_, _, h.c.cb, by decide, by decide, by decide⟩
  · exact ⟨_, _, h.c.cx, by decide, by decide, by decide⟩
  · obtain ⟨cs, hc⟩ := row_typed h.r1 k hk
    exact ⟨cs, _, hc, by decide, by decide, by decide⟩
  · obtain ⟨cs, hc⟩ := row_typed h.r2 k hk
    exact ⟨cs, _, hc, by decide, by decide, by decide⟩
  · obtain ⟨cs, hc⟩ := row_typed h.r3 k hk
    exact ⟨cs, _, hc, by decide, by decide, by decide⟩
theorem WK.grown {F : Nat → Prop} {w w2 : World} {g : Nat} {T t : TypeId} {X : List Value} {I : Value} {s : St} {hp : List Int} {p : Pl} {A : Option Addr} {c : Nat} {vs : List Value} (h : WK F w g T X I s hp p) (hr : GRow t w A c vs) (hg : w.grownBy w2 (blk A)) (ht : t ≠ 25) (hT : T ≠ t) : WK F w2 g T X I s hp p := by
  have key : ∀ {B d l}, RowAt w 0 B d l → RowAt w2 0 B d l := fun h1 => row_other h1 hg (fun k hk e => by
    obtain ⟨cs, hc⟩ := grow_typed hr k e.symm
    obtain ⟨cs', hc'⟩ := row_typed h1 k hk
    exact hp_ne hc hc' ht rfl)
  exact ⟨hp_grown h.cells hg (fun e => by
    obtain ⟨cs, hc⟩ := grow_typed hr g e.symm
    exact hp_ne h.cells hc hT rfl), key h.stk, key h.out, key h.hep, h.d12, h.d13, h.d23, h.fg, h.f1, h.f2, h.f3, fun k hk => Nat.lt_of_lt_of_le (h.fl k hk) hg.size, h.ok, h.ty⟩
theorem WK.setX {F : Nat → Prop} {w : World} {g : Nat} {T : TypeId} {X : List Value} {I : Value} {s : St} {hp : List Int} {p : Pl} (h : WK F w g T X I s hp p) (j : Nat) (u : Value) (X' : List Value) (e : (wkL I s hp.length p X).setIfInBounds j u = wkL I s hp.length p X') : WK F (w.setCell ⟨g, j, none⟩ u) g T X' I s hp p :=
  h.set j u s p X' h.ok e h.stk h.out h.hep h.d12 h.d13 h.d23 h.f1 h.f2 h.f3
set_option maxRecDepth 20000 in
set_option maxHeartbeats 8000000 in
theorem keep_sp {F : Nat → Prop} {w : World} {g : Nat} {I : Value} {s : St} {hp : List Int} {p : Pl} (Ab : Option Addr) (cb : Nat) (vs : List Value) (xa xk : Value) (x : Ins3) (hx : 0 ≤ x.arg ∧ x.arg < 64) (hpc : 0 ≤ s.pc ∧ s.pc < 1000) (hn : s.stk.length ≤ 800) (hro : s.out.length ≤ 800) (hhp : hp.length ≤ 1000) (hvs : vs.length ≤ 900)
    (h : WK F w g 91 [.slice Ab vs.length cb, xa, xk] I s hp p) (hb : GRow 1 w Ab cb vs) (hbF : ∀ k, blk Ab = some k → ¬ F k) :
    Calls Try.prog 78 #[.pointer (some ⟨g, 0, none⟩), inV x] w fun e w' => e = .returned (.tuple #[]) ∧ Fr F w w' ∧ ∃ (m : Mk) (Ab' : Option Addr) (cb' : Nat), m.s0 = s ∧ m.hp0 = hp ∧ m.x = x ∧ MkOk w' g m ∧ (∀ k, MB m k → w.heap.size ≤ k ∧ k < w'.heap.size ∧ blk Ab' ≠ some k) ∧ (blk Ab' = blk Ab ∨ ∀ k, blk Ab' = some k → w.heap.size ≤ k) ∧
      WK F w' g 91 [.slice Ab' (vs ++ [m.clo]).length cb', xa, xk] I { s with pc := s.pc + 1 } hp p ∧ GRow 1 w' Ab' cb' (vs ++ [m.clo]) := by
  obtain ⟨op, ag, v0⟩ := x
  unfold inV
  have HX := Lib.hid h
  have HB := Lib.hid hb
  have HBF := Lib.hid hbF
  have hb0 : Below w.heap.size w ((w.alloc (.cells #[.pointer (some ⟨g, 0, none⟩)] 88)).alloc (.cells #[.int .u8 op, .int .i64 ag, .int .u64 v0] 42)) := ((Below.refl _ _).alloc (Nat.le_refl _) _).alloc (by simp) _
  have B0 := Lib.hid hb0
  have K0 := Lib.hid (h.below hb0)
  have X0 := Lib.hid (show ((w.alloc (.cells #[.pointer (some ⟨g, 0, none⟩)] 88)).alloc (.cells #[.int .u8 op, .int .i64 ag, .int .u64 v0] 42)).heap[w.heap.size + 1]? = some (.cells #[.int .u8 op, .int .i64 ag, .int .u64 v0] 42 (0, 0)) from (congrArg _ (by simp)).trans (heap_alloc_new (w.alloc _) _))
  have P0 := Lib.hid (show ((w.alloc (.cells #[.pointer (some ⟨g, 0, none⟩)] 88)).alloc (.cells #[.int .u8 op, .int .i64 ag, .int .u64 v0] 42)).heap[w.heap.size]? = some (.cells #[.pointer (some ⟨g, 0, none⟩)] 88 (0, 0)) from hp_alloc (heap_alloc_new w _) _)
  have kw : wrap64 (s.pc + 1) = s.pc + 1 := by unfold wrap64; omega
  have HPC := Lib.hid (show I64 (s.pc + 1) from ⟨by omega, by omega⟩)
  clear hb0 h hb hbF hx hpc
  go_enter Try.func78, Try.ntmps78
  go_wp2_with fail
  generalize ((w.alloc _).alloc _) = w1 at B0 K0 X0 P0 ⊢
  have S1 := Lib.hid (Src.row K0.out.stk (by omega))
  have S2 := Lib.hid (Src.row K0.out.out (by omega))
  have S3 := Lib.hid (Src.row K0.out.hep hhp)
  obtain ⟨y0, y1, y2, y3, y4, y5, y6, y7, y8⟩ := K0.out.at
  have q0 : w1.cell? ⟨w.heap.size, 0, none⟩ = some (.pointer (some ⟨g, 0, none⟩)) := hp_cell P0.out 0
  have lq := hp_lt P0.out
  have lg := K0.out.lt
  have KS0 : KS w1 g w.heap.size hp.length s p w1 := ⟨y1, y2, y3, y4, y5, y6, y7, y8, q0, Below.refl _ _⟩
  refine wp_mono (Q := fun e a v => e = Exit.normal ∧ ∃ (u : Nat → Value) (si hi : Nat), a = { tmps := #[.pointer (some ⟨g, 0, none⟩), .agg #[.int .u8 op, .int .i64 ag, .int .u64 v0], .pointer (some ⟨w.heap.size, 0, none⟩), .pointer (some ⟨w.heap.size + 1, 0, none⟩), .pointer (some ⟨si, 0, none⟩), .pointer (some ⟨hi, 0, none⟩), u 6, u 7, u 8, u 9, u 10, u 11, u 12, u 13, u 14, u 15, u 16, u 17, u 18, u 19, u 20, u 21, u 22, u 23, u 24, u 25, u 26, u 27, u 28, u 29, u 30, u 31, u 32, u 33, u 34, u 35, u 36, u 37, u 38], defers := [] } ∧ KP w1 s hp si hi v) ?_ ?_
  · refine wp_region_held_drew (S := (fun w' => w'.cell? ⟨g, 1, none⟩ = some (.int .i64 s.pc) ∧ w'.cell? ⟨g, 2, none⟩ = some (.slice p.A1 s.stk.length p.c1) ∧ w'.cell? ⟨g, 3, none⟩ = some (.int .u64 s.la) ∧ w'.cell? ⟨g, 4, none⟩ = some (.int .u64 s.lb) ∧ w'.cell? ⟨g, 5, none⟩ = some (.int .u64 s.lc) ∧ w'.cell? ⟨g, 6, none⟩ = some (.int .u64 s.ld) ∧ w'.cell? ⟨g, 7, none⟩ = some (.slice p.A2 s.out.length p.c2) ∧ w'.cell? ⟨g, 8, none⟩ = some (.slice p.A3 hp.length p.c3) ∧ w'.cell? ⟨w.heap.size, 0, none⟩ = some (.pointer (some ⟨g, 0, none⟩)) ∧ Below w1.heap.size w1 w')) (by kernel_rfl) (by exact ks_of KS0 lg lq (Below.refl _ _).drew) (fun hHeld => ?_)
    refine wpAnyH_take (i := 0) (v := (.pointer (some ⟨g, 0, none⟩))) rfl (by kernel_rfl) (by kernel_rfl) (by kernel_rfl) (fun _ _ _ h => absurd h.1 (by simp)) (Or.inl ⟨by rfl, ?_⟩) (by assumption) ?_
    · intro w hSw
      try dsimp only at hSw
      go_simp
    try simp only [Act.put, List.setIfInBounds_toArray, List.set_cons_zero, List.set_cons_succ]
    refine wpAnyH_take (i := 1) (v := (.pointer (some ⟨g, 0, none⟩))) rfl (by kernel_rfl) (by kernel_rfl) (by kernel_rfl) (fun _ _ _ h => absurd h.1 (by simp)) (Or.inl ⟨by rfl, ?_⟩) (by assumption) ?_
    · intro w hSw
      try dsimp only at hSw
      go_simp
    try simp only [Act.put, List.setIfInBounds_toArray, List.set_cons_zero, List.set_cons_succ]
    refine wpAnyH_take (i := 2) (v := (.pointer (some ⟨g, 0, none⟩))) rfl (by kernel_rfl) (by kernel_rfl) (by kernel_rfl) (fun _ _ _ h => absurd h.1 (by simp)) (Or.inl ⟨by rfl, ?_⟩) (by assumption) ?_
    · intro w hSw
      try dsimp only at hSw
      go_simp
    try simp only [Act.put, List.setIfInBounds_toArray, List.set_cons_zero, List.set_cons_succ]
    refine wpAnyH_take (i := 3) (v := (.pointer (some ⟨g, 1, none⟩))) rfl (by kernel_rfl) (by kernel_rfl) (by kernel_rfl) (fun _ _ _ h => absurd h.1 (by simp)) (Or.inl ⟨by rfl, ?_⟩) (by assumption) ?_
    · intro w hSw
      try dsimp only at hSw
      go_simp
    try simp only [Act.put, List.setIfInBounds_toArray, List.set_cons_zero, List.set_cons_succ]
    refine wpAnyH_take (i := 4) (v := (.agg #[.int .i64 s.pc, .slice p.A1 s.stk.length p.c1, .int .u64 s.la, .int .u64 s.lb, .int .u64 s.lc, .int .u64 s.ld, .slice p.A2 s.out.length p.c2])) rfl (by kernel_rfl) (by kernel_rfl) (by kernel_rfl) (fun _ _ _ h => absurd h.1 (by simp)) (Or.inl ⟨by rfl, ?_⟩) (by assumption) ?_
    · intro w hSw
      try dsimp only at hSw
      go_simp
    try simp only [Act.put, List.setIfInBounds_toArray, List.set_cons_zero, List.set_cons_succ]
    refine wpAnyH_take (i := 6) (v := (.pointer (some ⟨g, 0, none⟩))) rfl (by kernel_rfl) (by kernel_rfl) (by kernel_rfl) (fun _ _ _ h => absurd h.1 (by simp)) (Or.inl ⟨by rfl, ?_⟩) (by assumption) ?_
    · intro w hSw
      try dsimp only at hSw
      go_simp
    try simp only [Act.put, List.setIfInBounds_toArray, List.set_cons_zero, List.set_cons_succ]
    refine wpAnyH_take (i := 7) (v := (.pointer (some ⟨g, 0, none⟩))) rfl (by kernel_rfl) (by kernel_rfl) (by kernel_rfl) (fun _ _ _ h => absurd h.1 (by simp)) (Or.inl ⟨by rfl, ?_⟩) (by assumption) ?_
    · intro w hSw
      try dsimp only at hSw
      go_simp
    try simp only [Act.put, List.setIfInBounds_toArray, List.set_cons_zero, List.set_cons_succ]
    refine wpAnyH_take (i := 8) (v := (.pointer (some ⟨g, 0, none⟩))) rfl (by kernel_rfl) (by kernel_rfl) (by kernel_rfl) (fun _ _ _ h => absurd h.1 (by simp)) (Or.inl ⟨by rfl, ?_⟩) (by assumption) ?_
    · intro w hSw
      try dsimp only at hSw
      go_simp
    try simp only [Act.put, List.setIfInBounds_toArray, List.set_cons_zero, List.set_cons_succ]
    refine wpAnyH_take (i := 9) (v := (.pointer (some ⟨g, 8, none⟩))) rfl (by kernel_rfl) (by kernel_rfl) (by kernel_rfl) (fun _ _ _ h => absurd h.1 (by simp)) (Or.inl ⟨by rfl, ?_⟩) (by assumption) ?_
    · intro w hSw
      try dsimp only at hSw
      go_simp
    try simp only [Act.put, List.setIfInBounds_toArray, List.set_cons_zero, List.set_cons_succ]
    refine wpAnyH_take (i := 10) (v := (.slice p.A3 hp.length p.c3)) rfl (by kernel_rfl) (by kernel_rfl) (by kernel_rfl) (fun _ _ _ h => absurd h.1 (by simp)) (Or.inl ⟨by rfl, ?_⟩) (by assumption) ?_
    · intro w hSw
      try dsimp only at hSw
      go_simp
    try simp only [Act.put, List.setIfInBounds_toArray, List.set_cons_zero, List.set_cons_succ]
    have Bd := Lib.hid (show Below w1.heap.size w1 w1.drew from (Below.refl _ _).drew)
    have S1d := Lib.hid (S1.out.below Bd.out)
    clear y0 y1 y2 y3 y4 y5 y6 y7 y8 q0 hHeld
    generalize w1.drew = v at Bd S1d ⊢
    refine wpAnyH_ready (rs := [5, 12, 13]) (by kernel_rfl) (by simp) ?_
    refine AllReadyH.cons rfl (fun K hK => ?_) ?_
    · go_simp
      go_at_call 28
      refine (copied_sp s p.A1 p.c1 p.A2 p.c2 _ (S1.out.below Bd.out) (S2.out.below Bd.out)).mono ?_
      rintro e v1 ⟨A1, c1, A2, c2, rfl, hr1, hr2, hd, hb⟩
      unfold stV stC
      have B_1 := Lib.hid (Bd.out.trans (hb.mono Bd.out.size))
      have R1_1 := Lib.hid (row_base hr1 Bd.out.size)
      have R2_1 := Lib.hid (row_base hr2 Bd.out.size)
      have D12 := Lib.hid hd
      clear hr1 hr2 hd hb
      refine hK.out _ _ (by exact ks_of KS0 lg lq B_1.out) (fun hHeld => ?_)
      clear hK K hHeld
      try simp only [Act.put, List.setIfInBounds_toArray, List.set_cons_zero, List.set_cons_succ]
      refine wpAnyH_ready (rs := [11, 12, 13]) (by kernel_rfl) (by simp) ?_
      refine AllReadyH.cons rfl (fun K hK => ?_) ?_
      · go_simp
        go_at_call 41
        refine (clone_src p.A3 p.c3 hp _ (S3.out.below B_1.out)).mono ?_
        rintro e v2 ⟨A3, c3, rfl, hr3, hb⟩
        have D13 := Lib.hid (show ∀ k, blk A1 = some k → blk A3 ≠ some k from fun k hk e => by have a1 := (row_lt R1_1.out k hk).2; have a2 := (row_lt hr3 k e).1; omega)
        have D23 := Lib.hid (show ∀ k, blk A2 = some k → blk A3 ≠ some k from fun k hk e => by have a1 := (row_lt R2_1.out k hk).2; have a2 := (row_lt hr3 k e).1; omega)
        have B_2 := Lib.hid (B_1.out.trans (hb.mono B_1.out.size))
        have R1_2 := Lib.hid (row_below R1_1.out hb)
        have R2_2 := Lib.hid (row_below R2_1.out hb)
        have R3_2 := Lib.hid (row_base hr3 B_1.out.size)
        clear hr3 hb
        refine hK.out _ _ (by exact ks_of KS0 lg lq B_2.out) (fun hHeld => ?_)
        clear hK K hHeld
        try simp only [Act.put, List.setIfInBounds_toArray, List.set_cons_zero, List.set_cons_succ]
        refine wpAnyH_ready (rs := [12, 13]) (by kernel_rfl) (by simp) ?_
        refine AllReadyH.cons rfl (fun K hK => ?_) ?_
        · go_simp
          have hb : Below v2.heap.size v2 (v2.alloc (.cells #[.int .i64 0, .slice none 0 0, .int .u64 0, .int .u64 0, .int .u64 0, .int .u64 0, .slice none 0 0] 28)) := (Below.refl _ _).alloc (Nat.le_refl _) _
          have hz := heap_alloc_new v2 (.cells #[.int .i64 0, .slice none 0 0, .int .u64 0, .int .u64 0, .int .u64 0, .int .u64 0, .slice none 0 0] 28)
          obtain ⟨si, hnm⟩ : ∃ x, v2.heap.size = x := ⟨_, rfl⟩
          have ges := Lib.hid (show w1.heap.size ≤ si from hnm ▸ B_2.out.size)
          have B_3 := Lib.hid (B_2.out.trans (hb.mono B_2.out.size))
          have R1_3 := Lib.hid (row_below R1_2.out hb)
          have R2_3 := Lib.hid (row_below R2_2.out hb)
          have R3_3 := Lib.hid (row_below R3_2.out hb)
          rw [hnm] at hz ⊢
          have ZS_3 := Lib.hid hz
          clear hz hb hnm
          refine hK.out _ _ (by exact ks_of KS0 lg lq B_3.out) (fun hHeld => ?_)
          clear hK K hHeld
          try simp only [Act.put, List.setIfInBounds_toArray, List.set_cons_zero, List.set_cons_succ]
          generalize (v2.alloc (.cells #[.int .i64 0, .slice none 0 0, .int .u64 0, .int .u64 0, .int .u64 0, .int .u64 0, .slice none 0 0] 28)) = v3 at B_3 R1_3 R2_3 R3_3 ZS_3 ⊢
          refine wpAnyH_ready (rs := [13]) (by kernel_rfl) (by simp) ?_
          refine AllReadyH.cons rfl (fun K hK => ?_) AllReadyH.nil
          go_simp
          have hb : Below v3.heap.size v3 (v3.alloc (.cells #[.slice none 0 0] 23)) := (Below.refl _ _).alloc (Nat.le_refl _) _
          have hz := heap_alloc_new v3 (.cells #[.slice none 0 0] 23)
          obtain ⟨hi, hnm⟩ : ∃ x, v3.heap.size = x := ⟨_, rfl⟩
          have geh := Lib.hid (show w1.heap.size ≤ hi from hnm ▸ B_3.out.size)
          have B_4 := Lib.hid (B_3.out.trans (hb.mono B_3.out.size))
          have R1_4 := Lib.hid (row_below R1_3.out hb)
          have R2_4 := Lib.hid (row_below R2_3.out hb)
          have R3_4 := Lib.hid (row_below R3_3.out hb)
          have ZS_4 := Lib.hid (hp_below ZS_3.out hb)
          rw [hnm] at hz ⊢
          have ZH_4 := Lib.hid hz
          clear hz hb hnm
          refine hK.out _ _ (by exact ks_of KS0 lg lq B_4.out) (fun hHeld => ?_)
          clear hK K hHeld
          try simp only [Act.put, List.setIfInBounds_toArray, List.set_cons_zero, List.set_cons_succ]
          generalize (v3.alloc (.cells #[.slice none 0 0] 23)) = v4 at B_4 R1_4 R2_4 R3_4 ZS_4 ZH_4 ⊢
          refine wpAnyH_ready (rs := [14]) (by kernel_rfl) (by simp) ?_
          refine AllReadyH.cons rfl (fun K hK => ?_) AllReadyH.nil
          have zs0 : v4.cell? ⟨si, 0, none⟩ = some (.int .i64 0) := hp_cell ZS_4.out 0
          have zz0 := hp_frozen ZS_4.out 0
          have zs1 : v4.cell? ⟨si, 1, none⟩ = some (.slice none 0 0) := hp_cell ZS_4.out 1
          have zz1 := hp_frozen ZS_4.out 1
          have zs2 : v4.cell? ⟨si, 2, none⟩ = some (.int .u64 0) := hp_cell ZS_4.out 2
          have zz2 := hp_frozen ZS_4.out 2
          have zs3 : v4.cell? ⟨si, 3, none⟩ = some (.int .u64 0) := hp_cell ZS_4.out 3
          have zz3 := hp_frozen ZS_4.out 3
          have zs4 : v4.cell? ⟨si, 4, none⟩ = some (.int .u64 0) := hp_cell ZS_4.out 4
          have zz4 := hp_frozen ZS_4.out 4
          have zs5 : v4.cell? ⟨si, 5, none⟩ = some (.int .u64 0) := hp_cell ZS_4.out 5
          have zz5 := hp_frozen ZS_4.out 5
          have zs6 : v4.cell? ⟨si, 6, none⟩ = some (.slice none 0 0) := hp_cell ZS_4.out 6
          have zz6 := hp_frozen ZS_4.out 6
          have zl := hp_lt ZS_4.out
          go_simp
          have fr := put7_fr (w := v4) (b := si) (A1 := A1) (c1 := c1) (A2 := A2) (c2 := c2) (s := s)
          have Bs := Lib.hid (below_ne B_4.out fr ges.out)
          have Zs := Lib.hid (put7 (A1 := A1) (c1 := c1) (A2 := A2) (c2 := c2) (s := s) ZS_4.out)
          have R1s := Lib.hid (row_ty R1_4.out fr ZS_4.out (by decide))
          have R2s := Lib.hid (row_ty R2_4.out fr ZS_4.out (by decide))
          have R3s := Lib.hid (row_ty R3_4.out fr ZS_4.out (by decide))
          have Zhs := Lib.hid (fr.hp ZH_4.out (hp_ne ZH_4.out ZS_4.out (by decide)))
          refine hK.out _ _ (by exact ks_of KS0 lg lq Bs.out) (fun hHeld => ?_)
          clear hK K hHeld
          try simp only [Act.put, List.setIfInBounds_toArray, List.set_cons_zero, List.set_cons_succ]
          clear zs0 zs1 zs2 zs3 zs4 zs5 zs6 zz0 zz1 zz2 zz3 zz4 zz5 zz6 zl fr
          generalize (((((((v4.setCell ⟨si, 0, none⟩ (.int .i64 s.pc)).setCell ⟨si, 1, none⟩ (.slice A1 s.stk.length c1)).setCell ⟨si, 2, none⟩ (.int .u64 s.la)).setCell ⟨si, 3, none⟩ (.int .u64 s.lb)).setCell ⟨si, 4, none⟩ (.int .u64 s.lc)).setCell ⟨si, 5, none⟩ (.int .u64 s.ld)).setCell ⟨si, 6, none⟩ (.slice A2 s.out.length c2)) = vs at Bs Zs R1s R2s R3s Zhs ⊢
          refine wpAnyH_ready (rs := [15]) (by kernel_rfl) (by simp) ?_
          refine AllReadyH.cons rfl (fun K hK => ?_) AllReadyH.nil
          have zh0 : vs.cell? ⟨hi, 0, none⟩ = some (.slice none 0 0) := hp_cell Zhs.out 0
          have zh1 := hp_frozen Zhs.out 0
          have zh2 := hp_lt Zhs.out
          go_simp
          have fh : Fr (fun k => k ≠ hi) vs (vs.setCell ⟨hi, 0, none⟩ (.slice A3 hp.length c3)) := Fr.set _ (fun e => e rfl) 0 _
          have Bh := Lib.hid (below_ne Bs.out fh geh.out)
          refine hK.out _ _ (by exact ks_of KS0 lg lq Bh.out) (fun hHeld => ?_)
          clear hK K hHeld
          try simp only [Act.put, List.setIfInBounds_toArray, List.set_cons_zero, List.set_cons_succ]
          refine wpAnyH_done (by kernel_rfl) ?_ _
          exact ⟨rfl, fun k => #[.nilFunc, .nilFunc, .nilFunc, .nilFunc, .nilFunc, .nilFunc, (.pointer (some ⟨g, 0, none⟩)), (.pointer (some ⟨g, 0, none⟩)), (.pointer (some ⟨g, 0, none⟩)), (.pointer (some ⟨g, 1, none⟩)), (.agg #[.int .i64 s.pc, .slice p.A1 s.stk.length p.c1, .int .u64 s.la, .int .u64 s.lb, .int .u64 s.lc, .int .u64 s.ld, .slice p.A2 s.out.length p.c2]), (.agg (stC s A1 c1 A2 c2)), (.pointer (some ⟨g, 0, none⟩)), (.pointer (some ⟨g, 0, none⟩)), (.pointer (some ⟨g, 0, none⟩)), (.pointer (some ⟨g, 8, none⟩)), (.slice p.A3 hp.length p.c3), (.slice A3 hp.length c3)].getD k undef, si, hi, rfl, A1, c1, A2, c2, A3, c3, fh.hp Zs.out (hp_ne Zs.out Zhs.out (by decide)), hp_put1 Zhs.out _, row_ty R1s.out fh Zhs.out (by decide), row_ty R2s.out fh Zhs.out (by decide), row_ty R3s.out fh Zhs.out (by decide), D12.out, D13.out, D23.out, ges.out, geh.out, Bh.out⟩
        refine AllReadyH.cons rfl (fun K hK => ?_) AllReadyH.nil
        go_simp
        have hb : Below v2.heap.size v2 (v2.alloc (.cells #[.slice none 0 0] 23)) := (Below.refl _ _).alloc (Nat.le_refl _) _
        have hz := heap_alloc_new v2 (.cells #[.slice none 0 0] 23)
        obtain ⟨hi, hnm⟩ : ∃ x, v2.heap.size = x := ⟨_, rfl⟩
        have geh := Lib.hid (show w1.heap.size ≤ hi from hnm ▸ B_2.out.size)
        have B_5 := Lib.hid (B_2.out.trans (hb.mono B_2.out.size))
        have R1_5 := Lib.hid (row_below R1_2.out hb)
        have R2_5 := Lib.hid (row_below R2_2.out hb)
        have R3_5 := Lib.hid (row_below R3_2.out hb)
        rw [hnm] at hz ⊢
        have ZH_5 := Lib.hid hz
        clear hz hb hnm
        refine hK.out _ _ (by exact ks_of KS0 lg lq B_5.out) (fun hHeld => ?_)
        clear hK K hHeld
        try simp only [Act.put, List.setIfInBounds_toArray, List.set_cons_zero, List.set_cons_succ]
        generalize (v2.alloc (.cells #[.slice none 0 0] 23)) = v5 at B_5 R1_5 R2_5 R3_5 ZH_5 ⊢
        refine wpAnyH_ready (rs := [12]) (by kernel_rfl) (by simp) ?_
        refine AllReadyH.cons rfl (fun K hK => ?_) AllReadyH.nil
        go_simp
        have hb : Below v5.heap.size v5 (v5.alloc (.cells #[.int .i64 0, .slice none 0 0, .int .u64 0, .int .u64 0, .int .u64 0, .int .u64 0, .slice none 0 0] 28)) := (Below.refl _ _).alloc (Nat.le_refl _) _
        have hz := heap_alloc_new v5 (.cells #[.int .i64 0, .slice none 0 0, .int .u64 0, .int .u64 0, .int .u64 0, .int .u64 0, .slice none 0 0] 28)
        obtain ⟨si, hnm⟩ : ∃ x, v5.heap.size = x := ⟨_, rfl⟩
        have ges := Lib.hid (show w1.heap.size ≤ si from hnm ▸ B_5.out.size)
        have B_6 := Lib.hid (B_5.out.trans (hb.mono B_5.out.size))
        have R1_6 := Lib.hid (row_below R1_5.out hb)
        have R2_6 := Lib.hid (row_below R2_5.out hb)
        have R3_6 := Lib.hid (row_below R3_5.out hb)
        have ZH_6 := Lib.hid (hp_below ZH_5.out hb)
        rw [hnm] at hz ⊢
        have ZS_6 := Lib.hid hz
        clear hz hb hnm
        refine hK.out _ _ (by exact ks_of KS0 lg lq B_6.out) (fun hHeld => ?_)
        clear hK K hHeld
        try simp only [Act.put, List.setIfInBounds_toArray, List.set_cons_zero, List.set_cons_succ]
        generalize (v5.alloc (.cells #[.int .i64 0, .slice none 0 0, .int .u64 0, .int .u64 0, .int .u64 0, .int .u64 0, .slice none 0 0] 28)) = v6 at B_6 R1_6 R2_6 R3_6 ZH_6 ZS_6 ⊢
        refine wpAnyH_ready (rs := [14]) (by kernel_rfl) (by simp) ?_
        refine AllReadyH.cons rfl (fun K hK => ?_) AllReadyH.nil
        have zs0 : v6.cell? ⟨si, 0, none⟩ = some (.int .i64 0) := hp_cell ZS_6.out 0
        have zz0 := hp_frozen ZS_6.out 0
        have zs1 : v6.cell? ⟨si, 1, none⟩ = some (.slice none 0 0) := hp_cell ZS_6.out 1
        have zz1 := hp_frozen ZS_6.out 1
        have zs2 : v6.cell? ⟨si, 2, none⟩ = some (.int .u64 0) := hp_cell ZS_6.out 2
        have zz2 := hp_frozen ZS_6.out 2
        have zs3 : v6.cell? ⟨si, 3, none⟩ = some (.int .u64 0) := hp_cell ZS_6.out 3
        have zz3 := hp_frozen ZS_6.out 3
        have zs4 : v6.cell? ⟨si, 4, none⟩ = some (.int .u64 0) := hp_cell ZS_6.out 4
        have zz4 := hp_frozen ZS_6.out 4
        have zs5 : v6.cell? ⟨si, 5, none⟩ = some (.int .u64 0) := hp_cell ZS_6.out 5
        have zz5 := hp_frozen ZS_6.out 5
        have zs6 : v6.cell? ⟨si, 6, none⟩ = some (.slice none 0 0) := hp_cell ZS_6.out 6
        have zz6 := hp_frozen ZS_6.out 6
        have zl := hp_lt ZS_6.out
        go_simp
        have fr := put7_fr (w := v6) (b := si) (A1 := A1) (c1 := c1) (A2 := A2) (c2 := c2) (s := s)
        have Bs := Lib.hid (below_ne B_6.out fr ges.out)
        have Zs := Lib.hid (put7 (A1 := A1) (c1 := c1) (A2 := A2) (c2 := c2) (s := s) ZS_6.out)
        have R1s := Lib.hid (row_ty R1_6.out fr ZS_6.out (by decide))
        have R2s := Lib.hid (row_ty R2_6.out fr ZS_6.out (by decide))
        have R3s := Lib.hid (row_ty R3_6.out fr ZS_6.out (by decide))
        have Zhs := Lib.hid (fr.hp ZH_6.out (hp_ne ZH_6.out ZS_6.out (by decide)))
        refine hK.out _ _ (by exact ks_of KS0 lg lq Bs.out) (fun hHeld => ?_)
        clear hK K hHeld
        try simp only [Act.put, List.setIfInBounds_toArray, List.set_cons_zero, List.set_cons_succ]
        clear zs0 zs1 zs2 zs3 zs4 zs5 zs6 zz0 zz1 zz2 zz3 zz4 zz5 zz6 zl fr
        generalize (((((((v6.setCell ⟨si, 0, none⟩ (.int .i64 s.pc)).setCell ⟨si, 1, none⟩ (.slice A1 s.stk.length c1)).setCell ⟨si, 2, none⟩ (.int .u64 s.la)).setCell ⟨si, 3, none⟩ (.int .u64 s.lb)).setCell ⟨si, 4, none⟩ (.int .u64 s.lc)).setCell ⟨si, 5, none⟩ (.int .u64 s.ld)).setCell ⟨si, 6, none⟩ (.slice A2 s.out.length c2)) = vs at Bs Zs R1s R2s R3s Zhs ⊢
        refine wpAnyH_ready (rs := [15]) (by kernel_rfl) (by simp) ?_
        refine AllReadyH.cons rfl (fun K hK => ?_) AllReadyH.nil
        have zh0 : vs.cell? ⟨hi, 0, none⟩ = some (.slice none 0 0) := hp_cell Zhs.out 0
        have zh1 := hp_frozen Zhs.out 0
        have zh2 := hp_lt Zhs.out
        go_simp
        have fh : Fr (fun k => k ≠ hi) vs (vs.setCell ⟨hi, 0, none⟩ (.slice A3 hp.length c3)) := Fr.set _ (fun e => e rfl) 0 _
        have Bh := Lib.hid (below_ne Bs.out fh geh.out)
        refine hK.out _ _ (by exact ks_of KS0 lg lq Bh.out) (fun hHeld => ?_)
        clear hK K hHeld
        try simp only [Act.put, List.setIfInBounds_toArray, List.set_cons_zero, List.set_cons_succ]
        refine wpAnyH_done (by kernel_rfl) ?_ _
        exact ⟨rfl, fun k => #[.nilFunc, .nilFunc, .nilFunc, .nilFunc, .nilFunc, .nilFunc, (.pointer (some ⟨g, 0, none⟩)), (.pointer (some ⟨g, 0, none⟩)), (.pointer (some ⟨g, 0, none⟩)), (.pointer (some ⟨g, 1, none⟩)), (.agg #[.int .i64 s.pc, .slice p.A1 s.stk.length p.c1, .int .u64 s.la, .int .u64 s.lb, .int .u64 s.lc, .int .u64 s.ld, .slice p.A2 s.out.length p.c2]), (.agg (stC s A1 c1 A2 c2)), (.pointer (some ⟨g, 0, none⟩)), (.pointer (some ⟨g, 0, none⟩)), (.pointer (some ⟨g, 0, none⟩)), (.pointer (some ⟨g, 8, none⟩)), (.slice p.A3 hp.length p.c3), (.slice A3 hp.length c3)].getD k undef, si, hi, rfl, A1, c1, A2, c2, A3, c3, fh.hp Zs.out (hp_ne Zs.out Zhs.out (by decide)), hp_put1 Zhs.out _, row_ty R1s.out fh Zhs.out (by decide), row_ty R2s.out fh Zhs.out (by decide), row_ty R3s.out fh Zhs.out (by decide), D12.out, D13.out, D23.out, ges.out, geh.out, Bh.out⟩
      refine AllReadyH.cons rfl (fun K hK => ?_) ?_
      · go_simp
        have hb : Below v1.heap.size v1 (v1.alloc (.cells #[.int .i64 0, .slice none 0 0, .int .u64 0, .int .u64 0, .int .u64 0, .int .u64 0, .slice none 0 0] 28)) := (Below.refl _ _).alloc (Nat.le_refl _) _
        have hz := heap_alloc_new v1 (.cells #[.int .i64 0, .slice none 0 0, .int .u64 0, .int .u64 0, .int .u64 0, .int .u64 0, .slice none 0 0] 28)
        obtain ⟨si, hnm⟩ : ∃ x, v1.heap.size = x := ⟨_, rfl⟩
        have ges := Lib.hid (show w1.heap.size ≤ si from hnm ▸ B_1.out.size)
        have B_7 := Lib.hid (B_1.out.trans (hb.mono B_1.out.size))
        have R1_7 := Lib.hid (row_below R1_1.out hb)
        have R2_7 := Lib.hid (row_below R2_1.out hb)
        rw [hnm] at hz ⊢
        have ZS_7 := Lib.hid hz
        clear hz hb hnm
        refine hK.out _ _ (by exact ks_of KS0 lg lq B_7.out) (fun hHeld => ?_)
        clear hK K hHeld
        try simp only [Act.put, List.setIfInBounds_toArray, List.set_cons_zero, List.set_cons_succ]
        generalize (v1.alloc (.cells #[.int .i64 0, .slice none 0 0, .int .u64 0, .int .u64 0, .int .u64 0, .int .u64 0, .slice none 0 0] 28)) = v7 at B_7 R1_7 R2_7 ZS_7 ⊢
        refine wpAnyH_ready (rs := [11, 13]) (by kernel_rfl) (by simp) ?_
        refine AllReadyH.cons rfl (fun K hK => ?_) ?_
        · go_simp
          go_at_call 41
          refine (clone_src p.A3 p.c3 hp _ (S3.out.below B_7.out)).mono ?_
          rintro e v8 ⟨A3, c3, rfl, hr3, hb⟩
          have D13 := Lib.hid (show ∀ k, blk A1 = some k → blk A3 ≠ some k from fun k hk e => by have a1 := (row_lt R1_7.out k hk).2; have a2 := (row_lt hr3 k e).1; omega)
          have D23 := Lib.hid (show ∀ k, blk A2 = some k → blk A3 ≠ some k from fun k hk e => by have a1 := (row_lt R2_7.out k hk).2; have a2 := (row_lt hr3 k e).1; omega)
          have B_8 := Lib.hid (B_7.out.trans (hb.mono B_7.out.size))
          have R1_8 := Lib.hid (row_below R1_7.out hb)
          have R2_8 := Lib.hid (row_below R2_7.out hb)
          have ZS_8 := Lib.hid (hp_below ZS_7.out hb)
          have R3_8 := Lib.hid (row_base hr3 B_7.out.size)
          clear hr3 hb
          refine hK.out _ _ (by exact ks_of KS0 lg lq B_8.out) (fun hHeld => ?_)
          clear hK K hHeld
          try simp only [Act.put, List.setIfInBounds_toArray, List.set_cons_zero, List.set_cons_succ]
          refine wpAnyH_ready (rs := [13]) (by kernel_rfl) (by simp) ?_
          refine AllReadyH.cons rfl (fun K hK => ?_) AllReadyH.nil
          go_simp
          have hb : Below v8.heap.size v8 (v8.alloc (.cells #[.slice none 0 0] 23)) := (Below.refl _ _).alloc (Nat.le_refl _) _
          have hz := heap_alloc_new v8 (.cells #[.slice none 0 0] 23)
          obtain ⟨hi, hnm⟩ : ∃ x, v8.heap.size = x := ⟨_, rfl⟩
          have geh := Lib.hid (show w1.heap.size ≤ hi from hnm ▸ B_8.out.size)
          have B_9 := Lib.hid (B_8.out.trans (hb.mono B_8.out.size))
          have R1_9 := Lib.hid (row_below R1_8.out hb)
          have R2_9 := Lib.hid (row_below R2_8.out hb)
          have ZS_9 := Lib.hid (hp_below ZS_8.out hb)
          have R3_9 := Lib.hid (row_below R3_8.out hb)
          rw [hnm] at hz ⊢
          have ZH_9 := Lib.hid hz
          clear hz hb hnm
          refine hK.out _ _ (by exact ks_of KS0 lg lq B_9.out) (fun hHeld => ?_)
          clear hK K hHeld
          try simp only [Act.put, List.setIfInBounds_toArray, List.set_cons_zero, List.set_cons_succ]
          generalize (v8.alloc (.cells #[.slice none 0 0] 23)) = v9 at B_9 R1_9 R2_9 ZS_9 R3_9 ZH_9 ⊢
          refine wpAnyH_ready (rs := [14]) (by kernel_rfl) (by simp) ?_
          refine AllReadyH.cons rfl (fun K hK => ?_) AllReadyH.nil
          have zs0 : v9.cell? ⟨si, 0, none⟩ = some (.int .i64 0) := hp_cell ZS_9.out 0
          have zz0 := hp_frozen ZS_9.out 0
          have zs1 : v9.cell? ⟨si, 1, none⟩ = some (.slice none 0 0) := hp_cell ZS_9.out 1
          have zz1 := hp_frozen ZS_9.out 1
          have zs2 : v9.cell? ⟨si, 2, none⟩ = some (.int .u64 0) := hp_cell ZS_9.out 2
          have zz2 := hp_frozen ZS_9.out 2
          have zs3 : v9.cell? ⟨si, 3, none⟩ = some (.int .u64 0) := hp_cell ZS_9.out 3
          have zz3 := hp_frozen ZS_9.out 3
          have zs4 : v9.cell? ⟨si, 4, none⟩ = some (.int .u64 0) := hp_cell ZS_9.out 4
          have zz4 := hp_frozen ZS_9.out 4
          have zs5 : v9.cell? ⟨si, 5, none⟩ = some (.int .u64 0) := hp_cell ZS_9.out 5
          have zz5 := hp_frozen ZS_9.out 5
          have zs6 : v9.cell? ⟨si, 6, none⟩ = some (.slice none 0 0) := hp_cell ZS_9.out 6
          have zz6 := hp_frozen ZS_9.out 6
          have zl := hp_lt ZS_9.out
          go_simp
          have fr := put7_fr (w := v9) (b := si) (A1 := A1) (c1 := c1) (A2 := A2) (c2 := c2) (s := s)
          have Bs := Lib.hid (below_ne B_9.out fr ges.out)
          have Zs := Lib.hid (put7 (A1 := A1) (c1 := c1) (A2 := A2) (c2 := c2) (s := s) ZS_9.out)
          have R1s := Lib.hid (row_ty R1_9.out fr ZS_9.out (by decide))
          have R2s := Lib.hid (row_ty R2_9.out fr ZS_9.out (by decide))
          have R3s := Lib.hid (row_ty R3_9.out fr ZS_9.out (by decide))
          have Zhs := Lib.hid (fr.hp ZH_9.out (hp_ne ZH_9.out ZS_9.out (by decide)))
          refine hK.out _ _ (by exact ks_of KS0 lg lq Bs.out) (fun hHeld => ?_)
          clear hK K hHeld
          try simp only [Act.put, List.setIfInBounds_toArray, List.set_cons_zero, List.set_cons_succ]
          clear zs0 zs1 zs2 zs3 zs4 zs5 zs6 zz0 zz1 zz2 zz3 zz4 zz5 zz6 zl fr
          generalize (((((((v9.setCell ⟨si, 0, none⟩ (.int .i64 s.pc)).setCell ⟨si, 1, none⟩ (.slice A1 s.stk.length c1)).setCell ⟨si, 2, none⟩ (.int .u64 s.la)).setCell ⟨si, 3, none⟩ (.int .u64 s.lb)).setCell ⟨si, 4, none⟩ (.int .u64 s.lc)).setCell ⟨si, 5, none⟩ (.int .u64 s.ld)).setCell ⟨si, 6, none⟩ (.slice A2 s.out.length c2)) = vs at Bs Zs R1s R2s R3s Zhs ⊢
          refine wpAnyH_ready (rs := [15]) (by kernel_rfl) (by simp) ?_
          refine AllReadyH.cons rfl (fun K hK => ?_) AllReadyH.nil
          have zh0 : vs.cell? ⟨hi, 0, none⟩ = some (.slice none 0 0) := hp_cell Zhs.out 0
          have zh1 := hp_frozen Zhs.out 0
          have zh2 := hp_lt Zhs.out
          go_simp
          have fh : Fr (fun k => k ≠ hi) vs (vs.setCell ⟨hi, 0, none⟩ (.slice A3 hp.length c3)) := Fr.set _ (fun e => e rfl) 0 _
          have Bh := Lib.hid (below_ne Bs.out fh geh.out)
          refine hK.out _ _ (by exact ks_of KS0 lg lq Bh.out) (fun hHeld => ?_)
          clear hK K hHeld
          try simp only [Act.put, List.setIfInBounds_toArray, List.set_cons_zero, List.set_cons_succ]
          refine wpAnyH_done (by kernel_rfl) ?_ _
          exact ⟨rfl, fun k => #[.nilFunc, .nilFunc, .nilFunc, .nilFunc, .nilFunc, .nilFunc, (.pointer (some ⟨g, 0, none⟩)), (.pointer (some ⟨g, 0, none⟩)), (.pointer (some ⟨g, 0, none⟩)), (.pointer (some ⟨g, 1, none⟩)), (.agg #[.int .i64 s.pc, .slice p.A1 s.stk.length p.c1, .int .u64 s.la, .int .u64 s.lb, .int .u64 s.lc, .int .u64 s.ld, .slice p.A2 s.out.length p.c2]), (.agg (stC s A1 c1 A2 c2)), (.pointer (some ⟨g, 0, none⟩)), (.pointer (some ⟨g, 0, none⟩)), (.pointer (some ⟨g, 0, none⟩)), (.pointer (some ⟨g, 8, none⟩)), (.slice p.A3 hp.length p.c3), (.slice A3 hp.length c3)].getD k undef, si, hi, rfl, A1, c1, A2, c2, A3, c3, fh.hp Zs.out (hp_ne Zs.out Zhs.out (by decide)), hp_put1 Zhs.out _, row_ty R1s.out fh Zhs.out (by decide), row_ty R2s.out fh Zhs.out (by decide), row_ty R3s.out fh Zhs.out (by decide), D12.out, D13.out, D23.out, ges.out, geh.out, Bh.out⟩
        refine AllReadyH.cons rfl (fun K hK => ?_) AllReadyH.nil
        go_simp
        have hb : Below v7.heap.size v7 (v7.alloc (.cells #[.slice none 0 0] 23)) := (Below.refl _ _).alloc (Nat.le_refl _) _
        have hz := heap_alloc_new v7 (.cells #[.slice none 0 0] 23)
        obtain ⟨hi, hnm⟩ : ∃ x, v7.heap.size = x := ⟨_, rfl⟩
        have geh := Lib.hid (show w1.heap.size ≤ hi from hnm ▸ B_7.out.size)
        have B_10 := Lib.hid (B_7.out.trans (hb.mono B_7.out.size))
        have R1_10 := Lib.hid (row_below R1_7.out hb)
        have R2_10 := Lib.hid (row_below R2_7.out hb)
        have ZS_10 := Lib.hid (hp_below ZS_7.out hb)
        rw [hnm] at hz ⊢
        have ZH_10 := Lib.hid hz
        clear hz hb hnm
        refine hK.out _ _ (by exact ks_of KS0 lg lq B_10.out) (fun hHeld => ?_)
        clear hK K hHeld
        try simp only [Act.put, List.setIfInBounds_toArray, List.set_cons_zero, List.set_cons_succ]
        generalize (v7.alloc (.cells #[.slice none 0 0] 23)) = v10 at B_10 R1_10 R2_10 ZS_10 ZH_10 ⊢
        refine wpAnyH_ready (rs := [11]) (by kernel_rfl) (by simp) ?_
        refine AllReadyH.cons rfl (fun K hK => ?_) AllReadyH.nil
        go_simp
        go_at_call 41
        refine (clone_src p.A3 p.c3 hp _ (S3.out.below B_10.out)).mono ?_
        rintro e v11 ⟨A3, c3, rfl, hr3, hb⟩
        have D13 := Lib.hid (show ∀ k, blk A1 = some k → blk A3 ≠ some k from fun k hk e => by have a1 := (row_lt R1_10.out k hk).2; have a2 := (row_lt hr3 k e).1; omega)
        have D23 := Lib.hid (show ∀ k, blk A2 = some k → blk A3 ≠ some k from fun k hk e => by have a1 := (row_lt R2_10.out k hk).2; have a2 := (row_lt hr3 k e).1; omega)
        have B_11 := Lib.hid (B_10.out.trans (hb.mono B_10.out.size))
        have R1_11 := Lib.hid (row_below R1_10.out hb)
        have R2_11 := Lib.hid (row_below R2_10.out hb)
        have ZS_11 := Lib.hid (hp_below ZS_10.out hb)
        have ZH_11 := Lib.hid (hp_below ZH_10.out hb)
        have R3_11 := Lib.hid (row_base hr3 B_10.out.size)
        clear hr3 hb
        refine hK.out _ _ (by exact ks_of KS0 lg lq B_11.out) (fun hHeld => ?_)
        clear hK K hHeld
        try simp only [Act.put, List.setIfInBounds_toArray, List.set_cons_zero, List.set_cons_succ]
        refine wpAnyH_ready (rs := [14]) (by kernel_rfl) (by simp) ?_
        refine AllReadyH.cons rfl (fun K hK => ?_) AllReadyH.nil
        have zs0 : v11.cell? ⟨si, 0, none⟩ = some (.int .i64 0) := hp_cell ZS_11.out 0
        have zz0 := hp_frozen ZS_11.out 0
        have zs1 : v11.cell? ⟨si, 1, none⟩ = some (.slice none 0 0) := hp_cell ZS_11.out 1
        have zz1 := hp_frozen ZS_11.out 1
        have zs2 : v11.cell? ⟨si, 2, none⟩ = some (.int .u64 0) := hp_cell ZS_11.out 2
        have zz2 := hp_frozen ZS_11.out 2
        have zs3 : v11.cell? ⟨si, 3, none⟩ = some (.int .u64 0) := hp_cell ZS_11.out 3
        have zz3 := hp_frozen ZS_11.out 3
        have zs4 : v11.cell? ⟨si, 4, none⟩ = some (.int .u64 0) := hp_cell ZS_11.out 4
        have zz4 := hp_frozen ZS_11.out 4
        have zs5 : v11.cell? ⟨si, 5, none⟩ = some (.int .u64 0) := hp_cell ZS_11.out 5
        have zz5 := hp_frozen ZS_11.out 5
        have zs6 : v11.cell? ⟨si, 6, none⟩ = some (.slice none 0 0) := hp_cell ZS_11.out 6
        have zz6 := hp_frozen ZS_11.out 6
        have zl := hp_lt ZS_11.out
        go_simp
        have fr := put7_fr (w := v11) (b := si) (A1 := A1) (c1 := c1) (A2 := A2) (c2 := c2) (s := s)
        have Bs := Lib.hid (below_ne B_11.out fr ges.out)
        have Zs := Lib.hid (put7 (A1 := A1) (c1 := c1) (A2 := A2) (c2 := c2) (s := s) ZS_11.out)
        have R1s := Lib.hid (row_ty R1_11.out fr ZS_11.out (by decide))
        have R2s := Lib.hid (row_ty R2_11.out fr ZS_11.out (by decide))
        have R3s := Lib.hid (row_ty R3_11.out fr ZS_11.out (by decide))
        have Zhs := Lib.hid (fr.hp ZH_11.out (hp_ne ZH_11.out ZS_11.out (by decide)))
        refine hK.out _ _ (by exact ks_of KS0 lg lq Bs.out) (fun hHeld => ?_)
        clear hK K hHeld
        try simp only [Act.put, List.setIfInBounds_toArray, List.set_cons_zero, List.set_cons_succ]
        clear zs0 zs1 zs2 zs3 zs4 zs5 zs6 zz0 zz1 zz2 zz3 zz4 zz5 zz6 zl fr
        generalize (((((((v11.setCell ⟨si, 0, none⟩ (.int .i64 s.pc)).setCell ⟨si, 1, none⟩ (.slice A1 s.stk.length c1)).setCell ⟨si, 2, none⟩ (.int .u64 s.la)).setCell ⟨si, 3, none⟩ (.int .u64 s.lb)).setCell ⟨si, 4, none⟩ (.int .u64 s.lc)).setCell ⟨si, 5, none⟩ (.int .u64 s.ld)).setCell ⟨si, 6, none⟩ (.slice A2 s.out.length c2)) = vs at Bs Zs R1s R2s R3s Zhs ⊢
        refine wpAnyH_ready (rs := [15]) (by kernel_rfl) (by simp) ?_
        refine AllReadyH.cons rfl (fun K hK => ?_) AllReadyH.nil
        have zh0 : vs.cell? ⟨hi, 0, none⟩ = some (.slice none 0 0) := hp_cell Zhs.out 0
        have zh1 := hp_frozen Zhs.out 0
        have zh2 := hp_lt Zhs.out
        go_simp
        have fh : Fr (fun k => k ≠ hi) vs (vs.setCell ⟨hi, 0, none⟩ (.slice A3 hp.length c3)) := Fr.set _ (fun e => e rfl) 0 _
        have Bh := Lib.hid (below_ne Bs.out fh geh.out)
        refine hK.out _ _ (by exact ks_of KS0 lg lq Bh.out) (fun hHeld => ?_)
        clear hK K hHeld
        try simp only [Act.put, List.setIfInBounds_toArray, List.set_cons_zero, List.set_cons_succ]
        refine wpAnyH_done (by kernel_rfl) ?_ _
        exact ⟨rfl, fun k => #[.nilFunc, .nilFunc, .nilFunc, .nilFunc, .nilFunc, .nilFunc, (.pointer (some ⟨g, 0, none⟩)), (.pointer (some ⟨g, 0, none⟩)), (.pointer (some ⟨g, 0, none⟩)), (.pointer (some ⟨g, 1, none⟩)), (.agg #[.int .i64 s.pc, .slice p.A1 s.stk.length p.c1, .int .u64 s.la, .int .u64 s.lb, .int .u64 s.lc, .int .u64 s.ld, .slice p.A2 s.out.length p.c2]), (.agg (stC s A1 c1 A2 c2)), (.pointer (some ⟨g, 0, none⟩)), (.pointer (some ⟨g, 0, none⟩)), (.pointer (some ⟨g, 0, none⟩)), (.pointer (some ⟨g, 8, none⟩)), (.slice p.A3 hp.length p.c3), (.slice A3 hp.length c3)].getD k undef, si, hi, rfl, A1, c1, A2, c2, A3, c3, fh.hp Zs.out (hp_ne Zs.out Zhs.out (by decide)), hp_put1 Zhs.out _, row_ty R1s.out fh Zhs.out (by decide), row_ty R2s.out fh Zhs.out (by decide), row_ty R3s.out fh Zhs.out (by decide), D12.out, D13.out, D23.out, ges.out, geh.out, Bh.out⟩
      refine AllReadyH.cons rfl (fun K hK => ?_) AllReadyH.nil
      go_simp
      have hb : Below v1.heap.size v1 (v1.alloc (.cells #[.slice none 0 0] 23)) := (Below.refl _ _).alloc (Nat.le_refl _) _
      have hz := heap_alloc_new v1 (.cells #[.slice none 0 0] 23)
      obtain ⟨hi, hnm⟩ : ∃ x, v1.heap.size = x := ⟨_, rfl⟩
      have geh := Lib.hid (show w1.heap.size ≤ hi from hnm ▸ B_1.out.size)
      have B_12 := Lib.hid (B_1.out.trans (hb.mono B_1.out.size))
      have R1_12 := Lib.hid (row_below R1_1.out hb)
      have R2_12 := Lib.hid (row_below R2_1.out hb)
      rw [hnm] at hz ⊢
      have ZH_12 := Lib.hid hz
      clear hz hb hnm
      refine hK.out _ _ (by exact ks_of KS0 lg lq B_12.out) (fun hHeld => ?_)
      clear hK K hHeld
      try simp only [Act.put, List.setIfInBounds_toArray, List.set_cons_zero, List.set_cons_succ]
      generalize (v1.alloc (.cells #[.slice none 0 0] 23)) = v12 at B_12 R1_12 R2_12 ZH_12 ⊢
      refine wpAnyH_ready (rs := [11, 12]) (by kernel_rfl) (by simp) ?_
      refine AllReadyH.cons rfl (fun K hK => ?_) ?_
      · go_simp
        go_at_call 41
        refine (clone_src p.A3 p.c3 hp _ (S3.out.below B_12.out)).mono ?_
        rintro e v13 ⟨A3, c3, rfl, hr3, hb⟩
        have D13 := Lib.hid (show ∀ k, blk A1 = some k → blk A3 ≠ some k from fun k hk e => by have a1 := (row_lt R1_12.out k hk).2; have a2 := (row_lt hr3 k e).1; omega)
        have D23 := Lib.hid (show ∀ k, blk A2 = some k → blk A3 ≠ some k from fun k hk e => by have a1 := (row_lt R2_12.out k hk).2; have a2 := (row_lt hr3 k e).1; omega)
        have B_13 := Lib.hid (B_12.out.trans (hb.mono B_12.out.size))
        have R1_13 := Lib.hid (row_below R1_12.out hb)
        have R2_13 := Lib.hid (row_below R2_12.out hb)
        have ZH_13 := Lib.hid (hp_below ZH_12.out hb)
        have R3_13 := Lib.hid (row_base hr3 B_12.out.size)
        clear hr3 hb
        refine hK.out _ _ (by exact ks_of KS0 lg lq B_13.out) (fun hHeld => ?_)
        clear hK K hHeld
        try simp only [Act.put, List.setIfInBounds_toArray, List.set_cons_zero, List.set_cons_succ]
        refine wpAnyH_ready (rs := [12]) (by kernel_rfl) (by simp) ?_
        refine AllReadyH.cons rfl (fun K hK => ?_) AllReadyH.nil
        go_simp
        have hb : Below v13.heap.size v13 (v13.alloc (.cells #[.int .i64 0, .slice none 0 0, .int .u64 0, .int .u64 0, .int .u64 0, .int .u64 0, .slice none 0 0] 28)) := (Below.refl _ _).alloc (Nat.le_refl _) _
        have hz := heap_alloc_new v13 (.cells #[.int .i64 0, .slice none 0 0, .int .u64 0, .int .u64 0, .int .u64 0, .int .u64 0, .slice none 0 0] 28)
        obtain ⟨si, hnm⟩ : ∃ x, v13.heap.size = x := ⟨_, rfl⟩
        have ges := Lib.hid (show w1.heap.size ≤ si from hnm ▸ B_13.out.size)
        have B_14 := Lib.hid (B_13.out.trans (hb.mono B_13.out.size))
        have R1_14 := Lib.hid (row_below R1_13.out hb)
        have R2_14 := Lib.hid (row_below R2_13.out hb)
        have ZH_14 := Lib.hid (hp_below ZH_13.out hb)
        have R3_14 := Lib.hid (row_below R3_13.out hb)
        rw [hnm] at hz ⊢
        have ZS_14 := Lib.hid hz
        clear hz hb hnm
        refine hK.out _ _ (by exact ks_of KS0 lg lq B_14.out) (fun hHeld => ?_)
        clear hK K hHeld
        try simp only [Act.put, List.setIfInBounds_toArray, List.set_cons_zero, List.set_cons_succ]
        generalize (v13.alloc (.cells #[.int .i64 0, .slice none 0 0, .int .u64 0, .int .u64 0, .int .u64 0, .int .u64 0, .slice none 0 0] 28)) = v14 at B_14 R1_14 R2_14 ZH_14 R3_14 ZS_14 ⊢
        refine wpAnyH_ready (rs := [14]) (by kernel_rfl) (by simp) ?_
        refine AllReadyH.cons rfl (fun K hK => ?_) AllReadyH.nil
        have zs0 : v14.cell? ⟨si, 0, none⟩ = some (.int .i64 0) := hp_cell ZS_14.out 0
        have zz0 := hp_frozen ZS_14.out 0
        have zs1 : v14.cell? ⟨si, 1, none⟩ = some (.slice none 0 0) := hp_cell ZS_14.out 1
        have zz1 := hp_frozen ZS_14.out 1
        have zs2 : v14.cell? ⟨si, 2, none⟩ = some (.int .u64 0) := hp_cell ZS_14.out 2
        have zz2 := hp_frozen ZS_14.out 2
        have zs3 : v14.cell? ⟨si, 3, none⟩ = some (.int .u64 0) := hp_cell ZS_14.out 3
        have zz3 := hp_frozen ZS_14.out 3
        have zs4 : v14.cell? ⟨si, 4, none⟩ = some (.int .u64 0) := hp_cell ZS_14.out 4
        have zz4 := hp_frozen ZS_14.out 4
        have zs5 : v14.cell? ⟨si, 5, none⟩ = some (.int .u64 0) := hp_cell ZS_14.out 5
        have zz5 := hp_frozen ZS_14.out 5
        have zs6 : v14.cell? ⟨si, 6, none⟩ = some (.slice none 0 0) := hp_cell ZS_14.out 6
        have zz6 := hp_frozen ZS_14.out 6
        have zl := hp_lt ZS_14.out
        go_simp
        have fr := put7_fr (w := v14) (b := si) (A1 := A1) (c1 := c1) (A2 := A2) (c2 := c2) (s := s)
        have Bs := Lib.hid (below_ne B_14.out fr ges.out)
        have Zs := Lib.hid (put7 (A1 := A1) (c1 := c1) (A2 := A2) (c2 := c2) (s := s) ZS_14.out)
        have R1s := Lib.hid (row_ty R1_14.out fr ZS_14.out (by decide))
        have R2s := Lib.hid (row_ty R2_14.out fr ZS_14.out (by decide))
        have R3s := Lib.hid (row_ty R3_14.out fr ZS_14.out (by decide))
        have Zhs := Lib.hid (fr.hp ZH_14.out (hp_ne ZH_14.out ZS_14.out (by decide)))
        refine hK.out _ _ (by exact ks_of KS0 lg lq Bs.out) (fun hHeld => ?_)
        clear hK K hHeld
        try simp only [Act.put, List.setIfInBounds_toArray, List.set_cons_zero, List.set_cons_succ]
        clear zs0 zs1 zs2 zs3 zs4 zs5 zs6 zz0 zz1 zz2 zz3 zz4 zz5 zz6 zl fr
        generalize (((((((v14.setCell ⟨si, 0, none⟩ (.int .i64 s.pc)).setCell ⟨si, 1, none⟩ (.slice A1 s.stk.length c1)).setCell ⟨si, 2, none⟩ (.int .u64 s.la)).setCell ⟨si, 3, none⟩ (.int .u64 s.lb)).setCell ⟨si, 4, none⟩ (.int .u64 s.lc)).setCell ⟨si, 5, none⟩ (.int .u64 s.ld)).setCell ⟨si, 6, none⟩ (.slice A2 s.out.length c2)) = vs at Bs Zs R1s R2s R3s Zhs ⊢
        refine wpAnyH_ready (rs := [15]) (by kernel_rfl) (by simp) ?_
        refine AllReadyH.cons rfl (fun K hK => ?_) AllReadyH.nil
        have zh0 : vs.cell? ⟨hi, 0, none⟩ = some (.slice none 0 0) := hp_cell Zhs.out 0
        have zh1 := hp_frozen Zhs.out 0
        have zh2 := hp_lt Zhs.out
        go_simp
        have fh : Fr (fun k => k ≠ hi) vs (vs.setCell ⟨hi, 0, none⟩ (.slice A3 hp.length c3)) := Fr.set _ (fun e => e rfl) 0 _
        have Bh := Lib.hid (below_ne Bs.out fh geh.out)
        refine hK.out _ _ (by exact ks_of KS0 lg lq Bh.out) (fun hHeld => ?_)
        clear hK K hHeld
        try simp only [Act.put, List.setIfInBounds_toArray, List.set_cons_zero, List.set_cons_succ]
        refine wpAnyH_done (by kernel_rfl) ?_ _
        exact ⟨rfl, fun k => #[.nilFunc, .nilFunc, .nilFunc, .nilFunc, .nilFunc, .nilFunc, (.pointer (some ⟨g, 0, none⟩)), (.pointer (some ⟨g, 0, none⟩)), (.pointer (some ⟨g, 0, none⟩)), (.pointer (some ⟨g, 1, none⟩)), (.agg #[.int .i64 s.pc, .slice p.A1 s.stk.length p.c1, .int .u64 s.la, .int .u64 s.lb, .int .u64 s.lc, .int .u64 s.ld, .slice p.A2 s.out.length p.c2]), (.agg (stC s A1 c1 A2 c2)), (.pointer (some ⟨g, 0, none⟩)), (.pointer (some ⟨g, 0, none⟩)), (.pointer (some ⟨g, 0, none⟩)), (.pointer (some ⟨g, 8, none⟩)), (.slice p.A3 hp.length p.c3), (.slice A3 hp.length c3)].getD k undef, si, hi, rfl, A1, c1, A2, c2, A3, c3, fh.hp Zs.out (hp_ne Zs.out Zhs.out (by decide)), hp_put1 Zhs.out _, row_ty R1s.out fh Zhs.out (by decide), row_ty R2s.out fh Zhs.out (by decide), row_ty R3s.out fh Zhs.out (by decide), D12.out, D13.out, D23.out, ges.out, geh.out, Bh.out⟩
      refine AllReadyH.cons rfl (fun K hK => ?_) AllReadyH.nil
      go_simp
      have hb : Below v12.heap.size v12 (v12.alloc (.cells #[.int .i64 0, .slice none 0 0, .int .u64 0, .int .u64 0, .int .u64 0, .int .u64 0, .slice none 0 0] 28)) := (Below.refl _ _).alloc (Nat.le_refl _) _
      have hz := heap_alloc_new v12 (.cells #[.int .i64 0, .slice none 0 0, .int .u64 0, .int .u64 0, .int .u64 0, .int .u64 0, .slice none 0 0] 28)
      obtain ⟨si, hnm⟩ : ∃ x, v12.heap.size = x := ⟨_, rfl⟩
      have ges := Lib.hid (show w1.heap.size ≤ si from hnm ▸ B_12.out.size)
      have B_15 := Lib.hid (B_12.out.trans (hb.mono B_12.out.size))
      have R1_15 := Lib.hid (row_below R1_12.out hb)
      have R2_15 := Lib.hid (row_below R2_12.out hb)
      have ZH_15 := Lib.hid (hp_below ZH_12.out hb)
      rw [hnm] at hz ⊢
      have ZS_15 := Lib.hid hz
      clear hz hb hnm
      refine hK.out _ _ (by exact ks_of KS0 lg lq B_15.out) (fun hHeld => ?_)
      clear hK K hHeld
      try simp only [Act.put, List.setIfInBounds_toArray, List.set_cons_zero, List.set_cons_succ]
      generalize (v12.alloc (.cells #[.int .i64 0, .slice none 0 0, .int .u64 0, .int .u64 0, .int .u64 0, .int .u64 0, .slice none 0 0] 28)) = v15 at B_15 R1_15 R2_15 ZH_15 ZS_15 ⊢
      refine wpAnyH_ready (rs := [11]) (by kernel_rfl) (by simp) ?_
      refine AllReadyH.cons rfl (fun K hK => ?_) AllReadyH.nil
      go_simp
      go_at_call 41
      refine (clone_src p.A3 p.c3 hp _ (S3.out.below B_15.out)).mono ?_
      rintro e v16 ⟨A3, c3, rfl, hr3, hb⟩
      have D13 := Lib.hid (show ∀ k, blk A1 = some k → blk A3 ≠ some k from fun k hk e => by have a1 := (row_lt R1_15.out k hk).2; have a2 := (row_lt hr3 k e).1; omega)
      have D23 := Lib.hid (show ∀ k, blk A2 = some k → blk A3 ≠ some k from fun k hk e => by have a1 := (row_lt R2_15.out k hk).2; have a2 := (row_lt hr3 k e).1; omega)
      have B_16 := Lib.hid (B_15.out.trans (hb.mono B_15.out.size))
      have R1_16 := Lib.hid (row_below R1_15.out hb)
      have R2_16 := Lib.hid (row_below R2_15.out hb)
      have ZH_16 := Lib.hid (hp_below ZH_15.out hb)
      have ZS_16 := Lib.hid (hp_below ZS_15.out hb)
      have R3_16 := Lib.hid (row_base hr3 B_15.out.size)
      clear hr3 hb
      refine hK.out _ _ (by exact ks_of KS0 lg lq B_16.out) (fun hHeld => ?_)
      clear hK K hHeld
      try simp only [Act.put, List.setIfInBounds_toArray, List.set_cons_zero, List.set_cons_succ]
      refine wpAnyH_ready (rs := [14]) (by kernel_rfl) (by simp) ?_
      refine AllReadyH.cons rfl (fun K hK => ?_) AllReadyH.nil
      have zs0 : v16.cell? ⟨si, 0, none⟩ = some (.int .i64 0) := hp_cell ZS_16.out 0
      have zz0 := hp_frozen ZS_16.out 0
      have zs1 : v16.cell? ⟨si, 1, none⟩ = some (.slice none 0 0) := hp_cell ZS_16.out 1
      have zz1 := hp_frozen ZS_16.out 1
      have zs2 : v16.cell? ⟨si, 2, none⟩ = some (.int .u64 0) := hp_cell ZS_16.out 2
      have zz2 := hp_frozen ZS_16.out 2
      have zs3 : v16.cell? ⟨si, 3, none⟩ = some (.int .u64 0) := hp_cell ZS_16.out 3
      have zz3 := hp_frozen ZS_16.out 3
      have zs4 : v16.cell? ⟨si, 4, none⟩ = some (.int .u64 0) := hp_cell ZS_16.out 4
      have zz4 := hp_frozen ZS_16.out 4
      have zs5 : v16.cell? ⟨si, 5, none⟩ = some (.int .u64 0) := hp_cell ZS_16.out 5
      have zz5 := hp_frozen ZS_16.out 5
      have zs6 : v16.cell? ⟨si, 6, none⟩ = some (.slice none 0 0) := hp_cell ZS_16.out 6
      have zz6 := hp_frozen ZS_16.out 6
      have zl := hp_lt ZS_16.out
      go_simp
      have fr := put7_fr (w := v16) (b := si) (A1 := A1) (c1 := c1) (A2 := A2) (c2 := c2) (s := s)
      have Bs := Lib.hid (below_ne B_16.out fr ges.out)
      have Zs := Lib.hid (put7 (A1 := A1) (c1 := c1) (A2 := A2) (c2 := c2) (s := s) ZS_16.out)
      have R1s := Lib.hid (row_ty R1_16.out fr ZS_16.out (by decide))
      have R2s := Lib.hid (row_ty R2_16.out fr ZS_16.out (by decide))
      have R3s := Lib.hid (row_ty R3_16.out fr ZS_16.out (by decide))
      have Zhs := Lib.hid (fr.hp ZH_16.out (hp_ne ZH_16.out ZS_16.out (by decide)))
      refine hK.out _ _ (by exact ks_of KS0 lg lq Bs.out) (fun hHeld => ?_)
      clear hK K hHeld
      try simp only [Act.put, List.setIfInBounds_toArray, List.set_cons_zero, List.set_cons_succ]
      clear zs0 zs1 zs2 zs3 zs4 zs5 zs6 zz0 zz1 zz2 zz3 zz4 zz5 zz6 zl fr
      generalize (((((((v16.setCell ⟨si, 0, none⟩ (.int .i64 s.pc)).setCell ⟨si, 1, none⟩ (.slice A1 s.stk.length c1)).setCell ⟨si, 2, none⟩ (.int .u64 s.la)).setCell ⟨si, 3, none⟩ (.int .u64 s.lb)).setCell ⟨si, 4, none⟩ (.int .u64 s.lc)).setCell ⟨si, 5, none⟩ (.int .u64 s.ld)).setCell ⟨si, 6, none⟩ (.slice A2 s.out.length c2)) = vs at Bs Zs R1s R2s R3s Zhs ⊢
      refine wpAnyH_ready (rs := [15]) (by kernel_rfl) (by simp) ?_
      refine AllReadyH.cons rfl (fun K hK => ?_) AllReadyH.nil
      have zh0 : vs.cell? ⟨hi, 0, none⟩ = some (.slice none 0 0) := hp_cell Zhs.out 0
      have zh1 := hp_frozen Zhs.out 0
      have zh2 := hp_lt Zhs.out
      go_simp
      have fh : Fr (fun k => k ≠ hi) vs (vs.setCell ⟨hi, 0, none⟩ (.slice A3 hp.length c3)) := Fr.set _ (fun e => e rfl) 0 _
      have Bh := Lib.hid (below_ne Bs.out fh geh.out)
      refine hK.out _ _ (by exact ks_of KS0 lg lq Bh.out) (fun hHeld => ?_)
      clear hK K hHeld
      try simp only [Act.put, List.setIfInBounds_toArray, List.set_cons_zero, List.set_cons_succ]
      refine wpAnyH_done (by kernel_rfl) ?_ _
      exact ⟨rfl, fun k => #[.nilFunc, .nilFunc, .nilFunc, .nilFunc, .nilFunc, .nilFunc, (.pointer (some ⟨g, 0, none⟩)), (.pointer (some ⟨g, 0, none⟩)), (.pointer (some ⟨g, 0, none⟩)), (.pointer (some ⟨g, 1, none⟩)), (.agg #[.int .i64 s.pc, .slice p.A1 s.stk.length p.c1, .int .u64 s.la, .int .u64 s.lb, .int .u64 s.lc, .int .u64 s.ld, .slice p.A2 s.out.length p.c2]), (.agg (stC s A1 c1 A2 c2)), (.pointer (some ⟨g, 0, none⟩)), (.pointer (some ⟨g, 0, none⟩)), (.pointer (some ⟨g, 0, none⟩)), (.pointer (some ⟨g, 8, none⟩)), (.slice p.A3 hp.length p.c3), (.slice A3 hp.length c3)].getD k undef, si, hi, rfl, A1, c1, A2, c2, A3, c3, fh.hp Zs.out (hp_ne Zs.out Zhs.out (by decide)), hp_put1 Zhs.out _, row_ty R1s.out fh Zhs.out (by decide), row_ty R2s.out fh Zhs.out (by decide), row_ty R3s.out fh Zhs.out (by decide), D12.out, D13.out, D23.out, ges.out, geh.out, Bh.out⟩
    refine AllReadyH.cons rfl (fun K hK => ?_) ?_
    · go_simp
      have hb : Below v.heap.size v (v.alloc (.cells #[.int .i64 0, .slice none 0 0, .int .u64 0, .int .u64 0, .int .u64 0, .int .u64 0, .slice none 0 0] 28)) := (Below.refl _ _).alloc (Nat.le_refl _) _
      have hz := heap_alloc_new v (.cells #[.int .i64 0, .slice none 0 0, .int .u64 0, .int .u64 0, .int .u64 0, .int .u64 0, .slice none 0 0] 28)
      obtain ⟨si, hnm⟩ : ∃ x, v.heap.size = x := ⟨_, rfl⟩
      have ges := Lib.hid (show w1.heap.size ≤ si from hnm ▸ Bd.out.size)
      have B_17 := Lib.hid (Bd.out.trans (hb.mono Bd.out.size))
      rw [hnm] at hz ⊢
      have ZS_17 := Lib.hid hz
      clear hz hb hnm
      refine hK.out _ _ (by exact ks_of KS0 lg lq B_17.out) (fun hHeld => ?_)
      clear hK K hHeld
      try simp only [Act.put, List.setIfInBounds_toArray, List.set_cons_zero, List.set_cons_succ]
      generalize (v.alloc (.cells #[.int .i64 0, .slice none 0 0, .int .u64 0, .int .u64 0, .int .u64 0, .int .u64 0, .slice none 0 0] 28)) = v17 at B_17 ZS_17 ⊢
      refine wpAnyH_ready (rs := [5, 13]) (by kernel_rfl) (by simp) ?_
      refine AllReadyH.cons rfl (fun K hK => ?_) ?_
      · go_simp
        go_at_call 28
        refine (copied_sp s p.A1 p.c1 p.A2 p.c2 _ (S1.out.below B_17.out) (S2.out.below B_17.out)).mono ?_
        rintro e v18 ⟨A1, c1, A2, c2, rfl, hr1, hr2, hd, hb⟩
        unfold stV stC
        have B_18 := Lib.hid (B_17.out.trans (hb.mono B_17.out.size))
        have ZS_18 := Lib.hid (hp_below ZS_17.out hb)
        have R1_18 := Lib.hid (row_base hr1 B_17.out.size)
        have R2_18 := Lib.hid (row_base hr2 B_17.out.size)
        have D12 := Lib.hid hd
        clear hr1 hr2 hd hb
        refine hK.out _ _ (by exact ks_of KS0 lg lq B_18.out) (fun hHeld => ?_)
        clear hK K hHeld
        try simp only [Act.put, List.setIfInBounds_toArray, List.set_cons_zero, List.set_cons_succ]
        refine wpAnyH_ready (rs := [11, 13]) (by kernel_rfl) (by simp) ?_
        refine AllReadyH.cons rfl (fun K hK => ?_) ?_
        · go_simp
          go_at_call 41
          refine (clone_src p.A3 p.c3 hp _ (S3.out.below B_18.out)).mono ?_
          rintro e v19 ⟨A3, c3, rfl, hr3, hb⟩
          have D13 := Lib.hid (show ∀ k, blk A1 = some k → blk A3 ≠ some k from fun k hk e => by have a1 := (row_lt R1_18.out k hk).2; have a2 := (row_lt hr3 k e).1; omega)
          have D23 := Lib.hid (show ∀ k, blk A2 = some k → blk A3 ≠ some k from fun k hk e => by have a1 := (row_lt R2_18.out k hk).2; have a2 := (row_lt hr3 k e).1; omega)
          have B_19 := Lib.hid (B_18.out.trans (hb.mono B_18.out.size))
          have ZS_19 := Lib.hid (hp_below ZS_18.out hb)
          have R1_19 := Lib.hid (row_below R1_18.out hb)
          have R2_19 := Lib.hid (row_below R2_18.out hb)
          have R3_19 := Lib.hid (row_base hr3 B_18.out.size)
          clear hr3 hb
          refine hK.out _ _ (by exact ks_of KS0 lg lq B_19.out) (fun hHeld => ?_)
          clear hK K hHeld
          try simp only [Act.put, List.setIfInBounds_toArray, List.set_cons_zero, List.set_cons_succ]
          refine wpAnyH_ready (rs := [13]) (by kernel_rfl) (by simp) ?_
          refine AllReadyH.cons rfl (fun K hK => ?_) AllReadyH.nil
          go_simp
          have hb : Below v19.heap.size v19 (v19.alloc (.cells #[.slice none 0 0] 23)) := (Below.refl _ _).alloc (Nat.le_refl _) _
          have hz := heap_alloc_new v19 (.cells #[.slice none 0 0] 23)
          obtain ⟨hi, hnm⟩ : ∃ x, v19.heap.size = x := ⟨_, rfl⟩
          have geh := Lib.hid (show w1.heap.size ≤ hi from hnm ▸ B_19.out.size)
          have B_20 := Lib.hid (B_19.out.trans (hb.mono B_19.out.size))
          have ZS_20 := Lib.hid (hp_below ZS_19.out hb)
          have R1_20 := Lib.hid (row_below R1_19.out hb)
          have R2_20 := Lib.hid (row_below R2_19.out hb)
          have R3_20 := Lib.hid (row_below R3_19.out hb)
          rw [hnm] at hz ⊢
          have ZH_20 := Lib.hid hz
          clear hz hb hnm
          refine hK.out _ _ (by exact ks_of KS0 lg lq B_20.out) (fun hHeld => ?_)
          clear hK K hHeld
          try simp only [Act.put, List.setIfInBounds_toArray, List.set_cons_zero, List.set_cons_succ]
          generalize (v19.alloc (.cells #[.slice none 0 0] 23)) = v20 at B_20 ZS_20 R1_20 R2_20 R3_20 ZH_20 ⊢
          refine wpAnyH_ready (rs := [14]) (by kernel_rfl) (by simp) ?_
          refine AllReadyH.cons rfl (fun K hK => ?_) AllReadyH.nil
          have zs0 : v20.cell? ⟨si, 0, none⟩ = some (.int .i64 0) := hp_cell ZS_20.out 0
          have zz0 := hp_frozen ZS_20.out 0
          have zs1 : v20.cell? ⟨si, 1, none⟩ = some (.slice none 0 0) := hp_cell ZS_20.out 1
          have zz1 := hp_frozen ZS_20.out 1
          have zs2 : v20.cell? ⟨si, 2, none⟩ = some (.int .u64 0) := hp_cell ZS_20.out 2
          have zz2 := hp_frozen ZS_20.out 2
          have zs3 : v20.cell? ⟨si, 3, none⟩ = some (.int .u64 0) := hp_cell ZS_20.out 3
          have zz3 := hp_frozen ZS_20.out 3
          have zs4 : v20.cell? ⟨si, 4, none⟩ = some (.int .u64 0) := hp_cell ZS_20.out 4
          have zz4 := hp_frozen ZS_20.out 4
          have zs5 : v20.cell? ⟨si, 5, none⟩ = some (.int .u64 0) := hp_cell ZS_20.out 5
          have zz5 := hp_frozen ZS_20.out 5
          have zs6 : v20.cell? ⟨si, 6, none⟩ = some (.slice none 0 0) := hp_cell ZS_20.out 6
          have zz6 := hp_frozen ZS_20.out 6
          have zl := hp_lt ZS_20.out
          go_simp
          have fr := put7_fr (w := v20) (b := si) (A1 := A1) (c1 := c1) (A2 := A2) (c2 := c2) (s := s)
          have Bs := Lib.hid (below_ne B_20.out fr ges.out)
          have Zs := Lib.hid (put7 (A1 := A1) (c1 := c1) (A2 := A2) (c2 := c2) (s := s) ZS_20.out)
          have R1s := Lib.hid (row_ty R1_20.out fr ZS_20.out (by decide))
          have R2s := Lib.hid (row_ty R2_20.out fr ZS_20.out (by decide))
          have R3s := Lib.hid (row_ty R3_20.out fr ZS_20.out (by decide))
          have Zhs := Lib.hid (fr.hp ZH_20.out (hp_ne ZH_20.out ZS_20.out (by decide)))
          refine hK.out _ _ (by exact ks_of KS0 lg lq Bs.out) (fun hHeld => ?_)
          clear hK K hHeld
          try simp only [Act.put, List.setIfInBounds_toArray, List.set_cons_zero, List.set_cons_succ]
          clear zs0 zs1 zs2 zs3 zs4 zs5 zs6 zz0 zz1 zz2 zz3 zz4 zz5 zz6 zl fr
          generalize (((((((v20.setCell ⟨si, 0, none⟩ (.int .i64 s.pc)).setCell ⟨si, 1, none⟩ (.slice A1 s.stk.length c1)).setCell ⟨si, 2, none⟩ (.int .u64 s.la)).setCell ⟨si, 3, none⟩ (.int .u64 s.lb)).setCell ⟨si, 4, none⟩ (.int .u64 s.lc)).setCell ⟨si, 5, none⟩ (.int .u64 s.ld)).setCell ⟨si, 6, none⟩ (.slice A2 s.out.length c2)) = vs at Bs Zs R1s R2s R3s Zhs ⊢
          refine wpAnyH_ready (rs := [15]) (by kernel_rfl) (by simp) ?_
          refine AllReadyH.cons rfl (fun K hK => ?_) AllReadyH.nil
          have zh0 : vs.cell? ⟨hi, 0, none⟩ = some (.slice none 0 0) := hp_cell Zhs.out 0
          have zh1 := hp_frozen Zhs.out 0
          have zh2 := hp_lt Zhs.out
          go_simp
          have fh : Fr (fun k => k ≠ hi) vs (vs.setCell ⟨hi, 0, none⟩ (.slice A3 hp.length c3)) := Fr.set _ (fun e => e rfl) 0 _
          have Bh := Lib.hid (below_ne Bs.out fh geh.out)
          refine hK.out _ _ (by exact ks_of KS0 lg lq Bh.out) (fun hHeld => ?_)
          clear hK K hHeld
          try simp only [Act.put, List.setIfInBounds_toArray, List.set_cons_zero, List.set_cons_succ]
          refine wpAnyH_done (by kernel_rfl) ?_ _
          exact ⟨rfl, fun k => #[.nilFunc, .nilFunc, .nilFunc, .nilFunc, .nilFunc, .nilFunc, (.pointer (some ⟨g, 0, none⟩)), (.pointer (some ⟨g, 0, none⟩)), (.pointer (some ⟨g, 0, none⟩)), (.pointer (some ⟨g, 1, none⟩)), (.agg #[.int .i64 s.pc, .slice p.A1 s.stk.length p.c1, .int .u64 s.la, .int .u64 s.lb, .int .u64 s.lc, .int .u64 s.ld, .slice p.A2 s.out.length p.c2]), (.agg (stC s A1 c1 A2 c2)), (.pointer (some ⟨g, 0, none⟩)), (.pointer (some ⟨g, 0, none⟩)), (.pointer (some ⟨g, 0, none⟩)), (.pointer (some ⟨g, 8, none⟩)), (.slice p.A3 hp.length p.c3), (.slice A3 hp.length c3)].getD k undef, si, hi, rfl, A1, c1, A2, c2, A3, c3, fh.hp Zs.out (hp_ne Zs.out Zhs.out (by decide)), hp_put1 Zhs.out _, row_ty R1s.out fh Zhs.out (by decide), row_ty R2s.out fh Zhs.out (by decide), row_ty R3s.out fh Zhs.out (by decide), D12.out, D13.out, D23.out, ges.out, geh.out, Bh.out⟩
        refine AllReadyH.cons rfl (fun K hK => ?_) AllReadyH.nil
        go_simp
        have hb : Below v18.heap.size v18 (v18.alloc (.cells #[.slice none 0 0] 23)) := (Below.refl _ _).alloc (Nat.le_refl _) _
        have hz := heap_alloc_new v18 (.cells #[.slice none 0 0] 23)
        obtain ⟨hi, hnm⟩ : ∃ x, v18.heap.size = x := ⟨_, rfl⟩
        have geh := Lib.hid (show w1.heap.size ≤ hi from hnm ▸ B_18.out.size)
        have B_21 := Lib.hid (B_18.out.trans (hb.mono B_18.out.size))
        have ZS_21 := Lib.hid (hp_below ZS_18.out hb)
        have R1_21 := Lib.hid (row_below R1_18.out hb)
        have R2_21 := Lib.hid (row_below R2_18.out hb)
        rw [hnm] at hz ⊢
        have ZH_21 := Lib.hid hz
        clear hz hb hnm
        refine hK.out _ _ (by exact ks_of KS0 lg lq B_21.out) (fun hHeld => ?_)
        clear hK K hHeld
        try simp only [Act.put, List.setIfInBounds_toArray, List.set_cons_zero, List.set_cons_succ]
        generalize (v18.alloc (.cells #[.slice none 0 0] 23)) = v21 at B_21 ZS_21 R1_21 R2_21 ZH_21 ⊢
        refine wpAnyH_ready (rs := [11]) (by kernel_rfl) (by simp) ?_
        refine AllReadyH.cons rfl (fun K hK => ?_) AllReadyH.nil
        go_simp
        go_at_call 41
        refine (clone_src p.A3 p.c3 hp _ (S3.out.below B_21.out)).mono ?_
        rintro e v22 ⟨A3, c3, rfl, hr3, hb⟩
        have D13 := Lib.hid (show ∀ k, blk A1 = some k → blk A3 ≠ some k from fun k hk e => by have a1 := (row_lt R1_21.out k hk).2; have a2 := (row_lt hr3 k e).1; omega)
        have D23 := Lib.hid (show ∀ k, blk A2 = some k → blk A3 ≠ some k from fun k hk e => by have a1 := (row_lt R2_21.out k hk).2; have a2 := (row_lt hr3 k e).1; omega)
        have B_22 := Lib.hid (B_21.out.trans (hb.mono B_21.out.size))
        have ZS_22 := Lib.hid (hp_below ZS_21.out hb)
        have R1_22 := Lib.hid (row_below R1_21.out hb)
        have R2_22 := Lib.hid (row_below R2_21.out hb)
        have ZH_22 := Lib.hid (hp_below ZH_21.out hb)
        have R3_22 := Lib.hid (row_base hr3 B_21.out.size)
        clear hr3 hb
        refine hK.out _ _ (by exact ks_of KS0 lg lq B_22.out) (fun hHeld => ?_)
        clear hK K hHeld
        try simp only [Act.put, List.setIfInBounds_toArray, List.set_cons_zero, List.set_cons_succ]
        refine wpAnyH_ready (rs := [14]) (by kernel_rfl) (by simp) ?_
        refine AllReadyH.cons rfl (fun K hK => ?_) AllReadyH.nil
        have zs0 : v22.cell? ⟨si, 0, none⟩ = some (.int .i64 0) := hp_cell ZS_22.out 0
        have zz0 := hp_frozen ZS_22.out 0
        have zs1 : v22.cell? ⟨si, 1, none⟩ = some (.slice none 0 0) := hp_cell ZS_22.out 1
        have zz1 := hp_frozen ZS_22.out 1
        have zs2 : v22.cell? ⟨si, 2, none⟩ = some (.int .u64 0) := hp_cell ZS_22.out 2
        have zz2 := hp_frozen ZS_22.out 2
        have zs3 : v22.cell? ⟨si, 3, none⟩ = some (.int .u64 0) := hp_cell ZS_22.out 3
        have zz3 := hp_frozen ZS_22.out 3
        have zs4 : v22.cell? ⟨si, 4, none⟩ = some (.int .u64 0) := hp_cell ZS_22.out 4
        have zz4 := hp_frozen ZS_22.out 4
        have zs5 : v22.cell? ⟨si, 5, none⟩ = some (.int .u64 0) := hp_cell ZS_22.out 5
        have zz5 := hp_frozen ZS_22.out 5
        have zs6 : v22.cell? ⟨si, 6, none⟩ = some (.slice none 0 0) := hp_cell ZS_22.out 6
        have zz6 := hp_frozen ZS_22.out 6
        have zl := hp_lt ZS_22.out
        go_simp
        have fr := put7_fr (w := v22) (b := si) (A1 := A1) (c1 := c1) (A2 := A2) (c2 := c2) (s := s)
        have Bs := Lib.hid (below_ne B_22.out fr ges.out)
        have Zs := Lib.hid (put7 (A1 := A1) (c1 := c1) (A2 := A2) (c2 := c2) (s := s) ZS_22.out)
        have R1s := Lib.hid (row_ty R1_22.out fr ZS_22.out (by decide))
        have R2s := Lib.hid (row_ty R2_22.out fr ZS_22.out (by decide))
        have R3s := Lib.hid (row_ty R3_22.out fr ZS_22.out (by decide))
        have Zhs := Lib.hid (fr.hp ZH_22.out (hp_ne ZH_22.out ZS_22.out (by decide)))
        refine hK.out _ _ (by exact ks_of KS0 lg lq Bs.out) (fun hHeld => ?_)
        clear hK K hHeld
        try simp only [Act.put, List.setIfInBounds_toArray, List.set_cons_zero, List.set_cons_succ]
        clear zs0 zs1 zs2 zs3 zs4 zs5 zs6 zz0 zz1 zz2 zz3 zz4 zz5 zz6 zl fr
        generalize (((((((v22.setCell ⟨si, 0, none⟩ (.int .i64 s.pc)).setCell ⟨si, 1, none⟩ (.slice A1 s.stk.length c1)).setCell ⟨si, 2, none⟩ (.int .u64 s.la)).setCell ⟨si, 3, none⟩ (.int .u64 s.lb)).setCell ⟨si, 4, none⟩ (.int .u64 s.lc)).setCell ⟨si, 5, none⟩ (.int .u64 s.ld)).setCell ⟨si, 6, none⟩ (.slice A2 s.out.length c2)) = vs at Bs Zs R1s R2s R3s Zhs ⊢
        refine wpAnyH_ready (rs := [15]) (by kernel_rfl) (by simp) ?_
        refine AllReadyH.cons rfl (fun K hK => ?_) AllReadyH.nil
        have zh0 : vs.cell? ⟨hi, 0, none⟩ = some (.slice none 0 0) := hp_cell Zhs.out 0
        have zh1 := hp_frozen Zhs.out 0
        have zh2 := hp_lt Zhs.out
        go_simp
        have fh : Fr (fun k => k ≠ hi) vs (vs.setCell ⟨hi, 0, none⟩ (.slice A3 hp.length c3)) := Fr.set _ (fun e => e rfl) 0 _
        have Bh := Lib.hid (below_ne Bs.out fh geh.out)
        refine hK.out _ _ (by exact ks_of KS0 lg lq Bh.out) (fun hHeld => ?_)
        clear hK K hHeld
        try simp only [Act.put, List.setIfInBounds_toArray, List.set_cons_zero, List.set_cons_succ]
        refine wpAnyH_done (by kernel_rfl) ?_ _
        exact ⟨rfl, fun k => #[.nilFunc, .nilFunc, .nilFunc, .nilFunc, .nilFunc, .nilFunc, (.pointer (some ⟨g, 0, none⟩)), (.pointer (some ⟨g, 0, none⟩)), (.pointer (some ⟨g, 0, none⟩)), (.pointer (some ⟨g, 1, none⟩)), (.agg #[.int .i64 s.pc, .slice p.A1 s.stk.length p.c1, .int .u64 s.la, .int .u64 s.lb, .int .u64 s.lc, .int .u64 s.ld, .slice p.A2 s.out.length p.c2]), (.agg (stC s A1 c1 A2 c2)), (.pointer (some ⟨g, 0, none⟩)), (.pointer (some ⟨g, 0, none⟩)), (.pointer (some ⟨g, 0, none⟩)), (.pointer (some ⟨g, 8, none⟩)), (.slice p.A3 hp.length p.c3), (.slice A3 hp.length c3)].getD k undef, si, hi, rfl, A1, c1, A2, c2, A3, c3, fh.hp Zs.out (hp_ne Zs.out Zhs.out (by decide)), hp_put1 Zhs.out _, row_ty R1s.out fh Zhs.out (by decide), row_ty R2s.out fh Zhs.out (by decide), row_ty R3s.out fh Zhs.out (by decide), D12.out, D13.out, D23.out, ges.out, geh.out, Bh.out⟩
      refine AllReadyH.cons rfl (fun K hK => ?_) AllReadyH.nil
      go_simp
      have hb : Below v17.heap.size v17 (v17.alloc (.cells #[.slice none 0 0] 23)) := (Below.refl _ _).alloc (Nat.le_refl _) _
      have hz := heap_alloc_new v17 (.cells #[.slice none 0 0] 23)
      obtain ⟨hi, hnm⟩ : ∃ x, v17.heap.size = x := ⟨_, rfl⟩
      have geh := Lib.hid (show w1.heap.size ≤ hi from hnm ▸ B_17.out.size)
      have B_23 := Lib.hid (B_17.out.trans (hb.mono B_17.out.size))
      have ZS_23 := Lib.hid (hp_below ZS_17.out hb)
      rw [hnm] at hz ⊢
      have ZH_23 := Lib.hid hz
      clear hz hb hnm
      refine hK.out _ _ (by exact ks_of KS0 lg lq B_23.out) (fun hHeld => ?_)
      clear hK K hHeld
      try simp only [Act.put, List.setIfInBounds_toArray, List.set_cons_zero, List.set_cons_succ]
      generalize (v17.alloc (.cells #[.slice none 0 0] 23)) = v23 at B_23 ZS_23 ZH_23 ⊢
      refine wpAnyH_ready (rs := [5]) (by kernel_rfl) (by simp) ?_
      refine AllReadyH.cons rfl (fun K hK => ?_) AllReadyH.nil
      go_simp
      go_at_call 28
      refine (copied_sp s p.A1 p.c1 p.A2 p.c2 _ (S1.out.below B_23.out) (S2.out.below B_23.out)).mono ?_
      rintro e v24 ⟨A1, c1, A2, c2, rfl, hr1, hr2, hd, hb⟩
      unfold stV stC
      have B_24 := Lib.hid (B_23.out.trans (hb.mono B_23.out.size))
      have ZS_24 := Lib.hid (hp_below ZS_23.out hb)
      have ZH_24 := Lib.hid (hp_below ZH_23.out hb)
      have R1_24 := Lib.hid (row_base hr1 B_23.out.size)
      have R2_24 := Lib.hid (row_base hr2 B_23.out.size)
      have D12 := Lib.hid hd
      clear hr1 hr2 hd hb
      refine hK.out _ _ (by exact ks_of KS0 lg lq B_24.out) (fun hHeld => ?_)
      clear hK K hHeld
      try simp only [Act.put, List.setIfInBounds_toArray, List.set_cons_zero, List.set_cons_succ]
      refine wpAnyH_ready (rs := [11]) (by kernel_rfl) (by simp) ?_
      refine AllReadyH.cons rfl (fun K hK => ?_) AllReadyH.nil
      go_simp
      go_at_call 41
      refine (clone_src p.A3 p.c3 hp _ (S3.out.below B_24.out)).mono ?_
      rintro e v25 ⟨A3, c3, rfl, hr3, hb⟩
      have D13 := Lib.hid (show ∀ k, blk A1 = some k → blk A3 ≠ some k from fun k hk e => by have a1 := (row_lt R1_24.out k hk).2; have a2 := (row_lt hr3 k e).1; omega)
      have D23 := Lib.hid (show ∀ k, blk A2 = some k → blk A3 ≠ some k from fun k hk e => by have a1 := (row_lt R2_24.out k hk).2; have a2 := (row_lt hr3 k e).1; omega)
      have B_25 := Lib.hid (B_24.out.trans (hb.mono B_24.out.size))
      have ZS_25 := Lib.hid (hp_below ZS_24.out hb)
      have ZH_25 := Lib.hid (hp_below ZH_24.out hb)
      have R1_25 := Lib.hid (row_below R1_24.out hb)
      have R2_25 := Lib.hid (row_below R2_24.out hb)
      have R3_25 := Lib.hid (row_base hr3 B_24.out.size)
      clear hr3 hb
      refine hK.out _ _ (by exact ks_of KS0 lg lq B_25.out) (fun hHeld => ?_)
      clear hK K hHeld
      try simp only [Act.put, List.setIfInBounds_toArray, List.set_cons_zero, List.set_cons_succ]
      refine wpAnyH_ready (rs := [14]) (by kernel_rfl) (by simp) ?_
      refine AllReadyH.cons rfl (fun K hK => ?_) AllReadyH.nil
      have zs0 : v25.cell? ⟨si, 0, none⟩ = some (.int .i64 0) := hp_cell ZS_25.out 0
      have zz0 := hp_frozen ZS_25.out 0
      have zs1 : v25.cell? ⟨si, 1, none⟩ = some (.slice none 0 0) := hp_cell ZS_25.out 1
      have zz1 := hp_frozen ZS_25.out 1
      have zs2 : v25.cell? ⟨si, 2, none⟩ = some (.int .u64 0) := hp_cell ZS_25.out 2
      have zz2 := hp_frozen ZS_25.out 2
      have zs3 : v25.cell? ⟨si, 3, none⟩ = some (.int .u64 0) := hp_cell ZS_25.out 3
      have zz3 := hp_frozen ZS_25.out 3
      have zs4 : v25.cell? ⟨si, 4, none⟩ = some (.int .u64 0) := hp_cell ZS_25.out 4
      have zz4 := hp_frozen ZS_25.out 4
      have zs5 : v25.cell? ⟨si, 5, none⟩ = some (.int .u64 0) := hp_cell ZS_25.out 5
      have zz5 := hp_frozen ZS_25.out 5
      have zs6 : v25.cell? ⟨si, 6, none⟩ = some (.slice none 0 0) := hp_cell ZS_25.out 6
      have zz6 := hp_frozen ZS_25.out 6
      have zl := hp_lt ZS_25.out
      go_simp
      have fr := put7_fr (w := v25) (b := si) (A1 := A1) (c1 := c1) (A2 := A2) (c2 := c2) (s := s)
      have Bs := Lib.hid (below_ne B_25.out fr ges.out)
      have Zs := Lib.hid (put7 (A1 := A1) (c1 := c1) (A2 := A2) (c2 := c2) (s := s) ZS_25.out)
      have R1s := Lib.hid (row_ty R1_25.out fr ZS_25.out (by decide))
      have R2s := Lib.hid (row_ty R2_25.out fr ZS_25.out (by decide))
      have R3s := Lib.hid (row_ty R3_25.out fr ZS_25.out (by decide))
      have Zhs := Lib.hid (fr.hp ZH_25.out (hp_ne ZH_25.out ZS_25.out (by decide)))
      refine hK.out _ _ (by exact ks_of KS0 lg lq Bs.out) (fun hHeld => ?_)
      clear hK K hHeld
      try simp only [Act.put, List.setIfInBounds_toArray, List.set_cons_zero, List.set_cons_succ]
      clear zs0 zs1 zs2 zs3 zs4 zs5 zs6 zz0 zz1 zz2 zz3 zz4 zz5 zz6 zl fr
      generalize (((((((v25.setCell ⟨si, 0, none⟩ (.int .i64 s.pc)).setCell ⟨si, 1, none⟩ (.slice A1 s.stk.length c1)).setCell ⟨si, 2, none⟩ (.int .u64 s.la)).setCell ⟨si, 3, none⟩ (.int .u64 s.lb)).setCell ⟨si, 4, none⟩ (.int .u64 s.lc)).setCell ⟨si, 5, none⟩ (.int .u64 s.ld)).setCell ⟨si, 6, none⟩ (.slice A2 s.out.length c2)) = vs at Bs Zs R1s R2s R3s Zhs ⊢
      refine wpAnyH_ready (rs := [15]) (by kernel_rfl) (by simp) ?_
      refine AllReadyH.cons rfl (fun K hK => ?_) AllReadyH.nil
      have zh0 : vs.cell? ⟨hi, 0, none⟩ = some (.slice none 0 0) := hp_cell Zhs.out 0
      have zh1 := hp_frozen Zhs.out 0
      have zh2 := hp_lt Zhs.out
      go_simp
      have fh : Fr (fun k => k ≠ hi) vs (vs.setCell ⟨hi, 0, none⟩ (.slice A3 hp.length c3)) := Fr.set _ (fun e => e rfl) 0 _
      have Bh := Lib.hid (below_ne Bs.out fh geh.out)
      refine hK.out _ _ (by exact ks_of KS0 lg lq Bh.out) (fun hHeld => ?_)
      clear hK K hHeld
      try simp only [Act.put, List.setIfInBounds_toArray, List.set_cons_zero, List.set_cons_succ]
      refine wpAnyH_done (by kernel_rfl) ?_ _
      exact ⟨rfl, fun k => #[.nilFunc, .nilFunc, .nilFunc, .nilFunc, .nilFunc, .nilFunc, (.pointer (some ⟨g, 0, none⟩)), (.pointer (some ⟨g, 0, none⟩)), (.pointer (some ⟨g, 0, none⟩)), (.pointer (some ⟨g, 1, none⟩)), (.agg #[.int .i64 s.pc, .slice p.A1 s.stk.length p.c1, .int .u64 s.la, .int .u64 s.lb, .int .u64 s.lc, .int .u64 s.ld, .slice p.A2 s.out.length p.c2]), (.agg (stC s A1 c1 A2 c2)), (.pointer (some ⟨g, 0, none⟩)), (.pointer (some ⟨g, 0, none⟩)), (.pointer (some ⟨g, 0, none⟩)), (.pointer (some ⟨g, 8, none⟩)), (.slice p.A3 hp.length p.c3), (.slice A3 hp.length c3)].getD k undef, si, hi, rfl, A1, c1, A2, c2, A3, c3, fh.hp Zs.out (hp_ne Zs.out Zhs.out (by decide)), hp_put1 Zhs.out _, row_ty R1s.out fh Zhs.out (by decide), row_ty R2s.out fh Zhs.out (by decide), row_ty R3s.out fh Zhs.out (by decide), D12.out, D13.out, D23.out, ges.out, geh.out, Bh.out⟩
    refine AllReadyH.cons rfl (fun K hK => ?_) AllReadyH.nil
    go_simp
    have hb : Below v.heap.size v (v.alloc (.cells #[.slice none 0 0] 23)) := (Below.refl _ _).alloc (Nat.le_refl _) _
    have hz := heap_alloc_new v (.cells #[.slice none 0 0] 23)
    obtain ⟨hi, hnm⟩ : ∃ x, v.heap.size = x := ⟨_, rfl⟩
    have geh := Lib.hid (show w1.heap.size ≤ hi from hnm ▸ Bd.out.size)
    have B_26 := Lib.hid (Bd.out.trans (hb.mono Bd.out.size))
    rw [hnm] at hz ⊢
    have ZH_26 := Lib.hid hz
    clear hz hb hnm
    refine hK.out _ _ (by exact ks_of KS0 lg lq B_26.out) (fun hHeld => ?_)
    clear hK K hHeld
    try simp only [Act.put, List.setIfInBounds_toArray, List.set_cons_zero, List.set_cons_succ]
    generalize (v.alloc (.cells #[.slice none 0 0] 23)) = v26 at B_26 ZH_26 ⊢
    refine wpAnyH_ready (rs := [5, 12]) (by kernel_rfl) (by simp) ?_
    refine AllReadyH.cons rfl (fun K hK => ?_) ?_
    · go_simp
      go_at_call 28
      refine (copied_sp s p.A1 p.c1 p.A2 p.c2 _ (S1.out.below B_26.out) (S2.out.below B_26.out)).mono ?_
      rintro e v27 ⟨A1, c1, A2, c2, rfl, hr1, hr2, hd, hb⟩
      unfold stV stC
      have B_27 := Lib.hid (B_26.out.trans (hb.mono B_26.out.size))
      have ZH_27 := Lib.hid (hp_below ZH_26.out hb)
      have R1_27 := Lib.hid (row_base hr1 B_26.out.size)
      have R2_27 := Lib.hid (row_base hr2 B_26.out.size)
      have D12 := Lib.hid hd
      clear hr1 hr2 hd hb
      refine hK.out _ _ (by exact ks_of KS0 lg lq B_27.out) (fun hHeld => ?_)
      clear hK K hHeld
      try simp only [Act.put, List.setIfInBounds_toArray, List.set_cons_zero, List.set_cons_succ]
      refine wpAnyH_ready (rs := [11, 12]) (by kernel_rfl) (by simp) ?_
      refine AllReadyH.cons rfl (fun K hK => ?_) ?_
      · go_simp
        go_at_call 41
        refine (clone_src p.A3 p.c3 hp _ (S3.out.below B_27.out)).mono ?_
        rintro e v28 ⟨A3, c3, rfl, hr3, hb⟩
        have D13 := Lib.hid (show ∀ k, blk A1 = some k → blk A3 ≠ some k from fun k hk e => by have a1 := (row_lt R1_27.out k hk).2; have a2 := (row_lt hr3 k e).1; omega)
        have D23 := Lib.hid (show ∀ k, blk A2 = some k → blk A3 ≠ some k from fun k hk e => by have a1 := (row_lt R2_27.out k hk).2; have a2 := (row_lt hr3 k e).1; omega)
        have B_28 := Lib.hid (B_27.out.trans (hb.mono B_27.out.size))
        have ZH_28 := Lib.hid (hp_below ZH_27.out hb)
        have R1_28 := Lib.hid (row_below R1_27.out hb)
        have R2_28 := Lib.hid (row_below R2_27.out hb)
        have R3_28 := Lib.hid (row_base hr3 B_27.out.size)
        clear hr3 hb
        refine hK.out _ _ (by exact ks_of KS0 lg lq B_28.out) (fun hHeld => ?_)
        clear hK K hHeld
        try simp only [Act.put, List.setIfInBounds_toArray, List.set_cons_zero, List.set_cons_succ]
        refine wpAnyH_ready (rs := [12]) (by kernel_rfl) (by simp) ?_
        refine AllReadyH.cons rfl (fun K hK => ?_) AllReadyH.nil
        go_simp
        have hb : Below v28.heap.size v28 (v28.alloc (.cells #[.int .i64 0, .slice none 0 0, .int .u64 0, .int .u64 0, .int .u64 0, .int .u64 0, .slice none 0 0] 28)) := (Below.refl _ _).alloc (Nat.le_refl _) _
        have hz := heap_alloc_new v28 (.cells #[.int .i64 0, .slice none 0 0, .int .u64 0, .int .u64 0, .int .u64 0, .int .u64 0, .slice none 0 0] 28)
        obtain ⟨si, hnm⟩ : ∃ x, v28.heap.size = x := ⟨_, rfl⟩
        have ges := Lib.hid (show w1.heap.size ≤ si from hnm ▸ B_28.out.size)
        have B_29 := Lib.hid (B_28.out.trans (hb.mono B_28.out.size))
        have ZH_29 := Lib.hid (hp_below ZH_28.out hb)
        have R1_29 := Lib.hid (row_below R1_28.out hb)
        have R2_29 := Lib.hid (row_below R2_28.out hb)
        have R3_29 := Lib.hid (row_below R3_28.out hb)
        rw [hnm] at hz ⊢
        have ZS_29 := Lib.hid hz
        clear hz hb hnm
        refine hK.out _ _ (by exact ks_of KS0 lg lq B_29.out) (fun hHeld => ?_)
        clear hK K hHeld
        try simp only [Act.put, List.setIfInBounds_toArray, List.set_cons_zero, List.set_cons_succ]
        generalize (v28.alloc (.cells #[.int .i64 0, .slice none 0 0, .int .u64 0, .int .u64 0, .int .u64 0, .int .u64 0, .slice none 0 0] 28)) = v29 at B_29 ZH_29 R1_29 R2_29 R3_29 ZS_29 ⊢
        refine wpAnyH_ready (rs := [14]) (by kernel_rfl) (by simp) ?_
        refine AllReadyH.cons rfl (fun K hK => ?_) AllReadyH.nil
        have zs0 : v29.cell? ⟨si, 0, none⟩ = some (.int .i64 0) := hp_cell ZS_29.out 0
        have zz0 := hp_frozen ZS_29.out 0
        have zs1 : v29.cell? ⟨si, 1, none⟩ = some (.slice none 0 0) := hp_cell ZS_29.out 1
        have zz1 := hp_frozen ZS_29.out 1
        have zs2 : v29.cell? ⟨si, 2, none⟩ = some (.int .u64 0) := hp_cell ZS_29.out 2
        have zz2 := hp_frozen ZS_29.out 2
        have zs3 : v29.cell? ⟨si, 3, none⟩ = some (.int .u64 0) := hp_cell ZS_29.out 3
        have zz3 := hp_frozen ZS_29.out 3
        have zs4 : v29.cell? ⟨si, 4, none⟩ = some (.int .u64 0) := hp_cell ZS_29.out 4
        have zz4 := hp_frozen ZS_29.out 4
        have zs5 : v29.cell? ⟨si, 5, none⟩ = some (.int .u64 0) := hp_cell ZS_29.out 5
        have zz5 := hp_frozen ZS_29.out 5
        have zs6 : v29.cell? ⟨si, 6, none⟩ = some (.slice none 0 0) := hp_cell ZS_29.out 6
        have zz6 := hp_frozen ZS_29.out 6
        have zl := hp_lt ZS_29.out
        go_simp
        have fr := put7_fr (w := v29) (b := si) (A1 := A1) (c1 := c1) (A2 := A2) (c2 := c2) (s := s)
        have Bs := Lib.hid (below_ne B_29.out fr ges.out)
        have Zs := Lib.hid (put7 (A1 := A1) (c1 := c1) (A2 := A2) (c2 := c2) (s := s) ZS_29.out)
        have R1s := Lib.hid (row_ty R1_29.out fr ZS_29.out (by decide))
        have R2s := Lib.hid (row_ty R2_29.out fr ZS_29.out (by decide))
        have R3s := Lib.hid (row_ty R3_29.out fr ZS_29.out (by decide))
        have Zhs := Lib.hid (fr.hp ZH_29.out (hp_ne ZH_29.out ZS_29.out (by decide)))
        refine hK.out _ _ (by exact ks_of KS0 lg lq Bs.out) (fun hHeld => ?_)
        clear hK K hHeld
        try simp only [Act.put, List.setIfInBounds_toArray, List.set_cons_zero, List.set_cons_succ]
        clear zs0 zs1 zs2 zs3 zs4 zs5 zs6 zz0 zz1 zz2 zz3 zz4 zz5 zz6 zl fr
        generalize (((((((v29.setCell ⟨si, 0, none⟩ (.int .i64 s.pc)).setCell ⟨si, 1, none⟩ (.slice A1 s.stk.length c1)).setCell ⟨si, 2, none⟩ (.int .u64 s.la)).setCell ⟨si, 3, none⟩ (.int .u64 s.lb)).setCell ⟨si, 4, none⟩ (.int .u64 s.lc)).setCell ⟨si, 5, none⟩ (.int .u64 s.ld)).setCell ⟨si, 6, none⟩ (.slice A2 s.out.length c2)) = vs at Bs Zs R1s R2s R3s Zhs ⊢
        refine wpAnyH_ready (rs := [15]) (by kernel_rfl) (by simp) ?_
        refine AllReadyH.cons rfl (fun K hK => ?_) AllReadyH.nil
        have zh0 : vs.cell? ⟨hi, 0, none⟩ = some (.slice none 0 0) := hp_cell Zhs.out 0
        have zh1 := hp_frozen Zhs.out 0
        have zh2 := hp_lt Zhs.out
        go_simp
        have fh : Fr (fun k => k ≠ hi) vs (vs.setCell ⟨hi, 0, none⟩ (.slice A3 hp.length c3)) := Fr.set _ (fun e => e rfl) 0 _
        have Bh := Lib.hid (below_ne Bs.out fh geh.out)
        refine hK.out _ _ (by exact ks_of KS0 lg lq Bh.out) (fun hHeld => ?_)
        clear hK K hHeld
        try simp only [Act.put, List.setIfInBounds_toArray, List.set_cons_zero, List.set_cons_succ]
        refine wpAnyH_done (by kernel_rfl) ?_ _
        exact ⟨rfl, fun k => #[.nilFunc, .nilFunc, .nilFunc, .nilFunc, .nilFunc, .nilFunc, (.pointer (some ⟨g, 0, none⟩)), (.pointer (some ⟨g, 0, none⟩)), (.pointer (some ⟨g, 0, none⟩)), (.pointer (some ⟨g, 1, none⟩)), (.agg #[.int .i64 s.pc, .slice p.A1 s.stk.length p.c1, .int .u64 s.la, .int .u64 s.lb, .int .u64 s.lc, .int .u64 s.ld, .slice p.A2 s.out.length p.c2]), (.agg (stC s A1 c1 A2 c2)), (.pointer (some ⟨g, 0, none⟩)), (.pointer (some ⟨g, 0, none⟩)), (.pointer (some ⟨g, 0, none⟩)), (.pointer (some ⟨g, 8, none⟩)), (.slice p.A3 hp.length p.c3), (.slice A3 hp.length c3)].getD k undef, si, hi, rfl, A1, c1, A2, c2, A3, c3, fh.hp Zs.out (hp_ne Zs.out Zhs.out (by decide)), hp_put1 Zhs.out _, row_ty R1s.out fh Zhs.out (by decide), row_ty R2s.out fh Zhs.out (by decide), row_ty R3s.out fh Zhs.out (by decide), D12.out, D13.out, D23.out, ges.out, geh.out, Bh.out⟩
      refine AllReadyH.cons rfl (fun K hK => ?_) AllReadyH.nil
      go_simp
      have hb : Below v27.heap.size v27 (v27.alloc (.cells #[.int .i64 0, .slice none 0 0, .int .u64 0, .int .u64 0, .int .u64 0, .int .u64 0, .slice none 0 0] 28)) := (Below.refl _ _).alloc (Nat.le_refl _) _
      have hz := heap_alloc_new v27 (.cells #[.int .i64 0, .slice none 0 0, .int .u64 0, .int .u64 0, .int .u64 0, .int .u64 0, .slice none 0 0] 28)
      obtain ⟨si, hnm⟩ : ∃ x, v27.heap.size = x := ⟨_, rfl⟩
      have ges := Lib.hid (show w1.heap.size ≤ si from hnm ▸ B_27.out.size)
      have B_30 := Lib.hid (B_27.out.trans (hb.mono B_27.out.size))
      have ZH_30 := Lib.hid (hp_below ZH_27.out hb)
      have R1_30 := Lib.hid (row_below R1_27.out hb)
      have R2_30 := Lib.hid (row_below R2_27.out hb)
      rw [hnm] at hz ⊢
      have ZS_30 := Lib.hid hz
      clear hz hb hnm
      refine hK.out _ _ (by exact ks_of KS0 lg lq B_30.out) (fun hHeld => ?_)
      clear hK K hHeld
      try simp only [Act.put, List.setIfInBounds_toArray, List.set_cons_zero, List.set_cons_succ]
      generalize (v27.alloc (.cells #[.int .i64 0, .slice none 0 0, .int .u64 0, .int .u64 0, .int .u64 0, .int .u64 0, .slice none 0 0] 28)) = v30 at B_30 ZH_30 R1_30 R2_30 ZS_30 ⊢
      refine wpAnyH_ready (rs := [11]) (by kernel_rfl) (by simp) ?_
      refine AllReadyH.cons rfl (fun K hK => ?_) AllReadyH.nil
      go_simp
      go_at_call 41
      refine (clone_src p.A3 p.c3 hp _ (S3.out.below B_30.out)).mono ?_
      rintro e v31 ⟨A3, c3, rfl, hr3, hb⟩
      have D13 := Lib.hid (show ∀ k, blk A1 = some k → blk A3 ≠ some k from fun k hk e => by have a1 := (row_lt R1_30.out k hk).2; have a2 := (row_lt hr3 k e).1; omega)
      have D23 := Lib.hid (show ∀ k, blk A2 = some k → blk A3 ≠ some k from fun k hk e => by have a1 := (row_lt R2_30.out k hk).2; have a2 := (row_lt hr3 k e).1; omega)
      have B_31 := Lib.hid (B_30.out.trans (hb.mono B_30.out.size))
      have ZH_31 := Lib.hid (hp_below ZH_30.out hb)
      have R1_31 := Lib.hid (row_below R1_30.out hb)
      have R2_31 := Lib.hid (row_below R2_30.out hb)
      have ZS_31 := Lib.hid (hp_below ZS_30.out hb)
      have R3_31 := Lib.hid (row_base hr3 B_30.out.size)
      clear hr3 hb
      refine hK.out _ _ (by exact ks_of KS0 lg lq B_31.out) (fun hHeld => ?_)
      clear hK K hHeld
      try simp only [Act.put, List.setIfInBounds_toArray, List.set_cons_zero, List.set_cons_succ]
      refine wpAnyH_ready (rs := [14]) (by kernel_rfl) (by simp) ?_
      refine AllReadyH.cons rfl (fun K hK => ?_) AllReadyH.nil
      have zs0 : v31.cell? ⟨si, 0, none⟩ = some (.int .i64 0) := hp_cell ZS_31.out 0
      have zz0 := hp_frozen ZS_31.out 0
      have zs1 : v31.cell? ⟨si, 1, none⟩ = some (.slice none 0 0) := hp_cell ZS_31.out 1
      have zz1 := hp_frozen ZS_31.out 1
      have zs2 : v31.cell? ⟨si, 2, none⟩ = some (.int .u64 0) := hp_cell ZS_31.out 2
      have zz2 := hp_frozen ZS_31.out 2
      have zs3 : v31.cell? ⟨si, 3, none⟩ = some (.int .u64 0) := hp_cell ZS_31.out 3
      have zz3 := hp_frozen ZS_31.out 3
      have zs4 : v31.cell? ⟨si, 4, none⟩ = some (.int .u64 0) := hp_cell ZS_31.out 4
      have zz4 := hp_frozen ZS_31.out 4
      have zs5 : v31.cell? ⟨si, 5, none⟩ = some (.int .u64 0) := hp_cell ZS_31.out 5
      have zz5 := hp_frozen ZS_31.out 5
      have zs6 : v31.cell? ⟨si, 6, none⟩ = some (.slice none 0 0) := hp_cell ZS_31.out 6
      have zz6 := hp_frozen ZS_31.out 6
      have zl := hp_lt ZS_31.out
      go_simp
      have fr := put7_fr (w := v31) (b := si) (A1 := A1) (c1 := c1) (A2 := A2) (c2 := c2) (s := s)
      have Bs := Lib.hid (below_ne B_31.out fr ges.out)
      have Zs := Lib.hid (put7 (A1 := A1) (c1 := c1) (A2 := A2) (c2 := c2) (s := s) ZS_31.out)
      have R1s := Lib.hid (row_ty R1_31.out fr ZS_31.out (by decide))
      have R2s := Lib.hid (row_ty R2_31.out fr ZS_31.out (by decide))
      have R3s := Lib.hid (row_ty R3_31.out fr ZS_31.out (by decide))
      have Zhs := Lib.hid (fr.hp ZH_31.out (hp_ne ZH_31.out ZS_31.out (by decide)))
      refine hK.out _ _ (by exact ks_of KS0 lg lq Bs.out) (fun hHeld => ?_)
      clear hK K hHeld
      try simp only [Act.put, List.setIfInBounds_toArray, List.set_cons_zero, List.set_cons_succ]
      clear zs0 zs1 zs2 zs3 zs4 zs5 zs6 zz0 zz1 zz2 zz3 zz4 zz5 zz6 zl fr
      generalize (((((((v31.setCell ⟨si, 0, none⟩ (.int .i64 s.pc)).setCell ⟨si, 1, none⟩ (.slice A1 s.stk.length c1)).setCell ⟨si, 2, none⟩ (.int .u64 s.la)).setCell ⟨si, 3, none⟩ (.int .u64 s.lb)).setCell ⟨si, 4, none⟩ (.int .u64 s.lc)).setCell ⟨si, 5, none⟩ (.int .u64 s.ld)).setCell ⟨si, 6, none⟩ (.slice A2 s.out.length c2)) = vs at Bs Zs R1s R2s R3s Zhs ⊢
      refine wpAnyH_ready (rs := [15]) (by kernel_rfl) (by simp) ?_
      refine AllReadyH.cons rfl (fun K hK => ?_) AllReadyH.nil
      have zh0 : vs.cell? ⟨hi, 0, none⟩ = some (.slice none 0 0) := hp_cell Zhs.out 0
      have zh1 := hp_frozen Zhs.out 0
      have zh2 := hp_lt Zhs.out
      go_simp
      have fh : Fr (fun k => k ≠ hi) vs (vs.setCell ⟨hi, 0, none⟩ (.slice A3 hp.length c3)) := Fr.set _ (fun e => e rfl) 0 _
      have Bh := Lib.hid (below_ne Bs.out fh geh.out)
      refine hK.out _ _ (by exact ks_of KS0 lg lq Bh.out) (fun hHeld => ?_)
      clear hK K hHeld
      try simp only [Act.put, List.setIfInBounds_toArray, List.set_cons_zero, List.set_cons_succ]
      refine wpAnyH_done (by kernel_rfl) ?_ _
      exact ⟨rfl, fun k => #[.nilFunc, .nilFunc, .nilFunc, .nilFunc, .nilFunc, .nilFunc, (.pointer (some ⟨g, 0, none⟩)), (.pointer (some ⟨g, 0, none⟩)), (.pointer (some ⟨g, 0, none⟩)), (.pointer (some ⟨g, 1, none⟩)), (.agg #[.int .i64 s.pc, .slice p.A1 s.stk.length p.c1, .int .u64 s.la, .int .u64 s.lb, .int .u64 s.lc, .int .u64 s.ld, .slice p.A2 s.out.length p.c2]), (.agg (stC s A1 c1 A2 c2)), (.pointer (some ⟨g, 0, none⟩)), (.pointer (some ⟨g, 0, none⟩)), (.pointer (some ⟨g, 0, none⟩)), (.pointer (some ⟨g, 8, none⟩)), (.slice p.A3 hp.length p.c3), (.slice A3 hp.length c3)].getD k undef, si, hi, rfl, A1, c1, A2, c2, A3, c3, fh.hp Zs.out (hp_ne Zs.out Zhs.out (by decide)), hp_put1 Zhs.out _, row_ty R1s.out fh Zhs.out (by decide), row_ty R2s.out fh Zhs.out (by decide), row_ty R3s.out fh Zhs.out (by decide), D12.out, D13.out, D23.out, ges.out, geh.out, Bh.out⟩
    refine AllReadyH.cons rfl (fun K hK => ?_) AllReadyH.nil
    go_simp
    have hb : Below v26.heap.size v26 (v26.alloc (.cells #[.int .i64 0, .slice none 0 0, .int .u64 0, .int .u64 0, .int .u64 0, .int .u64 0, .slice none 0 0] 28)) := (Below.refl _ _).alloc (Nat.le_refl _) _
    have hz := heap_alloc_new v26 (.cells #[.int .i64 0, .slice none 0 0, .int .u64 0, .int .u64 0, .int .u64 0, .int .u64 0, .slice none 0 0] 28)
    obtain ⟨si, hnm⟩ : ∃ x, v26.heap.size = x := ⟨_, rfl⟩
    have ges := Lib.hid (show w1.heap.size ≤ si from hnm ▸ B_26.out.size)
    have B_32 := Lib.hid (B_26.out.trans (hb.mono B_26.out.size))
    have ZH_32 := Lib.hid (hp_below ZH_26.out hb)
    rw [hnm] at hz ⊢
    have ZS_32 := Lib.hid hz
    clear hz hb hnm
    refine hK.out _ _ (by exact ks_of KS0 lg lq B_32.out) (fun hHeld => ?_)
    clear hK K hHeld
    try simp only [Act.put, List.setIfInBounds_toArray, List.set_cons_zero, List.set_cons_succ]
    generalize (v26.alloc (.cells #[.int .i64 0, .slice none 0 0, .int .u64 0, .int .u64 0, .int .u64 0, .int .u64 0, .slice none 0 0] 28)) = v32 at B_32 ZH_32 ZS_32 ⊢
    refine wpAnyH_ready (rs := [5]) (by kernel_rfl) (by simp) ?_
    refine AllReadyH.cons rfl (fun K hK => ?_) AllReadyH.nil
    go_simp
    go_at_call 28
    refine (copied_sp s p.A1 p.c1 p.A2 p.c2 _ (S1.out.below B_32.out) (S2.out.below B_32.out)).mono ?_
    rintro e v33 ⟨A1, c1, A2, c2, rfl, hr1, hr2, hd, hb⟩
    unfold stV stC
    have B_33 := Lib.hid (B_32.out.trans (hb.mono B_32.out.size))
    have ZH_33 := Lib.hid (hp_below ZH_32.out hb)
    have ZS_33 := Lib.hid (hp_below ZS_32.out hb)
    have R1_33 := Lib.hid (row_base hr1 B_32.out.size)
    have R2_33 := Lib.hid (row_base hr2 B_32.out.size)
    have D12 := Lib.hid hd
    clear hr1 hr2 hd hb
    refine hK.out _ _ (by exact ks_of KS0 lg lq B_33.out) (fun hHeld => ?_)
    clear hK K hHeld
    try simp only [Act.put, List.setIfInBounds_toArray, List.set_cons_zero, List.set_cons_succ]
    refine wpAnyH_ready (rs := [11]) (by kernel_rfl) (by simp) ?_
    refine AllReadyH.cons rfl (fun K hK => ?_) AllReadyH.nil
    go_simp
    go_at_call 41
    refine (clone_src p.A3 p.c3 hp _ (S3.out.below B_33.out)).mono ?_
    rintro e v34 ⟨A3, c3, rfl, hr3, hb⟩
    have D13 := Lib.hid (show ∀ k, blk A1 = some k → blk A3 ≠ some k from fun k hk e => by have a1 := (row_lt R1_33.out k hk).2; have a2 := (row_lt hr3 k e).1; omega)
    have D23 := Lib.hid (show ∀ k, blk A2 = some k → blk A3 ≠ some k from fun k hk e => by have a1 := (row_lt R2_33.out k hk).2; have a2 := (row_lt hr3 k e).1; omega)
    have B_34 := Lib.hid (B_33.out.trans (hb.mono B_33.out.size))
    have ZH_34 := Lib.hid (hp_below ZH_33.out hb)
    have ZS_34 := Lib.hid (hp_below ZS_33.out hb)
    have R1_34 := Lib.hid (row_below R1_33.out hb)
    have R2_34 := Lib.hid (row_below R2_33.out hb)
    have R3_34 := Lib.hid (row_base hr3 B_33.out.size)
    clear hr3 hb
    refine hK.out _ _ (by exact ks_of KS0 lg lq B_34.out) (fun hHeld => ?_)
    clear hK K hHeld
    try simp only [Act.put, List.setIfInBounds_toArray, List.set_cons_zero, List.set_cons_succ]
    refine wpAnyH_ready (rs := [14]) (by kernel_rfl) (by simp) ?_
    refine AllReadyH.cons rfl (fun K hK => ?_) AllReadyH.nil
    have zs0 : v34.cell? ⟨si, 0, none⟩ = some (.int .i64 0) := hp_cell ZS_34.out 0
    have zz0 := hp_frozen ZS_34.out 0
    have zs1 : v34.cell? ⟨si, 1, none⟩ = some (.slice none 0 0) := hp_cell ZS_34.out 1
    have zz1 := hp_frozen ZS_34.out 1
    have zs2 : v34.cell? ⟨si, 2, none⟩ = some (.int .u64 0) := hp_cell ZS_34.out 2
    have zz2 := hp_frozen ZS_34.out 2
    have zs3 : v34.cell? ⟨si, 3, none⟩ = some (.int .u64 0) := hp_cell ZS_34.out 3
    have zz3 := hp_frozen ZS_34.out 3
    have zs4 : v34.cell? ⟨si, 4, none⟩ = some (.int .u64 0) := hp_cell ZS_34.out 4
    have zz4 := hp_frozen ZS_34.out 4
    have zs5 : v34.cell? ⟨si, 5, none⟩ = some (.int .u64 0) := hp_cell ZS_34.out 5
    have zz5 := hp_frozen ZS_34.out 5
    have zs6 : v34.cell? ⟨si, 6, none⟩ = some (.slice none 0 0) := hp_cell ZS_34.out 6
    have zz6 := hp_frozen ZS_34.out 6
    have zl := hp_lt ZS_34.out
    go_simp
    have fr := put7_fr (w := v34) (b := si) (A1 := A1) (c1 := c1) (A2 := A2) (c2 := c2) (s := s)
    have Bs := Lib.hid (below_ne B_34.out fr ges.out)
    have Zs := Lib.hid (put7 (A1 := A1) (c1 := c1) (A2 := A2) (c2 := c2) (s := s) ZS_34.out)
    have R1s := Lib.hid (row_ty R1_34.out fr ZS_34.out (by decide))
    have R2s := Lib.hid (row_ty R2_34.out fr ZS_34.out (by decide))
    have R3s := Lib.hid (row_ty R3_34.out fr ZS_34.out (by decide))
    have Zhs := Lib.hid (fr.hp ZH_34.out (hp_ne ZH_34.out ZS_34.out (by decide)))
    refine hK.out _ _ (by exact ks_of KS0 lg lq Bs.out) (fun hHeld => ?_)
    clear hK K hHeld
    try simp only [Act.put, List.setIfInBounds_toArray, List.set_cons_zero, List.set_cons_succ]
    clear zs0 zs1 zs2 zs3 zs4 zs5 zs6 zz0 zz1 zz2 zz3 zz4 zz5 zz6 zl fr
    generalize (((((((v34.setCell ⟨si, 0, none⟩ (.int .i64 s.pc)).setCell ⟨si, 1, none⟩ (.slice A1 s.stk.length c1)).setCell ⟨si, 2, none⟩ (.int .u64 s.la)).setCell ⟨si, 3, none⟩ (.int .u64 s.lb)).setCell ⟨si, 4, none⟩ (.int .u64 s.lc)).setCell ⟨si, 5, none⟩ (.int .u64 s.ld)).setCell ⟨si, 6, none⟩ (.slice A2 s.out.length c2)) = vs at Bs Zs R1s R2s R3s Zhs ⊢
    refine wpAnyH_ready (rs := [15]) (by kernel_rfl) (by simp) ?_
    refine AllReadyH.cons rfl (fun K hK => ?_) AllReadyH.nil
    have zh0 : vs.cell? ⟨hi, 0, none⟩ = some (.slice none 0 0) := hp_cell Zhs.out 0
    have zh1 := hp_frozen Zhs.out 0
    have zh2 := hp_lt Zhs.out
    go_simp
    have fh : Fr (fun k => k ≠ hi) vs (vs.setCell ⟨hi, 0, none⟩ (.slice A3 hp.length c3)) := Fr.set _ (fun e => e rfl) 0 _
    have Bh := Lib.hid (below_ne Bs.out fh geh.out)
    refine hK.out _ _ (by exact ks_of KS0 lg lq Bh.out) (fun hHeld => ?_)
    clear hK K hHeld
    try simp only [Act.put, List.setIfInBounds_toArray, List.set_cons_zero, List.set_cons_succ]
    refine wpAnyH_done (by kernel_rfl) ?_ _
    exact ⟨rfl, fun k => #[.nilFunc, .nilFunc, .nilFunc, .nilFunc, .nilFunc, .nilFunc, (.pointer (some ⟨g, 0, none⟩)), (.pointer (some ⟨g, 0, none⟩)), (.pointer (some ⟨g, 0, none⟩)), (.pointer (some ⟨g, 1, none⟩)), (.agg #[.int .i64 s.pc, .slice p.A1 s.stk.length p.c1, .int .u64 s.la, .int .u64 s.lb, .int .u64 s.lc, .int .u64 s.ld, .slice p.A2 s.out.length p.c2]), (.agg (stC s A1 c1 A2 c2)), (.pointer (some ⟨g, 0, none⟩)), (.pointer (some ⟨g, 0, none⟩)), (.pointer (some ⟨g, 0, none⟩)), (.pointer (some ⟨g, 8, none⟩)), (.slice p.A3 hp.length p.c3), (.slice A3 hp.length c3)].getD k undef, si, hi, rfl, A1, c1, A2, c2, A3, c3, fh.hp Zs.out (hp_ne Zs.out Zhs.out (by decide)), hp_put1 Zhs.out _, row_ty R1s.out fh Zhs.out (by decide), row_ty R2s.out fh Zhs.out (by decide), row_ty R3s.out fh Zhs.out (by decide), D12.out, D13.out, D23.out, ges.out, geh.out, Bh.out⟩
  · rintro e a v ⟨rfl, u, si, hi, rfl, hkp⟩
    obtain ⟨A1, c1, A2, c2, A3, c3, hcs, hch, hr1, hr2, hr3, hd12, hd13, hd23, hge1, hge2, hbv⟩ := hkp
    have K2 := Lib.hid (K0.out.below hbv)
    have P2 := Lib.hid (hp_below P0.out hbv)
    have X2 := Lib.hid (hp_below X0.out hbv)
    have E2 := Lib.hid (grow_fr (F := fun k => k < w.heap.size) HB.out (show Fr (fun k => k < w.heap.size) w v from ⟨hbv.os.trans B0.out.os, hbv.tape.trans B0.out.tape, hbv.output.trans B0.out.output, Nat.le_trans B0.out.size hbv.size, fun k hk => (hbv.block k (Nat.lt_of_lt_of_le hk B0.out.size)).trans (B0.out.block k hk)⟩) (fun k hk => grow_lt HB.out k hk))
    have CS := Lib.hid hcs
    have CH := Lib.hid hch
    have R1 := Lib.hid hr1
    have R2 := Lib.hid hr2
    have R3 := Lib.hid hr3
    have DD := Lib.hid (And.intro hd12 (And.intro hd13 hd23))
    have GE := Lib.hid (And.intro hge1 hge2)
    have BV := Lib.hid hbv
    have WS := Lib.hid (show w.heap.size + 2 ≤ w1.heap.size from by have := hp_lt X0.out; omega)
    clear hcs hch hr1 hr2 hr3 hd12 hd13 hd23 hge1 hge2 hbv y0 y1 y2 y3 y4 y5 y6 y7 y8 q0 lq lg KS0
    have q0 : v.cell? ⟨w.heap.size, 0, none⟩ = some (.pointer (some ⟨g, 0, none⟩)) := hp_cell P2.out 0
    have y9 : v.cell? ⟨g, 9, none⟩ = some (.slice Ab vs.length cb) := (hp_cell K2.out.cells 9).trans (by simp [wkL])
    have z9 := K2.out.fz 9
    have lq := hp_lt P2.out
    have lg := K2.out.lt
    obtain ⟨m, hm⟩ : ∃ m : Mk, m = ⟨s, hp, ⟨A1, c1, A2, c2, A3, c3⟩, si, hi, w.heap.size, w.heap.size + 1, ⟨op, ag, v0⟩⟩ := ⟨_, rfl⟩
    have HM := Lib.hid hm
    have hclo : m.clo = .func (.func 102) #[] #[.pointer (some ⟨si, 0, none⟩), .pointer (some ⟨hi, 0, none⟩), .pointer (some ⟨w.heap.size, 0, none⟩), .pointer (some ⟨w.heap.size + 1, 0, none⟩)] := by rw [hm]; rfl
    have HCL := Lib.hid hclo
    obtain ⟨l2, hl2⟩ : ∃ l2, vs ++ [m.clo] = l2 := ⟨_, rfl⟩
    have HL2 := Lib.hid hl2
    have hmf : ∀ (fn : Fn) (first cap : Array Value) (w : World), (Instr.makeFunc fn first cap).run Try.prog w = .ok (.func fn first cap) w := fun _ _ _ _ => rfl
    clear hm hclo hl2
    go_wp2_with fail
    have MK := Lib.hid (show MkOk v g m from by rw [HM.out]; exact ⟨⟨CS.out, CH.out, P2.out, X2.out⟩, row_base R1.out (Nat.zero_le _), row_base R2.out (Nat.zero_le _), row_base R3.out (Nat.zero_le _), DD.out.1, DD.out.2.1, DD.out.2.2, HX.out.ok⟩)
    have MG := Lib.hid (show ∀ k, MB m k → w.heap.size ≤ k from by
      intro k hk
      rw [HM.out] at hk
      have a1 := GE.out.1
      have a2 := GE.out.2
      have a3 := WS.out
      rcases hk with rfl | rfl | rfl | rfl | hk | hk | hk
      · exact Nat.le_trans (by omega) a1
      · exact Nat.le_trans (by omega) a2
      · exact Nat.le_refl _
      · exact Nat.le_succ _
      · have := (row_lt R1.out k hk).1; omega
      · have := (row_lt R2.out k hk).1; omega
      · have := (row_lt R3.out k hk).1; omega)
    clear CS CH X2 R1 R2 R3 DD GE
    have NP := Lib.hid (show some w.heap.size ≠ blk Ab from fun e => by
      obtain ⟨cs, hc⟩ := grow_typed E2.out _ e.symm
      exact hp_ne P2.out hc (by decide) rfl)
    go_region_law (first | (refine step_append_fun rfl (.tmp 22) (.tmp 24) rfl Ab cb vs rfl (grow_below E2.out (by (repeat (with_reducible first | exact Below.refl _ _ | exact (Below.refl _ _).drew | refine ks_dr' ?_ | refine ks_al' ?_ _)))) ⟨v.heap.size, 0, none⟩ m.clo rfl (by rw [HCL.out]; first | exact hp_cell (heap_alloc_new v _) 0 | exact hp_cell (hp_dr (heap_alloc_new v _)) 0 | exact hp_cell (heap_alloc_new v.drew _) 0) (by rw [HCL.out]; rfl) (by omega) l2 HL2.out ?_; intro A' c' w2 hr2 hg2 hat2; have G := Lib.hid (show v.grownBy w2 (blk Ab) from gb_trans (by (repeat (with_reducible first | exact gb_refl _ _ | refine gb_drew ?_ | refine gb_alloc ?_ _))) hg2); have ROW := Lib.hid hr2; have AT := Lib.hid (show blk A' = blk Ab ∨ ∀ k, blk A' = some k → v.heap.size ≤ k from hat2.imp id (fun e k hk => by rw [e] at hk; simp at hk; omega)); have K3 := Lib.hid (K2.out.grown E2.out G.out (by decide) (by decide)); have y9' : w2.cell? ⟨g, 9, none⟩ = some (.slice Ab vs.length cb) := (hp_cell K3.out.cells 9).trans (by simp [wkL]); have z9' := K3.out.fz 9; have q0' : w2.cell? ⟨w.heap.size, 0, none⟩ = some (.pointer (some ⟨g, 0, none⟩)) := hp_cell (hp_grown P2.out G.out NP.out) 0; have lq' : w.heap.size < w2.heap.size := hp_lt (hp_grown P2.out G.out NP.out); have lg' := K3.out.lt; clear hr2 hg2 hat2))
    all_goals
      have hfr4 : Fr (fun k => k < v.heap.size ∧ some k ≠ blk Ab ∧ k ≠ g) v (w2.setCell ⟨g, 9, none⟩ (.slice A' l2.length c')) := (Fr.grown (F := fun k => k < v.heap.size ∧ some k ≠ blk Ab ∧ k ≠ g) G.out (fun k h => h.1) (fun k h => h.2.1)).trans (Fr.set w2 (fun h => h.2.2 rfl) 9 _)
      have FR4 := Lib.hid hfr4
      have K4 := Lib.hid (K3.out.setX 9 (.slice A' l2.length c') [.slice A' l2.length c', xa, xk] (by simp [wkL]))
      have MK4 := Lib.hid (mk_fr MK.out hfr4 (fun k hk => by
        obtain ⟨cs, t, hc, t1, t2, _⟩ := mb_typed MK.out hk
        refine ⟨hp_lt hc, fun e => ?_, hp_ne hc K2.out.cells t2⟩
        obtain ⟨cs', hc'⟩ := grow_typed E2.out _ e.symm
        exact hp_ne hc hc' t1 rfl))
      have ROW4 := Lib.hid (grow_fr (F := fun k => k ≠ g) ROW.out (Fr.set w2 (fun e => e rfl) 9 (.slice A' l2.length c')) (fun k hk => by
        obtain ⟨cs', hc'⟩ := grow_typed ROW.out _ hk
        exact hp_ne hc' K3.out.cells (by decide)))
      have P4 := Lib.hid (hfr4.hp P2.out ⟨hp_lt P2.out, NP.out, hp_ne P2.out K2.out.cells (by decide)⟩)
      have FF := Lib.hid ((HX.out.fr B0.out).trans ((K0.out.fr BV.out).trans ((Fr.grown G.out K2.out.fl (fun k hk e => HBF.out k e.symm hk)).trans (Fr.set w2 HX.out.fg 9 (.slice A' l2.length c')))))
      clear hfr4 y9' z9' q0' lq' lg'
      generalize (w2.setCell ⟨g, 9, none⟩ (.slice A' l2.length c')) = w4 at FR4 K4 MK4 ROW4 P4 FF ⊢
      have q4 : w4.cell? ⟨w.heap.size, 0, none⟩ = some (.pointer (some ⟨g, 0, none⟩)) := hp_cell P4.out 0
      have y4 := K4.out.at.2.1
      have z4 := K4.out.fz 1
      have l4 := K4.out.lt
      have l4' := hp_lt P4.out
      go_wp2
      go_end0
      have MK5 := mk_fr (F := fun k => k ≠ g) MK4.out (Fr.set w4 (fun e => e rfl) 1 (.int .i64 (s.pc + 1))) (fun k hk => by
        obtain ⟨cs, t, hc, t1, t2, _⟩ := mb_typed MK4.out hk
        exact hp_ne hc K4.out.cells t2)
      have ROW5 := grow_fr (F := fun k => k ≠ g) ROW4.out (Fr.set w4 (fun e => e rfl) 1 (.int .i64 (s.pc + 1))) (fun k hk => by
        obtain ⟨cs', hc'⟩ := grow_typed ROW4.out _ hk
        exact hp_ne hc' K4.out.cells (by decide))
      refine ⟨rfl, FF.out.trans (Fr.set w4 HX.out.fg _ _), m, A', c', by rw [HM.out], by rw [HM.out], by rw [HM.out], MK5, fun k hk => ⟨MG.out k hk, ?_, fun e => ?_⟩, AT.out.imp id (fun h k hk => Nat.le_trans (Nat.le_trans (by have := WS.out; omega) BV.out.size) (h k hk)), ?_, ?_⟩
      · obtain ⟨cs, t, hc, _⟩ := mb_typed MK5 hk
        exact hp_lt hc
      · obtain ⟨cs, t, hc, t1, _⟩ := mb_typed MK5 hk
        obtain ⟨cs', hc'⟩ := grow_typed ROW5 _ e
        exact hp_ne hc hc' t1 rfl
      · rw [HL2.out]; exact K4.out.setPc (s.pc + 1) HPC.out
      · rw [HL2.out]; exact ROW5
end Go.Proofs.Ytlgpjcdlomhlcaa
