
/-
  Slices of bools: what stands in them; rows of them that a law makes itself, and append.
-/
import Derived.Test.YtcjkpeojjonpiaaInts
import Derived.Laws.AppendOwnNone
import Derived.Maps.AppendAt
import Derived.Deep.RegionLaw
namespace Go.Proofs.Ytcjkpeojjonpiaa
open Go.RowKit
set_option linter.unusedSimpArgs false
set_option linter.unusedVariables false
variable {ok : Nat → Prop}

def TB (v : Bool) : Prop := v = v

def boolsC (l : List Bool) : List Value := l.map (Value.bool)
theorem boolsC_len (l : List Bool) : (boolsC l).length = l.length := by simp [boolsC]
theorem boolsC_append (l m : List Bool) : boolsC (l ++ m) = boolsC l ++ boolsC m := by simp [boolsC]
theorem boolsC_one (l : List Bool) : ∀ u ∈ boolsC l, u.oneCell' = true := by
  intro u h
  simp only [boolsC, List.mem_map] at h
  obtain ⟨x, _, rfl⟩ := h
  rfl
theorem boolsC_get (l : List Bool) (j : Nat) : (boolsC l)[j]? = (l[j]?).map (Value.bool) := by simp [boolsC]
/-- A slice's values: it is nil and there are none, or they stand in a row of values. -/
def BoolsAt (ok : Nat → Prop) (w : World) (A : Option Addr) (l : List Bool) : Prop :=
  (∀ v ∈ l, TB v) ∧ ((A = none ∧ l = []) ∨ ∃ g o cells, A = some ⟨g, o, none⟩ ∧ w.heap[g]? = some (.cells cells 4 (0, 0)) ∧ (∀ j v, l[j]? = some v → cells[o + j]? = some (.bool v)) ∧ ok g)
theorem bools_below {w w1 : World} {A : Option Addr} {l : List Bool} (h : BoolsAt ok w A l) (hb : Below w.heap.size w w1) : BoolsAt ok w1 A l := by
  obtain ⟨h0, h | ⟨g, o, cells, hA, hg, hc, hk⟩⟩ := h
  · exact ⟨h0, .inl h⟩
  · exact ⟨h0, .inr ⟨g, o, cells, hA, hp_below hg hb, hc, hk⟩⟩
theorem bools_other {w w1 : World} {A : Option Addr} {l : List Bool} {r : Nat} {cs : Array Value} {t : TypeId} (h : BoolsAt ok w A l) (hr : w.heap[r]? = some (.cells cs t (0, 0))) (ht : t ≠ 4) (hg : w.grownBy w1 (some r)) : BoolsAt ok w1 A l := by
  obtain ⟨h0, h | ⟨g, o, cells, hA, hgc, hc, hk⟩⟩ := h
  · exact ⟨h0, .inl h⟩
  · exact ⟨h0, .inr ⟨g, o, cells, hA, hp_grown hgc hg (by simpa using hp_ne hgc hr ht.symm), hc, hk⟩⟩
theorem bools_far {w : World} {A : Option Addr} {l : List Bool} {r : Nat} {cs : Array Value} {t : TypeId} (h : BoolsAt ok w A l) (hr : w.heap[r]? = some (.cells cs t (0, 0))) (ht : t ≠ 4) (j : Nat) (u : Value) : BoolsAt ok (w.setCell ⟨r, j, none⟩ u) A l := by
  obtain ⟨h0, h | ⟨g, o, cells, hA, hgc, hc, hk⟩⟩ := h
  · exact ⟨h0, .inl h⟩
  · exact ⟨h0, .inr ⟨g, o, cells, hA, hp_far hgc (hp_ne hgc hr ht.symm) u, hc, hk⟩⟩
theorem bools_cell {w : World} {b : Addr} {l : List Bool} (h : BoolsAt ok w (some b) l) : ∀ j u, (boolsC l)[j]? = some u → w.cell? (b.add j) = some u := by
  intro j u hu
  rw [boolsC_get] at hu
  obtain ⟨v, hv, rfl⟩ := Option.map_eq_some_iff.mp hu
  obtain ⟨h0, h | ⟨g, o, cells, hA, hgc, hc, hk⟩⟩ := h
  · cases h.1
  · obtain rfl := Option.some.inj hA
    rw [add_at, hp_cell hgc]
    exact hc j v hv
theorem bools_none {w : World} {l : List Bool} (h : BoolsAt ok w none l) : l = [] := by
  obtain ⟨_, h | ⟨g, o, cells, hA, _⟩⟩ := h
  · exact h.2
  · cases hA
theorem bools_own {w : World} {base n : Nat} {v : Value} {l : List Bool} (h : w.ownsRow base 4 1 v n (boolsC l)) (h0 : ∀ v ∈ l, TB v) (hok : ∀ k, base ≤ k → ok k) : ∃ A c, v = .slice A l.length c ∧ l.length ≤ c ∧ c ≤ maxLen ∧ BoolsAt ok w A l ∧ (A = none → c = 0) ∧ (∀ b, A = some b → base ≤ b.block) := by
  obtain ⟨hl, h⟩ := h
  rw [boolsC_len, Nat.mul_one] at hl
  rcases h with ⟨rfl, hn⟩ | ⟨g, cap, cur, rfl, hb, hg, hcap, hm, hs, ht⟩
  · have : l = [] := List.eq_nil_of_length_eq_zero (by omega)
    subst this
    exact ⟨none, 0, rfl, Nat.le_refl _, Nat.zero_le _, ⟨h0, .inl ⟨rfl, rfl⟩⟩, fun _ => rfl, fun b hb => by cases hb⟩
  · refine ⟨some ⟨g, 0, none⟩, cap, by rw [hl], by omega, hm, ⟨h0, .inr ⟨g, 0, cur, rfl, hg, fun j v hv => ?_, hok g hb⟩⟩, (fun h => by cases h), fun b hb' => by cases hb'; exact hb⟩
    have hj : (boolsC l)[j]? = some (.bool v) := by rw [boolsC_get, hv]; rfl
    rw [← ht, List.getElem?_take] at hj
    split at hj
    · rw [Nat.zero_add]; simpa using hj
    · cases hj

theorem bools_mono {ok ok' : Nat → Prop} {w : World} {A : Option Addr} {l : List Bool} (h : BoolsAt ok w A l) (hk : ∀ k, k < w.heap.size → ok k → ok' k) : BoolsAt ok' w A l := by
  obtain ⟨h0, h | ⟨g, o, cells, hA, hg, hc, hk'⟩⟩ := h
  · exact ⟨h0, .inl h⟩
  · exact ⟨h0, .inr ⟨g, o, cells, hA, hg, hc, hk g (hp_lt hg) hk'⟩⟩
/-- Blocks that are not among those may have been written. -/
theorem bools_row {w w1 : World} {A : Option Addr} {l : List Bool} {r : Option Nat} (h : BoolsAt ok w A l) (hg : w.grownBy w1 r) (hr : ∀ k, ok k → some k ≠ r) : BoolsAt ok w1 A l := by
  obtain ⟨h0, h | ⟨g, o, cells, hA, hgc, hc, hk⟩⟩ := h
  · exact ⟨h0, .inl h⟩
  · exact ⟨h0, .inr ⟨g, o, cells, hA, hp_grown hgc hg (hr g hk), hc, hk⟩⟩

theorem Bool_inf : (Try.prog.info? 4).map (fun i => (i.zero, i.size, i.bytes)) = some (some (.bool false), 1, 1) := by kernel_rfl
theorem append_bls {ops : Array Oper} {rest : List Oper} {o : Oper} {a : Act} {Q : Exit → Act → World → Prop} {w : World} (hgd : o.guard = none) (s x : Operand)
    (ho : o.op = .call { callee := .builtin .append, args := #[s, x], argTypes := #[51, 51] })
    (base : Nat) (v : Value) (xs : List Bool) (hs : a.eval s = v) (hown : w.ownsRow base 4 1 v xs.length (boolsC xs)) (A : Option Addr) (c : Nat) (src : List Bool) (hx : a.eval x = .slice A src.length c) (hA : A = none → c = 0)
    (hv : BoolsAt ok w A src) (hlen : xs.length + src.length ≤ 1000) (hbase : base ≤ w.heap.size)
    (h : ∀ v' w', w'.ownsRow base 4 1 v' (xs ++ src).length (boolsC (xs ++ src)) → w.grownBy w' v.ownBlock → (v'.ownBlock = v.ownBlock ∨ v'.ownBlock = some w.heap.size) → wpList Try.prog ops Q rest (a.put o.dst v') w') : wpList Try.prog ops Q (o :: rest) a w := by
  obtain ⟨i0, hi, hz0, hz1, hz2⟩ := info_parts Bool_inf
  cases A with
  | none =>
    obtain rfl := bools_none hv
    obtain rfl := hA rfl
    refine wpList_append_own_none hgd s x 51 ho base 4 i0 1 Try.underlying51 hi v xs.length (boolsC xs) hs hown hx (h v w ?_ (gb_refl _ _) (.inl rfl))
    rw [List.append_nil]
    exact hown
  | some b =>
    refine wpList_append_own_at w hgd s x 51 ho base 4 i0 (.bool false) 1 1 Try.underlying51 hi hz0 hz1 hz2 rfl (by decide) v xs.length (boolsC xs) hs hown b src.length c (boolsC src) hx (by rw [boolsC_len, Nat.mul_one]) (bools_cell hv) (boolsC_one src) (by unfold maxLen; omega) (by omega) hbase ?_
    intro v' w' h1 h2 _ h3
    exact h v' w' (by rw [List.length_append, boolsC_append]; exact h1) h2 h3
theorem bools_lit (W : World) (v : Bool) (hv : TB v) : BoolsAt (fun k => k = W.heap.size) (W.alloc (.cells #[.bool v] 4)) (some ⟨W.heap.size, 0, none⟩) [v] :=
  ⟨fun x hx => by rw [List.mem_singleton.mp hx]; exact hv, .inr ⟨W.heap.size, 0, _, rfl, heap_alloc_new W _, fun j x hj => by
    cases j with
    | zero => (simp at hj; subst hj; rfl)
    | succ j => simp at hj, rfl⟩⟩

/-- A row of values that the law itself has made, as a slice. -/
def LRowAt (w : World) (base : Nat) (A : Option Addr) (c : Nat) (l : List Bool) : Prop := w.ownsRow base 4 1 (.slice A l.length c) l.length (boolsC l) ∧ (∀ x ∈ l, TB x)
def lblk (A : Option Addr) : Option Nat := A.map (·.block)
theorem lblk_own (A : Option Addr) (n c : Nat) : (Value.slice A n c).ownBlock = lblk A := by cases A <;> rfl
theorem lrow_lt {w : World} {base c : Nat} {A : Option Addr} {l : List Bool} (h : LRowAt w base A c l) : ∀ k, lblk A = some k → base ≤ k ∧ k < w.heap.size := by
  intro k hk
  exact h.1.lt k (by rw [lblk_own]; exact hk)
theorem lrow_typed {w : World} {base c : Nat} {A : Option Addr} {l : List Bool} (h : LRowAt w base A c l) : ∀ k, lblk A = some k → ∃ cs, w.heap[k]? = some (.cells cs 4 (0, 0)) := by
  intro k hk
  rcases h.1.2 with ⟨hn, _⟩ | ⟨g, cap, cur, hv, _, hg, _⟩
  · simp only [Value.slice.injEq] at hn
    rw [hn.1] at hk
    cases hk
  · simp only [Value.slice.injEq] at hv
    rw [hv.1] at hk
    simp only [lblk, Option.map_some, Option.some.injEq] at hk
    subst hk
    exact ⟨cur, hg⟩
theorem lrow_vals {w : World} {base c : Nat} {A : Option Addr} {l : List Bool} (h : LRowAt w base A c l) : BoolsAt (fun _ => True) w A l ∧ (A = none → c = 0) := by
  obtain ⟨A', c', hv, _, _, h3, h4, _⟩ := bools_own (ok := fun _ => True) h.1 h.2 (fun _ _ => trivial)
  simp only [Value.slice.injEq, true_and] at hv
  obtain ⟨rfl, rfl⟩ := hv
  exact ⟨h3, h4⟩
theorem lrow_nil (w : World) (base : Nat) : LRowAt w base none 0 [] := ⟨World.ownsRow_nil w base _ 1, fun x hx => (List.not_mem_nil hx).elim⟩
theorem lrow_of {w : World} {base : Nat} {v : Value} {l : List Bool} (h : w.ownsRow base 4 1 v l.length (boolsC l)) (h0 : ∀ x ∈ l, TB x) : ∃ A c, v = .slice A l.length c ∧ LRowAt w base A c l := by
  obtain ⟨A, c, rfl, _⟩ := bools_own (ok := fun _ => True) h h0 (fun _ _ => trivial)
  exact ⟨A, c, rfl, h, h0⟩
theorem lrow_below {w w1 : World} {base c : Nat} {A : Option Addr} {l : List Bool} (h : LRowAt w base A c l) (hb : Below w.heap.size w w1) : LRowAt w1 base A c l :=
  ⟨h.1.kept (gb_below (r := none) hb) (by cases hh : (Value.slice A l.length c).ownBlock <;> simp), h.2⟩
theorem lrow_other {w w1 : World} {base c : Nat} {A : Option Addr} {l : List Bool} (h : LRowAt w base A c l) {r : Option Nat} (hg : w.grownBy w1 r) (hr : ∀ k, lblk A = some k → some k ≠ r) : LRowAt w1 base A c l :=
  ⟨h.1.kept hg (by rw [lblk_own]; cases hh : lblk A with
    | none => exact .inl rfl
    | some k => exact .inr (hr k hh)), h.2⟩
theorem append_bls' {ok : Nat → Prop} {ops : Array Oper} {rest : List Oper} {o : Oper} {a : Act} {Q : Exit → Act → World → Prop} {w : World} (hgd : o.guard = none) (s x : Operand)
    (ho : o.op = .call { callee := .builtin .append, args := #[s, x], argTypes := #[51, 51] })
    (base : Nat) (A0 : Option Addr) (c0 : Nat) (xs : List Bool) (hs : a.eval s = .slice A0 xs.length c0) (hr : LRowAt w base A0 c0 xs) (A : Option Addr) (c : Nat) (src : List Bool) (hx : a.eval x = .slice A src.length c) (hA : A = none → c = 0)
    (hv : BoolsAt ok w A src) (hlen : xs.length + src.length ≤ 1000) (hbase : base ≤ w.heap.size) (l' : List Bool) (hl : xs ++ src = l')
    (h : ∀ A' c' w', LRowAt w' base A' c' l' → w.grownBy w' (lblk A0) → (lblk A' = lblk A0 ∨ lblk A' = some w.heap.size) → wpList Try.prog ops Q rest (a.put o.dst (.slice A' l'.length c')) w') : wpList Try.prog ops Q (o :: rest) a w := by
  subst hl
  refine append_bls hgd s x ho base _ xs hs hr.1 A c src hx hA hv hlen hbase ?_
  intro v' w' h1 h2 h3
  obtain ⟨A', c', rfl, hrow⟩ := lrow_of h1 (fun x hx => by rcases List.mem_append.mp hx with hx | hx; exact hr.2 x hx; exact hv.1 x hx)
  rw [lblk_own] at h2 h3
  rw [lblk_own] at h3
  exact h A' c' w' hrow h2 h3
theorem bools_lit' (W : World) (v : Bool) (hv : TB v) (n : Nat) (hn : n = W.heap.size) : BoolsAt (fun _ => True) (W.alloc (.cells #[.bool v] 4)) (some ⟨n, 0, none⟩) [v] := by
  subst hn
  exact bools_mono (bools_lit W v hv) (fun _ _ _ => trivial)
theorem lrow_empty (W : World) : LRowAt (W.alloc (.cells #[] 4)) W.heap.size (some ⟨W.heap.size, 0, none⟩) 0 [] :=
  ⟨World.ownsRow_made W #[] 0 (Nat.le_refl _) (Nat.zero_le _) rfl, fun x hx => (List.not_mem_nil hx).elim⟩
theorem step_append_bls {ops : Array Oper} {o : Oper} {a : Act} {w : World} {K : Act → World → Prop} {Q : Exit → Act → World → Prop} {E : Prop} (hg : o.guard = none) (s x : Operand)
    (ho : o.op = .call { callee := .builtin .append, args := #[s, x], argTypes := #[51, 51] })
    (base : Nat) (A0 : Option Addr) (c0 : Nat) (xs : List Bool) (hs : a.eval s = .slice A0 xs.length c0) (hr : LRowAt w base A0 c0 xs) (A : Option Addr) (c : Nat) (src : List Bool) (hx : a.eval x = .slice A src.length c) (hA : A = none → c = 0)
    (hv : BoolsAt ok w A src) (hlen : xs.length + src.length ≤ 1000) (hbase : base ≤ w.heap.size) (l' : List Bool) (hl : xs ++ src = l')
    (h : ∀ A' c' w', LRowAt w' base A' c' l' → w.grownBy w' (lblk A0) → K (a.put o.dst (.slice A' l'.length c')) w') :
    if Region.wanted o (yielded ops a.tmps) = true then Oper.wp Try.prog o a w K Q else E := by
  have hw : Region.wanted o (yielded ops a.tmps) = true := by simp [Region.wanted, hg]
  rw [if_pos hw]
  subst hl
  obtain ⟨i0, hi, hz0, hz1, hz2⟩ := info_parts Bool_inf
  cases A with
  | none =>
    obtain rfl := bools_none hv
    obtain rfl := hA rfl
    have hrun := run_append_owned_none (P := Try.prog) (w := w) base 51 o.type 4 i0 1 Try.underlying51 hi _ xs.length (boolsC xs) hr.1
    have hx' : a.eval x = .slice none 0 0 := hx
    unfold Oper.wp
    simp [execOp, ho, resolve, invoke, builtin, hs, hx', hrun, Result.andThen]
    have := h A0 c0 w (by rw [List.append_nil]; exact hr) (gb_refl _ _)
    rw [List.append_nil] at this
    exact this
  | some b =>
    obtain ⟨v', w', hrun, h1, h2, _⟩ := run_append_own_at (P := Try.prog) w base 51 o.type 4 i0 (.bool false) 1 1 Try.underlying51 hi hz0 hz1 hz2 rfl (by decide) _ xs.length (boolsC xs) hr.1 b src.length c (boolsC src) (by rw [boolsC_len, Nat.mul_one]) (bools_cell hv) (boolsC_one src) (by unfold maxLen; omega) (by omega) hbase
    unfold Oper.wp
    simp [execOp, ho, resolve, invoke, builtin, hs, hx, hrun, Result.andThen]
    obtain ⟨A', c', rfl, hrow⟩ := lrow_of (l := xs ++ src) (by rw [List.length_append, boolsC_append]; exact h1) (fun x hx => by rcases List.mem_append.mp hx with hx | hx; exact hr.2 x hx; exact hv.1 x hx)
    rw [lblk_own] at h2
    exact h A' c' w' hrow h2
theorem lrow_at0 {W : World} {base n0 : Nat} (h : W.heap[n0]? = some (.cells #[] 4 (0, 0))) (hb : base ≤ n0) : LRowAt W base (some ⟨n0, 0, none⟩) 0 [] :=
  ⟨⟨rfl, .inr ⟨n0, 0, #[], rfl, hb, h, Nat.le_refl _, Nat.zero_le _, rfl, rfl⟩⟩, fun x hx => (List.not_mem_nil hx).elim⟩
theorem bools_at1 {W : World} {v : Bool} {n0 : Nat} (hv : TB v) (h : W.heap[n0]? = some (.cells #[.bool v] 4 (0, 0))) : BoolsAt (fun _ => True) W (some ⟨n0, 0, none⟩) [v] :=
  ⟨fun x hx => by rw [List.mem_singleton.mp hx]; exact hv, .inr ⟨n0, 0, _, rfl, h, fun j x hj => by
    cases j with
    | zero => (simp at hj; subst hj; rfl)
    | succ j => simp at hj, trivial⟩⟩
end Go.Proofs.Ytcjkpeojjonpiaa
