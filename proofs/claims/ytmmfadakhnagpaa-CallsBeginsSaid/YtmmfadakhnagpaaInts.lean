
/-
  Slices of whole numbers: what stands in them; slices.Clone; rows of them that a law makes itself, and append.
-/
import Derived.Test.YtmmfadakhnagpaaVals
import Derived.Laws.AppendOwnNone
import Derived.Maps.AppendAt
import Derived.Deep.RegionLaw
namespace Go.Proofs.Ytmmfadakhnagpaa
open Go.RowKit
set_option linter.unusedSimpArgs false
set_option linter.unusedVariables false
variable {ok : Nat → Prop}

def I64 (v : Int) : Prop := -9223372036854775808 ≤ v ∧ v ≤ 9223372036854775807

def intsC (l : List Int) : List Value := l.map (Value.int .i64)
theorem intsC_len (l : List Int) : (intsC l).length = l.length := by simp [intsC]
theorem intsC_append (l m : List Int) : intsC (l ++ m) = intsC l ++ intsC m := by simp [intsC]
theorem intsC_one (l : List Int) : ∀ u ∈ intsC l, u.oneCell' = true := by
  intro u h
  simp only [intsC, List.mem_map] at h
  obtain ⟨x, _, rfl⟩ := h
  rfl
theorem intsC_get (l : List Int) (j : Nat) : (intsC l)[j]? = (l[j]?).map (Value.int .i64) := by simp [intsC]
/-- A slice's values: it is nil and there are none, or they stand in a row of values. -/
def IntsAt (ok : Nat → Prop) (w : World) (A : Option Addr) (l : List Int) : Prop :=
  (∀ v ∈ l, I64 v) ∧ ((A = none ∧ l = []) ∨ ∃ g o cells, A = some ⟨g, o, none⟩ ∧ w.heap[g]? = some (.cells cells 3 (0, 0)) ∧ (∀ j v, l[j]? = some v → cells[o + j]? = some (.int .i64 v)) ∧ ok g)
theorem ints_below {w w1 : World} {A : Option Addr} {l : List Int} (h : IntsAt ok w A l) (hb : Below w.heap.size w w1) : IntsAt ok w1 A l := by
  obtain ⟨h0, h | ⟨g, o, cells, hA, hg, hc, hk⟩⟩ := h
  · exact ⟨h0, .inl h⟩
  · exact ⟨h0, .inr ⟨g, o, cells, hA, hp_below hg hb, hc, hk⟩⟩
theorem ints_other {w w1 : World} {A : Option Addr} {l : List Int} {r : Nat} {cs : Array Value} {t : TypeId} (h : IntsAt ok w A l) (hr : w.heap[r]? = some (.cells cs t (0, 0))) (ht : t ≠ 3) (hg : w.grownBy w1 (some r)) : IntsAt ok w1 A l := by
  obtain ⟨h0, h | ⟨g, o, cells, hA, hgc, hc, hk⟩⟩ := h
  · exact ⟨h0, .inl h⟩
  · exact ⟨h0, .inr ⟨g, o, cells, hA, hp_grown hgc hg (by simpa using hp_ne hgc hr ht.symm), hc, hk⟩⟩
theorem ints_far {w : World} {A : Option Addr} {l : List Int} {r : Nat} {cs : Array Value} {t : TypeId} (h : IntsAt ok w A l) (hr : w.heap[r]? = some (.cells cs t (0, 0))) (ht : t ≠ 3) (j : Nat) (u : Value) : IntsAt ok (w.setCell ⟨r, j, none⟩ u) A l := by
  obtain ⟨h0, h | ⟨g, o, cells, hA, hgc, hc, hk⟩⟩ := h
  · exact ⟨h0, .inl h⟩
  · exact ⟨h0, .inr ⟨g, o, cells, hA, hp_far hgc (hp_ne hgc hr ht.symm) u, hc, hk⟩⟩
theorem ints_cell {w : World} {b : Addr} {l : List Int} (h : IntsAt ok w (some b) l) : ∀ j u, (intsC l)[j]? = some u → w.cell? (b.add j) = some u := by
  intro j u hu
  rw [intsC_get] at hu
  obtain ⟨v, hv, rfl⟩ := Option.map_eq_some_iff.mp hu
  obtain ⟨h0, h | ⟨g, o, cells, hA, hgc, hc, hk⟩⟩ := h
  · cases h.1
  · obtain rfl := Option.some.inj hA
    rw [add_at, hp_cell hgc]
    exact hc j v hv
theorem ints_none {w : World} {l : List Int} (h : IntsAt ok w none l) : l = [] := by
  obtain ⟨_, h | ⟨g, o, cells, hA, _⟩⟩ := h
  · exact h.2
  · cases hA
theorem ints_own {w : World} {base n : Nat} {v : Value} {l : List Int} (h : w.ownsRow base 3 1 v n (intsC l)) (h0 : ∀ v ∈ l, I64 v) (hok : ∀ k, base ≤ k → ok k) : ∃ A c, v = .slice A l.length c ∧ l.length ≤ c ∧ c ≤ maxLen ∧ IntsAt ok w A l ∧ (A = none → c = 0) ∧ (∀ b, A = some b → base ≤ b.block) := by
  obtain ⟨hl, h⟩ := h
  rw [intsC_len, Nat.mul_one] at hl
  rcases h with ⟨rfl, hn⟩ | ⟨g, cap, cur, rfl, hb, hg, hcap, hm, hs, ht⟩
  · have : l = [] := List.eq_nil_of_length_eq_zero (by omega)
    subst this
    exact ⟨none, 0, rfl, Nat.le_refl _, Nat.zero_le _, ⟨h0, .inl ⟨rfl, rfl⟩⟩, fun _ => rfl, fun b hb => by cases hb⟩
  · refine ⟨some ⟨g, 0, none⟩, cap, by rw [hl], by omega, hm, ⟨h0, .inr ⟨g, 0, cur, rfl, hg, fun j v hv => ?_, hok g hb⟩⟩, (fun h => by cases h), fun b hb' => by cases hb'; exact hb⟩
    have hj : (intsC l)[j]? = some (.int .i64 v) := by rw [intsC_get, hv]; rfl
    rw [← ht, List.getElem?_take] at hj
    split at hj
    · rw [Nat.zero_add]; simpa using hj
    · cases hj

theorem ints_mono {ok ok' : Nat → Prop} {w : World} {A : Option Addr} {l : List Int} (h : IntsAt ok w A l) (hk : ∀ k, k < w.heap.size → ok k → ok' k) : IntsAt ok' w A l := by
  obtain ⟨h0, h | ⟨g, o, cells, hA, hg, hc, hk'⟩⟩ := h
  · exact ⟨h0, .inl h⟩
  · exact ⟨h0, .inr ⟨g, o, cells, hA, hg, hc, hk g (hp_lt hg) hk'⟩⟩
/-- Blocks that are not among those may have been written. -/
theorem ints_row {w w1 : World} {A : Option Addr} {l : List Int} {r : Option Nat} (h : IntsAt ok w A l) (hg : w.grownBy w1 r) (hr : ∀ k, ok k → some k ≠ r) : IntsAt ok w1 A l := by
  obtain ⟨h0, h | ⟨g, o, cells, hA, hgc, hc, hk⟩⟩ := h
  · exact ⟨h0, .inl h⟩
  · exact ⟨h0, .inr ⟨g, o, cells, hA, hp_grown hgc hg (hr g hk), hc, hk⟩⟩

theorem Int_info : (Try.prog.info? 3).map (fun i => (i.zero, i.size, i.bytes)) = some (some (.int .i64 0), 1, 8) := by kernel_rfl
def IClonePost (l : List Int) (w : World) (e : Ending) (w' : World) : Prop := ∃ A' c', e = .returned (.slice A' l.length c') ∧ l.length ≤ c' ∧ c' ≤ maxLen ∧ IntsAt (fun k => w.heap.size ≤ k) w' A' l ∧ (A' = none → c' = 0) ∧ Below w.heap.size w w'
theorem append_ints {ops : Array Oper} {rest : List Oper} {o : Oper} {a : Act} {Q : Exit → Act → World → Prop} {w : World} (hgd : o.guard = none) (s x : Operand)
    (ho : o.op = .call { callee := .builtin .append, args := #[s, x], argTypes := #[70, 70] })
    (base : Nat) (v : Value) (xs : List Int) (hs : a.eval s = v) (hown : w.ownsRow base 3 1 v xs.length (intsC xs)) (A : Option Addr) (c : Nat) (src : List Int) (hx : a.eval x = .slice A src.length c) (hA : A = none → c = 0)
    (hv : IntsAt ok w A src) (hlen : xs.length + src.length ≤ 1000) (hbase : base ≤ w.heap.size)
    (h : ∀ v' w', w'.ownsRow base 3 1 v' (xs ++ src).length (intsC (xs ++ src)) → w.grownBy w' v.ownBlock → (v'.ownBlock = v.ownBlock ∨ v'.ownBlock = some w.heap.size) → wpList Try.prog ops Q rest (a.put o.dst v') w') : wpList Try.prog ops Q (o :: rest) a w := by
  obtain ⟨i0, hi, hz0, hz1, hz2⟩ := info_parts Int_info
  cases A with
  | none =>
    obtain rfl := ints_none hv
    obtain rfl := hA rfl
    refine wpList_append_own_none hgd s x 70 ho base 3 i0 1 Try.underlying70 hi v xs.length (intsC xs) hs hown hx (h v w ?_ (gb_refl _ _) (.inl rfl))
    rw [List.append_nil]
    exact hown
  | some b =>
    refine wpList_append_own_at w hgd s x 70 ho base 3 i0 (.int .i64 0) 1 8 Try.underlying70 hi hz0 hz1 hz2 rfl (by decide) v xs.length (intsC xs) hs hown b src.length c (intsC src) hx (by rw [intsC_len, Nat.mul_one]) (ints_cell hv) (intsC_one src) (by unfold maxLen; omega) (by omega) hbase ?_
    intro v' w' h1 h2 _ h3
    exact h v' w' (by rw [List.length_append, intsC_append]; exact h1) h2 h3
theorem ints_lit (W : World) (v : Int) (hv : I64 v) : IntsAt (fun k => k = W.heap.size) (W.alloc (.cells #[.int .i64 v] 3)) (some ⟨W.heap.size, 0, none⟩) [v] :=
  ⟨fun x hx => by rw [List.mem_singleton.mp hx]; exact hv, .inr ⟨W.heap.size, 0, _, rfl, heap_alloc_new W _, fun j x hj => by
    cases j with
    | zero => (simp at hj; subst hj; rfl)
    | succ j => simp at hj, rfl⟩⟩

/-- A row of values that the law itself has made, as a slice. -/
def IRowAt (w : World) (base : Nat) (A : Option Addr) (c : Nat) (l : List Int) : Prop := w.ownsRow base 3 1 (.slice A l.length c) l.length (intsC l) ∧ (∀ x ∈ l, I64 x)
def iblk (A : Option Addr) : Option Nat := A.map (·.block)
theorem iblk_own (A : Option Addr) (n c : Nat) : (Value.slice A n c).ownBlock = iblk A := by cases A <;> rfl
theorem irow_lt {w : World} {base c : Nat} {A : Option Addr} {l : List Int} (h : IRowAt w base A c l) : ∀ k, iblk A = some k → base ≤ k ∧ k < w.heap.size := by
  intro k hk
  exact h.1.lt k (by rw [iblk_own]; exact hk)
theorem irow_typed {w : World} {base c : Nat} {A : Option Addr} {l : List Int} (h : IRowAt w base A c l) : ∀ k, iblk A = some k → ∃ cs, w.heap[k]? = some (.cells cs 3 (0, 0)) := by
  intro k hk
  rcases h.1.2 with ⟨hn, _⟩ | ⟨g, cap, cur, hv, _, hg, _⟩
  · simp only [Value.slice.injEq] at hn
    rw [hn.1] at hk
    cases hk
  · simp only [Value.slice.injEq] at hv
    rw [hv.1] at hk
    simp only [iblk, Option.map_some, Option.some.injEq] at hk
    subst hk
    exact ⟨cur, hg⟩
theorem irow_vals {w : World} {base c : Nat} {A : Option Addr} {l : List Int} (h : IRowAt w base A c l) : IntsAt (fun _ => True) w A l ∧ (A = none → c = 0) := by
  obtain ⟨A', c', hv, _, _, h3, h4, _⟩ := ints_own (ok := fun _ => True) h.1 h.2 (fun _ _ => trivial)
  simp only [Value.slice.injEq, true_and] at hv
  obtain ⟨rfl, rfl⟩ := hv
  exact ⟨h3, h4⟩
theorem irow_nil (w : World) (base : Nat) : IRowAt w base none 0 [] := ⟨World.ownsRow_nil w base _ 1, fun x hx => (List.not_mem_nil hx).elim⟩
theorem irow_of {w : World} {base : Nat} {v : Value} {l : List Int} (h : w.ownsRow base 3 1 v l.length (intsC l)) (h0 : ∀ x ∈ l, I64 x) : ∃ A c, v = .slice A l.length c ∧ IRowAt w base A c l := by
  obtain ⟨A, c, rfl, _⟩ := ints_own (ok := fun _ => True) h h0 (fun _ _ => trivial)
  exact ⟨A, c, rfl, h, h0⟩
theorem irow_below {w w1 : World} {base c : Nat} {A : Option Addr} {l : List Int} (h : IRowAt w base A c l) (hb : Below w.heap.size w w1) : IRowAt w1 base A c l :=
  ⟨h.1.kept (gb_below (r := none) hb) (by cases hh : (Value.slice A l.length c).ownBlock <;> simp), h.2⟩
theorem irow_other {w w1 : World} {base c : Nat} {A : Option Addr} {l : List Int} (h : IRowAt w base A c l) {r : Option Nat} (hg : w.grownBy w1 r) (hr : ∀ k, iblk A = some k → some k ≠ r) : IRowAt w1 base A c l :=
  ⟨h.1.kept hg (by rw [iblk_own]; cases hh : iblk A with
    | none => exact .inl rfl
    | some k => exact .inr (hr k hh)), h.2⟩
theorem append_ints' {ok : Nat → Prop} {ops : Array Oper} {rest : List Oper} {o : Oper} {a : Act} {Q : Exit → Act → World → Prop} {w : World} (hgd : o.guard = none) (s x : Operand)
    (ho : o.op = .call { callee := .builtin .append, args := #[s, x], argTypes := #[70, 70] })
    (base : Nat) (A0 : Option Addr) (c0 : Nat) (xs : List Int) (hs : a.eval s = .slice A0 xs.length c0) (hr : IRowAt w base A0 c0 xs) (A : Option Addr) (c : Nat) (src : List Int) (hx : a.eval x = .slice A src.length c) (hA : A = none → c = 0)
    (hv : IntsAt ok w A src) (hlen : xs.length + src.length ≤ 1000) (hbase : base ≤ w.heap.size) (l' : List Int) (hl : xs ++ src = l')
    (h : ∀ A' c' w', IRowAt w' base A' c' l' → w.grownBy w' (iblk A0) → (iblk A' = iblk A0 ∨ iblk A' = some w.heap.size) → wpList Try.prog ops Q rest (a.put o.dst (.slice A' l'.length c')) w') : wpList Try.prog ops Q (o :: rest) a w := by
  subst hl
  refine append_ints hgd s x ho base _ xs hs hr.1 A c src hx hA hv hlen hbase ?_
  intro v' w' h1 h2 h3
  obtain ⟨A', c', rfl, hrow⟩ := irow_of h1 (fun x hx => by rcases List.mem_append.mp hx with hx | hx; exact hr.2 x hx; exact hv.1 x hx)
  rw [iblk_own] at h2 h3
  rw [iblk_own] at h3
  exact h A' c' w' hrow h2 h3
theorem ints_lit' (W : World) (v : Int) (hv : I64 v) (n : Nat) (hn : n = W.heap.size) : IntsAt (fun _ => True) (W.alloc (.cells #[.int .i64 v] 3)) (some ⟨n, 0, none⟩) [v] := by
  subst hn
  exact ints_mono (ints_lit W v hv) (fun _ _ _ => trivial)
theorem irow_empty (W : World) : IRowAt (W.alloc (.cells #[] 3)) W.heap.size (some ⟨W.heap.size, 0, none⟩) 0 [] :=
  ⟨World.ownsRow_made W #[] 0 (Nat.le_refl _) (Nat.zero_le _) rfl, fun x hx => (List.not_mem_nil hx).elim⟩
theorem step_append_ints {ops : Array Oper} {o : Oper} {a : Act} {w : World} {K : Act → World → Prop} {Q : Exit → Act → World → Prop} {E : Prop} (hg : o.guard = none) (s x : Operand)
    (ho : o.op = .call { callee := .builtin .append, args := #[s, x], argTypes := #[70, 70] })
    (base : Nat) (A0 : Option Addr) (c0 : Nat) (xs : List Int) (hs : a.eval s = .slice A0 xs.length c0) (hr : IRowAt w base A0 c0 xs) (A : Option Addr) (c : Nat) (src : List Int) (hx : a.eval x = .slice A src.length c) (hA : A = none → c = 0)
    (hv : IntsAt ok w A src) (hlen : xs.length + src.length ≤ 1000) (hbase : base ≤ w.heap.size) (l' : List Int) (hl : xs ++ src = l')
    (h : ∀ A' c' w', IRowAt w' base A' c' l' → w.grownBy w' (iblk A0) → K (a.put o.dst (.slice A' l'.length c')) w') :
    if Region.wanted o (yielded ops a.tmps) = true then Oper.wp Try.prog o a w K Q else E := by
  have hw : Region.wanted o (yielded ops a.tmps) = true := by simp [Region.wanted, hg]
  rw [if_pos hw]
  subst hl
  obtain ⟨i0, hi, hz0, hz1, hz2⟩ := info_parts Int_info
  cases A with
  | none =>
    obtain rfl := ints_none hv
    obtain rfl := hA rfl
    have hrun := run_append_owned_none (P := Try.prog) (w := w) base 70 o.type 3 i0 1 Try.underlying70 hi _ xs.length (intsC xs) hr.1
    have hx' : a.eval x = .slice none 0 0 := hx
    unfold Oper.wp
    simp [execOp, ho, resolve, invoke, builtin, hs, hx', hrun, Result.andThen]
    have := h A0 c0 w (by rw [List.append_nil]; exact hr) (gb_refl _ _)
    rw [List.append_nil] at this
    exact this
  | some b =>
    obtain ⟨v', w', hrun, h1, h2, _⟩ := run_append_own_at (P := Try.prog) w base 70 o.type 3 i0 (.int .i64 0) 1 8 Try.underlying70 hi hz0 hz1 hz2 rfl (by decide) _ xs.length (intsC xs) hr.1 b src.length c (intsC src) (by rw [intsC_len, Nat.mul_one]) (ints_cell hv) (intsC_one src) (by unfold maxLen; omega) (by omega) hbase
    unfold Oper.wp
    simp [execOp, ho, resolve, invoke, builtin, hs, hx, hrun, Result.andThen]
    obtain ⟨A', c', rfl, hrow⟩ := irow_of (l := xs ++ src) (by rw [List.length_append, intsC_append]; exact h1) (fun x hx => by rcases List.mem_append.mp hx with hx | hx; exact hr.2 x hx; exact hv.1 x hx)
    rw [iblk_own] at h2
    exact h A' c' w' hrow h2
theorem irow_at0 {W : World} {base n0 : Nat} (h : W.heap[n0]? = some (.cells #[] 3 (0, 0))) (hb : base ≤ n0) : IRowAt W base (some ⟨n0, 0, none⟩) 0 [] :=
  ⟨⟨rfl, .inr ⟨n0, 0, #[], rfl, hb, h, Nat.le_refl _, Nat.zero_le _, rfl, rfl⟩⟩, fun x hx => (List.not_mem_nil hx).elim⟩
theorem ints_at1 {W : World} {v : Int} {n0 : Nat} (hv : I64 v) (h : W.heap[n0]? = some (.cells #[.int .i64 v] 3 (0, 0))) : IntsAt (fun _ => True) W (some ⟨n0, 0, none⟩) [v] :=
  ⟨fun x hx => by rw [List.mem_singleton.mp hx]; exact hv, .inr ⟨n0, 0, _, rfl, h, fun j x hj => by
    cases j with
    | zero => (simp at hj; subst hj; rfl)
    | succ j => simp at hj, trivial⟩⟩
end Go.Proofs.Ytmmfadakhnagpaa
