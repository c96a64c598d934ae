
/-
  A new queue; appending values to a row of values; what a queue's calls do to its values.
-/
import Derived.Test.YtmmfadakhnagpaaObj5
import Derived.Test.YtmmfadakhnagpaaObj6
import Derived.Test.YtmmfadakhnagpaaSame
import Derived.Laws.AppendOwnNone
import Derived.Maps.AppendAt
namespace Go.Proofs.Ytmmfadakhnagpaa
open Go.RowKit
set_option linter.unusedSimpArgs false
set_option linter.unusedVariables false

theorem newQu (ok : Nat → Prop) (hok : ∀ k, ok k) (n : Int) (h0 : 1 ≤ n) (h1 : n ≤ 4) (w : World) : Calls Try.prog 18 #[.int .u8 3, .int .i64 n] w (NewAt (fun w p a => quAt ok w p a (n, [])) w) := by
  go_enter Try.func18, Try.ntmps18
  go_wp2
  go_ret
  exact ⟨w.heap.size + 1 + 1, w.heap.size + 1, rfl, ⟨(two_new w _ _ _).1, fun k _ => hok k, ⟨by dsimp only; omega, h1, by simp; omega⟩, none, 0, (two_new w _ _ _).2, Nat.le_refl _, fun _ => rfl, fun v hv => (List.not_mem_nil hv).elim, .inl ⟨rfl, rfl⟩⟩, (((Below.refl _ _).alloc (Nat.le_refl _) _).alloc (by simp) _).alloc (by simp; omega) _, by omega, by omega⟩

variable {ok : Nat → Prop}
theorem append_vals {ops : Array Oper} {rest : List Oper} {o : Oper} {a : Act} {Q : Exit → Act → World → Prop} {w : World} (hgd : o.guard = none) (s x : Operand)
    (ho : o.op = .call { callee := .builtin .append, args := #[s, x], argTypes := #[36, 36] })
    (base : Nat) (v : Value) (xs : List Int) (hs : a.eval s = v) (hown : w.ownsRow base 53 1 v xs.length (valsC xs)) (A : Option Addr) (c : Nat) (src : List Int) (hx : a.eval x = .slice A src.length c) (hA : A = none → c = 0)
    (hv : ValsAt ok w A src) (hlen : xs.length + src.length ≤ 1000) (hbase : base ≤ w.heap.size)
    (h : ∀ v' w', w'.ownsRow base 53 1 v' (xs ++ src).length (valsC (xs ++ src)) → w.grownBy w' v.ownBlock → (v'.ownBlock = v.ownBlock ∨ v'.ownBlock = some w.heap.size) → wpList Try.prog ops Q rest (a.put o.dst v') w') : wpList Try.prog ops Q (o :: rest) a w := by
  obtain ⟨i0, hi, hz0, hz1, hz2⟩ := info_parts Val_info
  cases A with
  | none =>
    obtain rfl := vals_none hv
    obtain rfl := hA rfl
    refine wpList_append_own_none hgd s x 36 ho base 53 i0 1 Try.underlying36 hi v xs.length (valsC xs) hs hown hx (h v w ?_ (gb_refl _ _) (.inl rfl))
    rw [List.append_nil]
    exact hown
  | some b =>
    refine wpList_append_own_at w hgd s x 36 ho base 53 i0 (.int .u64 0) 1 8 Try.underlying36 hi hz0 hz1 hz2 rfl (by decide) v xs.length (valsC xs) hs hown b src.length c (valsC src) hx (by rw [valsC_len, Nat.mul_one]) (vals_cell hv) (valsC_one src) (by unfold maxLen; omega) (by omega) hbase ?_
    intro v' w' h1 h2 _ h3
    exact h v' w' (by rw [List.length_append, valsC_append]; exact h1) h2 h3
theorem vals_lit (W : World) (v : Int) (hv : W64 v) : ValsAt (fun k => k = W.heap.size) (W.alloc (.cells #[.int .u64 v] 53)) (some ⟨W.heap.size, 0, none⟩) [v] :=
  ⟨fun x hx => by rw [List.mem_singleton.mp hx]; exact hv, .inr ⟨W.heap.size, 0, _, rfl, heap_alloc_new W _, fun j x hj => by
    cases j with
    | zero => (simp at hj; subst hj; rfl)
    | succ j => simp at hj, rfl⟩⟩

theorem quDo_ways (k who v n av ae : Int) (ab : Bool) (l : List Int) (s' : Int × List Int) (hl : ∀ x ∈ l, W64 x) (hr : quDo k who v (n, l) = ((av, ab, ae), s')) :
    (ab = true ∧ s' = (n, l)) ∨ (ab = false ∧ ae = 3 ∧ s' = (n, l)) ∨
    (k = 5 ∧ av = 4607182418800017408 ∧ ab = false ∧ ae = 0 ∧ s' = (n, l ++ [v]) ∧ (l.length : Int) < n) ∨
    (k = 6 ∧ ab = false ∧ ae = 0 ∧ ∃ l', l = av :: l' ∧ s' = (n, l') ∧ W64 av) := by
  unfold quDo badB at hr
  cases hb : (!quTk k || decide (who < 0) || decide (4 ≤ who) || !fitsB k v)
  · rw [hb] at hr
    simp only [cond_false] at hr
    unfold quStep at hr
    cases h6 : (k == 6)
    · cases h5 : (k == 5)
      · simp [h6, h5, aBlocks] at hr
        exact .inl ⟨hr.1.2.1, hr.2.symm⟩
      · cases hf : decide ((l.length : Int) < n)
        · have hf' := of_decide_eq_false hf
          simp [h6, h5, hf', aBlocks] at hr
          exact .inl ⟨hr.1.2.1, hr.2.symm⟩
        · have hf' := of_decide_eq_true hf
          simp [h6, h5, hf', aOne] at hr
          exact .inr (.inr (.inl ⟨by simpa using h5, hr.1.1.symm, hr.1.2.1, hr.1.2.2.symm, hr.2.symm, hf'⟩))
    · cases l with
      | nil =>
        have h5 : (k == 5) = false := by have : k = 6 := by simpa using h6
                                         subst this; rfl
        simp [h6, h5, aBlocks] at hr
        exact .inl ⟨hr.1.2.1, hr.2.symm⟩
      | cons x l =>
        simp [h6] at hr
        exact .inr (.inr (.inr ⟨by simpa using h6, hr.1.2.1, hr.1.2.2.symm, l, by rw [hr.1.1], hr.2.symm, by rw [← hr.1.1]; exact hl x (List.mem_cons_self ..)⟩))
  · rw [hb] at hr
    simp [aErr] at hr
    exact .inr (.inl ⟨hr.1.2.1, hr.1.2.2.symm, hr.2.symm⟩)

/-- A row of values that the law itself has made, as a slice. -/
def RowAt (w : World) (base : Nat) (A : Option Addr) (c : Nat) (l : List Int) : Prop := w.ownsRow base 53 1 (.slice A l.length c) l.length (valsC l) ∧ (∀ x ∈ l, W64 x)
def blk (A : Option Addr) : Option Nat := A.map (·.block)
theorem blk_own (A : Option Addr) (n c : Nat) : (Value.slice A n c).ownBlock = blk A := by cases A <;> rfl
theorem row_lt {w : World} {base c : Nat} {A : Option Addr} {l : List Int} (h : RowAt w base A c l) : ∀ k, blk A = some k → base ≤ k ∧ k < w.heap.size := by
  intro k hk
  exact h.1.lt k (by rw [blk_own]; exact hk)
theorem row_typed {w : World} {base c : Nat} {A : Option Addr} {l : List Int} (h : RowAt w base A c l) : ∀ k, blk A = some k → ∃ cs, w.heap[k]? = some (.cells cs 53 (0, 0)) := by
  intro k hk
  rcases h.1.2 with ⟨hn, _⟩ | ⟨g, cap, cur, hv, _, hg, _⟩
  · simp only [Value.slice.injEq] at hn
    rw [hn.1] at hk
    cases hk
  · simp only [Value.slice.injEq] at hv
    rw [hv.1] at hk
    simp only [blk, Option.map_some, Option.some.injEq] at hk
    subst hk
    exact ⟨cur, hg⟩
theorem row_vals {w : World} {base c : Nat} {A : Option Addr} {l : List Int} (h : RowAt w base A c l) : ValsAt (fun _ => True) w A l ∧ (A = none → c = 0) := by
  obtain ⟨A', c', hv, _, _, h3, h4, _⟩ := vals_own (ok := fun _ => True) h.1 h.2 (fun _ _ => trivial)
  simp only [Value.slice.injEq, true_and] at hv
  obtain ⟨rfl, rfl⟩ := hv
  exact ⟨h3, h4⟩
theorem row_nil (w : World) (base : Nat) : RowAt w base none 0 [] := ⟨World.ownsRow_nil w base _ 1, fun x hx => (List.not_mem_nil hx).elim⟩
theorem row_of {w : World} {base : Nat} {v : Value} {l : List Int} (h : w.ownsRow base 53 1 v l.length (valsC l)) (h0 : ∀ x ∈ l, W64 x) : ∃ A c, v = .slice A l.length c ∧ RowAt w base A c l := by
  obtain ⟨A, c, rfl, _⟩ := vals_own (ok := fun _ => True) h h0 (fun _ _ => trivial)
  exact ⟨A, c, rfl, h, h0⟩
theorem row_below {w w1 : World} {base c : Nat} {A : Option Addr} {l : List Int} (h : RowAt w base A c l) (hb : Below w.heap.size w w1) : RowAt w1 base A c l :=
  ⟨h.1.kept (gb_below (r := none) hb) (by cases hh : (Value.slice A l.length c).ownBlock <;> simp), h.2⟩
theorem row_other {w w1 : World} {base c : Nat} {A : Option Addr} {l : List Int} (h : RowAt w base A c l) {r : Option Nat} (hg : w.grownBy w1 r) (hr : ∀ k, blk A = some k → some k ≠ r) : RowAt w1 base A c l :=
  ⟨h.1.kept hg (by rw [blk_own]; cases hh : blk A with
    | none => exact .inl rfl
    | some k => exact .inr (hr k hh)), h.2⟩
/-- The queue and the two rows, apart from one another. -/
structure FlowMem (W : World) (n : Int) (p a : Nat) (inl outl vals : List Int) (Ai : Option Addr) (ci : Nat) (Ao : Option Addr) (co : Nat) (w : World) : Prop where
  q : quAt (fun k => some k ≠ blk Ai ∧ some k ≠ blk Ao) w p a (n, vals)
  i : RowAt w W.heap.size Ai ci inl
  o : RowAt w W.heap.size Ao co outl
  ne : ∀ k, blk Ai = some k → blk Ao ≠ some k
  b : Below W.heap.size W w
  hp : W.heap.size ≤ p
  ha : W.heap.size ≤ a
variable {W w w1 : World} {n : Int} {p a : Nat} {inl outl vals vals' src : List Int} {Ai Ao : Option Addr} {ci co : Nat}
theorem FlowMem.below (h : FlowMem W n p a inl outl vals Ai ci Ao co w) (hb : Below w.heap.size w w1) : FlowMem W n p a inl outl vals Ai ci Ao co w1 :=
  ⟨quAt_below h.q hb, row_below h.i hb, row_below h.o hb, h.ne, h.b.trans (hb.mono h.b.size), h.hp, h.ha⟩
theorem FlowMem.alloc (h : FlowMem W n p a inl outl vals Ai ci Ao co w) (o : Obj) : FlowMem W n p a inl outl vals Ai ci Ao co (w.alloc o) := h.below ((Below.refl _ _).alloc (Nat.le_refl _) o)
theorem FlowMem.done (h : FlowMem W n p a inl outl vals Ai ci Ao co w) (hq : quAt (fun k => some k ≠ blk Ai ∧ some k ≠ blk Ao) w1 p a (n, vals')) (hg : w.grownBy w1 (some a)) : FlowMem W n p a inl outl vals' Ai ci Ao co w1 := by
  obtain ⟨_, _, A, c, hh, _⟩ := h.q.2
  refine ⟨hq, row_other h.i hg fun k hk => ?_, row_other h.o hg fun k hk => ?_, h.ne, gb_to_below h.b h.b.size hg h.ha, h.hp, h.ha⟩
  · obtain ⟨cs, hc⟩ := row_typed h.i k hk
    simpa using hp_ne hc hh (by decide)
  · obtain ⟨cs, hc⟩ := row_typed h.o k hk
    simpa using hp_ne hc hh (by decide)
theorem quAt_row {ok ok' : Nat → Prop} {s : Int × List Int} {r : Option Nat} (h : quAt ok w p a s) (hg : w.grownBy w1 r) (hr : ∀ k, ok k → some k ≠ r) (hp : some p ≠ r) (ha : some a ≠ r) (hk : ∀ k, k < w.heap.size → ok k → ok' k) (hf : ∀ k, w1.heap.size ≤ k → ok' k) : quAt ok' w1 p a s := by
  obtain ⟨h1, h2, h3, A, c, h4, h5, h6, h7⟩ := h
  refine ⟨hp_grown h1 hg hp, hf, h3, A, c, hp_grown h4 hg ha, h5, h6, ?_⟩
  obtain ⟨k0, k | ⟨g, o, cells, k1, k2, k3, k4⟩⟩ := h7
  · exact ⟨k0, .inl k⟩
  · exact ⟨k0, .inr ⟨g, o, cells, k1, hp_grown k2 hg (hr g k4), k3, hk g (hp_lt k2) k4⟩⟩
theorem append_vals' {ok : Nat → Prop} {ops : Array Oper} {rest : List Oper} {o : Oper} {a : Act} {Q : Exit → Act → World → Prop} {w : World} (hgd : o.guard = none) (s x : Operand)
    (ho : o.op = .call { callee := .builtin .append, args := #[s, x], argTypes := #[36, 36] })
    (base : Nat) (A0 : Option Addr) (c0 : Nat) (xs : List Int) (hs : a.eval s = .slice A0 xs.length c0) (hr : RowAt w base A0 c0 xs) (A : Option Addr) (c : Nat) (src : List Int) (hx : a.eval x = .slice A src.length c) (hA : A = none → c = 0)
    (hv : ValsAt ok w A src) (hlen : xs.length + src.length ≤ 1000) (hbase : base ≤ w.heap.size) (l' : List Int) (hl : xs ++ src = l')
    (h : ∀ A' c' w', RowAt w' base A' c' l' → w.grownBy w' (blk A0) → (blk A' = blk A0 ∨ blk A' = some w.heap.size) → wpList Try.prog ops Q rest (a.put o.dst (.slice A' l'.length c')) w') : wpList Try.prog ops Q (o :: rest) a w := by
  subst hl
  refine append_vals hgd s x ho base _ xs hs hr.1 A c src hx hA hv hlen hbase ?_
  intro v' w' h1 h2 h3
  obtain ⟨A', c', rfl, hrow⟩ := row_of h1 (fun x hx => by rcases List.mem_append.mp hx with hx | hx; exact hr.2 x hx; exact hv.1 x hx)
  rw [blk_own] at h2 h3
  rw [blk_own] at h3
  exact h A' c' w' hrow h2 h3
theorem FlowMem.push (h : FlowMem W n p a inl outl vals Ai ci Ao co w) {l' : List Int} {Ai' : Option Addr} {ci' : Nat} (hr : RowAt w1 W.heap.size Ai' ci' l') (hg : w.grownBy w1 (blk Ai)) (hat : blk Ai' = blk Ai ∨ blk Ai' = some w.heap.size) :
    FlowMem W n p a l' outl vals Ai' ci' Ao co w1 := by
  obtain ⟨_, _, A, c, hh, _⟩ := h.q.2
  refine ⟨quAt_row h.q hg (fun k hk => hk.1) ?_ ?_ (fun k hk hok => ⟨?_, hok.2⟩) (fun k hk => ⟨?_, ?_⟩), hr, row_other h.o hg (fun k hk e => h.ne k e.symm hk), fun k hk e => ?_, h.b.grown hg h.b.size (fun k hk => (row_lt h.i k hk).1), h.hp, h.ha⟩
  · intro e
    obtain ⟨cs, hc⟩ := row_typed h.i p e.symm
    exact hp_ne hc h.q.1 (by decide) rfl
  · intro e
    obtain ⟨cs, hc⟩ := row_typed h.i a e.symm
    exact hp_ne hc hh (by decide) rfl
  · rcases hat with e | e <;> rw [e]
    · exact hok.1
    · simp; omega
  · intro e
    have := (row_lt hr k e.symm).2
    omega
  · intro e
    have := (row_lt h.o k e.symm).2
    have := hg.size
    omega
  · rcases hat with e1 | e1
    · exact h.ne k (by rw [← e1]; exact hk) e
    · rw [e1] at hk
      have := (row_lt h.o k e).2
      simp at hk
      omega
theorem vals_lit' (W : World) (v : Int) (hv : W64 v) (n : Nat) (hn : n = W.heap.size) : ValsAt (fun _ => True) (W.alloc (.cells #[.int .u64 v] 53)) (some ⟨n, 0, none⟩) [v] := by
  subst hn
  exact vals_mono (vals_lit W v hv) (fun _ _ _ => trivial)
theorem row_empty (W : World) : RowAt (W.alloc (.cells #[] 53)) W.heap.size (some ⟨W.heap.size, 0, none⟩) 0 [] :=
  ⟨World.ownsRow_made W #[] 0 (Nat.le_refl _) (Nat.zero_le _) rfl, fun x hx => (List.not_mem_nil hx).elim⟩
theorem FlowMem.swap (h : FlowMem W n p a inl outl vals Ai ci Ao co w) : FlowMem W n p a outl inl vals Ao co Ai ci w := by
  refine ⟨quAt_row (r := none) h.q (gb_refl _ _) (fun _ _ => by simp) (by simp) (by simp) (fun k _ hk => ⟨hk.2, hk.1⟩) (fun k hk => ⟨?_, ?_⟩), h.o, h.i, fun k hk e => h.ne k e hk, h.b, h.hp, h.ha⟩
  · intro e
    have := (row_lt h.o k e.symm).2
    omega
  · intro e
    have := (row_lt h.i k e.symm).2
    omega
end Go.Proofs.Ytmmfadakhnagpaa
