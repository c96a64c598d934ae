
/-
  Rows of values that a law makes itself: append to them, as a step of a list of operations and as a step of a region that draws its order.
-/
import Derived.Test.YtcjkpeojjonpiaaVals
import Derived.Laws.AppendOwnNone
import Derived.Maps.AppendAt
import Derived.Deep.RegionLaw
namespace Go.Proofs.Ytcjkpeojjonpiaa
open Go.RowKit
set_option linter.unusedSimpArgs false
set_option linter.unusedVariables false
variable {ok : Nat → Prop}

theorem append_vals {ops : Array Oper} {rest : List Oper} {o : Oper} {a : Act} {Q : Exit → Act → World → Prop} {w : World} (hgd : o.guard = none) (s x : Operand)
    (ho : o.op = .call { callee := .builtin .append, args := #[s, x], argTypes := #[47, 47] })
    (base : Nat) (v : Value) (xs : List Int) (hs : a.eval s = v) (hown : w.ownsRow base 25 1 v xs.length (valsC xs)) (A : Option Addr) (c : Nat) (src : List Int) (hx : a.eval x = .slice A src.length c) (hA : A = none → c = 0)
    (hv : ValsAt ok w A src) (hlen : xs.length + src.length ≤ 1000) (hbase : base ≤ w.heap.size)
    (h : ∀ v' w', w'.ownsRow base 25 1 v' (xs ++ src).length (valsC (xs ++ src)) → w.grownBy w' v.ownBlock → (v'.ownBlock = v.ownBlock ∨ v'.ownBlock = some w.heap.size) → wpList Try.prog ops Q rest (a.put o.dst v') w') : wpList Try.prog ops Q (o :: rest) a w := by
  obtain ⟨i0, hi, hz0, hz1, hz2⟩ := info_parts Val_info
  cases A with
  | none =>
    obtain rfl := vals_none hv
    obtain rfl := hA rfl
    refine wpList_append_own_none hgd s x 47 ho base 25 i0 1 Try.underlying47 hi v xs.length (valsC xs) hs hown hx (h v w ?_ (gb_refl _ _) (.inl rfl))
    rw [List.append_nil]
    exact hown
  | some b =>
    refine wpList_append_own_at w hgd s x 47 ho base 25 i0 (.int .u64 0) 1 8 Try.underlying47 hi hz0 hz1 hz2 rfl (by decide) v xs.length (valsC xs) hs hown b src.length c (valsC src) hx (by rw [valsC_len, Nat.mul_one]) (vals_cell hv) (valsC_one src) (by unfold maxLen; omega) (by omega) hbase ?_
    intro v' w' h1 h2 _ h3
    exact h v' w' (by rw [List.length_append, valsC_append]; exact h1) h2 h3
theorem vals_lit (W : World) (v : Int) (hv : W64 v) : ValsAt (fun k => k = W.heap.size) (W.alloc (.cells #[.int .u64 v] 25)) (some ⟨W.heap.size, 0, none⟩) [v] :=
  ⟨fun x hx => by rw [List.mem_singleton.mp hx]; exact hv, .inr ⟨W.heap.size, 0, _, rfl, heap_alloc_new W _, fun j x hj => by
    cases j with
    | zero => (simp at hj; subst hj; rfl)
    | succ j => simp at hj, rfl⟩⟩

/-- A row of values that the law itself has made, as a slice. -/
def RowAt (w : World) (base : Nat) (A : Option Addr) (c : Nat) (l : List Int) : Prop := w.ownsRow base 25 1 (.slice A l.length c) l.length (valsC l) ∧ (∀ x ∈ l, W64 x)
def blk (A : Option Addr) : Option Nat := A.map (·.block)
theorem blk_own (A : Option Addr) (n c : Nat) : (Value.slice A n c).ownBlock = blk A := by cases A <;> rfl
theorem row_lt {w : World} {base c : Nat} {A : Option Addr} {l : List Int} (h : RowAt w base A c l) : ∀ k, blk A = some k → base ≤ k ∧ k < w.heap.size := by
  intro k hk
  exact h.1.lt k (by rw [blk_own]; exact hk)
theorem row_typed {w : World} {base c : Nat} {A : Option Addr} {l : List Int} (h : RowAt w base A c l) : ∀ k, blk A = some k → ∃ cs, w.heap[k]? = some (.cells cs 25 (0, 0)) := by
  intro k hk
  rcases h.1.2 with ⟨hn, _⟩ | ⟨g, cap, cur, hv, _, hg, _⟩
  · simp only [Value.slice.injEq] at hn
    rw [hn.1] at hk
    cases hk
  · simp only [Value.slice.injEq] at hv
    rw [hv.1] at hk
    simp only [blk, Option.map_some, Option.some.injEq] at hk
    subst hk
    exact ⟨cur, hg⟩
theorem row_vals {w : World} {base c : Nat} {A : Option Addr} {l : List Int} (h : RowAt w base A c l) : ValsAt (fun _ => True) w A l ∧ (A = none → c = 0) := by
  obtain ⟨A', c', hv, _, _, h3, h4, _⟩ := vals_own (ok := fun _ => True) h.1 h.2 (fun _ _ => trivial)
  simp only [Value.slice.injEq, true_and] at hv
  obtain ⟨rfl, rfl⟩ := hv
  exact ⟨h3, h4⟩
theorem row_nil (w : World) (base : Nat) : RowAt w base none 0 [] := ⟨World.ownsRow_nil w base _ 1, fun x hx => (List.not_mem_nil hx).elim⟩
theorem row_of {w : World} {base : Nat} {v : Value} {l : List Int} (h : w.ownsRow base 25 1 v l.length (valsC l)) (h0 : ∀ x ∈ l, W64 x) : ∃ A c, v = .slice A l.length c ∧ RowAt w base A c l := by
  obtain ⟨A, c, rfl, _⟩ := vals_own (ok := fun _ => True) h h0 (fun _ _ => trivial)
  exact ⟨A, c, rfl, h, h0⟩
theorem row_below {w w1 : World} {base c : Nat} {A : Option Addr} {l : List Int} (h : RowAt w base A c l) (hb : Below w.heap.size w w1) : RowAt w1 base A c l :=
  ⟨h.1.kept (gb_below (r := none) hb) (by cases hh : (Value.slice A l.length c).ownBlock <;> simp), h.2⟩
theorem row_other {w w1 : World} {base c : Nat} {A : Option Addr} {l : List Int} (h : RowAt w base A c l) {r : Option Nat} (hg : w.grownBy w1 r) (hr : ∀ k, blk A = some k → some k ≠ r) : RowAt w1 base A c l :=
  ⟨h.1.kept hg (by rw [blk_own]; cases hh : blk A with
    | none => exact .inl rfl
    | some k => exact .inr (hr k hh)), h.2⟩
theorem append_vals' {ok : Nat → Prop} {ops : Array Oper} {rest : List Oper} {o : Oper} {a : Act} {Q : Exit → Act → World → Prop} {w : World} (hgd : o.guard = none) (s x : Operand)
    (ho : o.op = .call { callee := .builtin .append, args := #[s, x], argTypes := #[47, 47] })
    (base : Nat) (A0 : Option Addr) (c0 : Nat) (xs : List Int) (hs : a.eval s = .slice A0 xs.length c0) (hr : RowAt w base A0 c0 xs) (A : Option Addr) (c : Nat) (src : List Int) (hx : a.eval x = .slice A src.length c) (hA : A = none → c = 0)
    (hv : ValsAt ok w A src) (hlen : xs.length + src.length ≤ 1000) (hbase : base ≤ w.heap.size) (l' : List Int) (hl : xs ++ src = l')
    (h : ∀ A' c' w', RowAt w' base A' c' l' → w.grownBy w' (blk A0) → (blk A' = blk A0 ∨ blk A' = some w.heap.size) → wpList Try.prog ops Q rest (a.put o.dst (.slice A' l'.length c')) w') : wpList Try.prog ops Q (o :: rest) a w := by
  subst hl
  refine append_vals hgd s x ho base _ xs hs hr.1 A c src hx hA hv hlen hbase ?_
  intro v' w' h1 h2 h3
  obtain ⟨A', c', rfl, hrow⟩ := row_of h1 (fun x hx => by rcases List.mem_append.mp hx with hx | hx; exact hr.2 x hx; exact hv.1 x hx)
  rw [blk_own] at h2 h3
  rw [blk_own] at h3
  exact h A' c' w' hrow h2 h3
theorem vals_lit' (W : World) (v : Int) (hv : W64 v) (n : Nat) (hn : n = W.heap.size) : ValsAt (fun _ => True) (W.alloc (.cells #[.int .u64 v] 25)) (some ⟨n, 0, none⟩) [v] := by
  subst hn
  exact vals_mono (vals_lit W v hv) (fun _ _ _ => trivial)
theorem row_empty (W : World) : RowAt (W.alloc (.cells #[] 25)) W.heap.size (some ⟨W.heap.size, 0, none⟩) 0 [] :=
  ⟨World.ownsRow_made W #[] 0 (Nat.le_refl _) (Nat.zero_le _) rfl, fun x hx => (List.not_mem_nil hx).elim⟩
theorem step_append_vals {ops : Array Oper} {o : Oper} {a : Act} {w : World} {K : Act → World → Prop} {Q : Exit → Act → World → Prop} {E : Prop} (hg : o.guard = none) (s x : Operand)
    (ho : o.op = .call { callee := .builtin .append, args := #[s, x], argTypes := #[47, 47] })
    (base : Nat) (A0 : Option Addr) (c0 : Nat) (xs : List Int) (hs : a.eval s = .slice A0 xs.length c0) (hr : RowAt w base A0 c0 xs) (A : Option Addr) (c : Nat) (src : List Int) (hx : a.eval x = .slice A src.length c) (hA : A = none → c = 0)
    (hv : ValsAt ok w A src) (hlen : xs.length + src.length ≤ 1000) (hbase : base ≤ w.heap.size) (l' : List Int) (hl : xs ++ src = l')
    (h : ∀ A' c' w', RowAt w' base A' c' l' → w.grownBy w' (blk A0) → K (a.put o.dst (.slice A' l'.length c')) w') :
    if Region.wanted o (yielded ops a.tmps) = true then Oper.wp Try.prog o a w K Q else E := by
  have hw : Region.wanted o (yielded ops a.tmps) = true := by simp [Region.wanted, hg]
  rw [if_pos hw]
  subst hl
  obtain ⟨i0, hi, hz0, hz1, hz2⟩ := info_parts Val_info
  cases A with
  | none =>
    obtain rfl := vals_none hv
    obtain rfl := hA rfl
    have hrun := run_append_owned_none (P := Try.prog) (w := w) base 47 o.type 25 i0 1 Try.underlying47 hi _ xs.length (valsC xs) hr.1
    have hx' : a.eval x = .slice none 0 0 := hx
    unfold Oper.wp
    simp [execOp, ho, resolve, invoke, builtin, hs, hx', hrun, Result.andThen]
    have := h A0 c0 w (by rw [List.append_nil]; exact hr) (gb_refl _ _)
    rw [List.append_nil] at this
    exact this
  | some b =>
    obtain ⟨v', w', hrun, h1, h2, _⟩ := run_append_own_at (P := Try.prog) w base 47 o.type 25 i0 (.int .u64 0) 1 8 Try.underlying47 hi hz0 hz1 hz2 rfl (by decide) _ xs.length (valsC xs) hr.1 b src.length c (valsC src) (by rw [valsC_len, Nat.mul_one]) (vals_cell hv) (valsC_one src) (by unfold maxLen; omega) (by omega) hbase
    unfold Oper.wp
    simp [execOp, ho, resolve, invoke, builtin, hs, hx, hrun, Result.andThen]
    obtain ⟨A', c', rfl, hrow⟩ := row_of (l := xs ++ src) (by rw [List.length_append, valsC_append]; exact h1) (fun x hx => by rcases List.mem_append.mp hx with hx | hx; exact hr.2 x hx; exact hv.1 x hx)
    rw [blk_own] at h2
    exact h A' c' w' hrow h2
theorem row_at0 {W : World} {base n0 : Nat} (h : W.heap[n0]? = some (.cells #[] 25 (0, 0))) (hb : base ≤ n0) : RowAt W base (some ⟨n0, 0, none⟩) 0 [] :=
  ⟨⟨rfl, .inr ⟨n0, 0, #[], rfl, hb, h, Nat.le_refl _, Nat.zero_le _, rfl, rfl⟩⟩, fun x hx => (List.not_mem_nil hx).elim⟩
theorem vals_at1 {W : World} {v : Int} {n0 : Nat} (hv : W64 v) (h : W.heap[n0]? = some (.cells #[.int .u64 v] 25 (0, 0))) : ValsAt (fun _ => True) W (some ⟨n0, 0, none⟩) [v] :=
  ⟨fun x hx => by rw [List.mem_singleton.mp hx]; exact hv, .inr ⟨n0, 0, _, rfl, h, fun j x hj => by
    cases j with
    | zero => (simp at hj; subst hj; rfl)
    | succ j => simp at hj, trivial⟩⟩
end Go.Proofs.Ytcjkpeojjonpiaa
