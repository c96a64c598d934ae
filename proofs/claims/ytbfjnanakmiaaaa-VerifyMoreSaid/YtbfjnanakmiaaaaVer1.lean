
/-
  verify: the scan of brackets: its model, its state in memory, stack.top, pop, push, scan.fail, bracket.
-/
import Derived.Test.YtbfjnanakmiaaaaCode2
import Derived.RegionTactic
import Derived.ChangeAlike
import Derived.BigRegion
import Derived.Deep.RegionLaw
import Derived.Deep.RegionHeld3
import Derived.Deep.CutBlock
import Derived.ChangeSlices
import Derived.WalkSpells
namespace Go.Proofs.Ytbfjnanakmiaaaa
open Go.RowKit Go.ChangeShapes Go.WideShapes
set_option linter.unusedSimpArgs false
set_option linter.unusedVariables false
variable {ok : Nat → Prop}

theorem append_stk {ops : Array Oper} {rest : List Oper} {o : Oper} {a : Act} {Q : Exit → Act → World → Prop} {w : World} (hgd : o.guard = none) (s x : Operand)
    (ho : o.op = .call { callee := .builtin .append, args := #[s, x], argTypes := #[59, 59] })
    (base : Nat) (v : Value) (xs : List Int) (hs : a.eval s = v) (hown : w.ownsRow base 3 1 v xs.length (intsC xs)) (A : Option Addr) (c : Nat) (src : List Int) (hx : a.eval x = .slice A src.length c) (hA : A = none → c = 0)
    (hv : IntsAt ok w A src) (hlen : xs.length + src.length ≤ 1000) (hbase : base ≤ w.heap.size)
    (h : ∀ v' w', w'.ownsRow base 3 1 v' (xs ++ src).length (intsC (xs ++ src)) → w.grownBy w' v.ownBlock → (v'.ownBlock = v.ownBlock ∨ v'.ownBlock = some w.heap.size) → wpList Try.prog ops Q rest (a.put o.dst v') w') : wpList Try.prog ops Q (o :: rest) a w := by
  obtain ⟨i0, hi, hz0, hz1, hz2⟩ := info_parts Int_info
  cases A with
  | none =>
    obtain rfl := ints_none hv
    obtain rfl := hA rfl
    refine wpList_append_own_none hgd s x 59 ho base 3 i0 1 Try.underlying59 hi v xs.length (intsC xs) hs hown hx (h v w ?_ (gb_refl _ _) (.inl rfl))
    rw [List.append_nil]
    exact hown
  | some b =>
    refine wpList_append_own_at w hgd s x 59 ho base 3 i0 (.int .i64 0) 1 8 Try.underlying59 hi hz0 hz1 hz2 rfl (by decide) v xs.length (intsC xs) hs hown b src.length c (intsC src) hx (by rw [intsC_len, Nat.mul_one]) (ints_cell hv) (intsC_one src) (by unfold maxLen; omega) (by omega) hbase ?_
    intro v' w' h1 h2 _ h3
    exact h v' w' (by rw [List.length_append, intsC_append]; exact h1) h2 h3
theorem append_stk' {ok : Nat → Prop} {ops : Array Oper} {rest : List Oper} {o : Oper} {a : Act} {Q : Exit → Act → World → Prop} {w : World} (hgd : o.guard = none) (s x : Operand)
    (ho : o.op = .call { callee := .builtin .append, args := #[s, x], argTypes := #[59, 59] })
    (base : Nat) (A0 : Option Addr) (c0 : Nat) (xs : List Int) (hs : a.eval s = .slice A0 xs.length c0) (hr : IRowAt w base A0 c0 xs) (A : Option Addr) (c : Nat) (src : List Int) (hx : a.eval x = .slice A src.length c) (hA : A = none → c = 0)
    (hv : IntsAt ok w A src) (hlen : xs.length + src.length ≤ 1000) (hbase : base ≤ w.heap.size) (l' : List Int) (hl : xs ++ src = l')
    (h : ∀ A' c' w', IRowAt w' base A' c' l' → w.grownBy w' (iblk A0) → (iblk A' = iblk A0 ∨ iblk A' = some w.heap.size) → wpList Try.prog ops Q rest (a.put o.dst (.slice A' l'.length c')) w') : wpList Try.prog ops Q (o :: rest) a w := by
  subst hl
  refine append_stk hgd s x ho base _ xs hs hr.1 A c src hx hA hv hlen hbase ?_
  intro v' w' h1 h2 h3
  obtain ⟨A', c', rfl, hrow⟩ := irow_of h1 (fun x hx => by rcases List.mem_append.mp hx with hx | hx; exact hr.2 x hx; exact hv.1 x hx)
  rw [iblk_own] at h2 h3
  rw [iblk_own] at h3
  exact h A' c' w' hrow h2 h3

def okI (k : Nat) : Prop := True
def iat (l : List Int) (j : Nat) : Int := (l[j]?).getD 0
theorem iat_get {l : List Int} {j : Nat} (h : j < l.length) : l[j]? = some (iat l j) := by unfold iat; rw [List.getElem?_eq_getElem h]; rfl
def topF (l : List Int) : Int := match l.length with | 0 => -1 | n + 1 => iat l n
theorem topF_nil : topF [] = -1 := rfl
theorem topF_succ {l : List Int} {n : Nat} (h : l.length = n + 1) : topF l = iat l n := by unfold topF; rw [h]
def failF (w i : Int) : Int := bif w == -1 then i else bif decide (i < w) then i else w
def wantF (op : Int) : Int := bif op == 22 then 21 else bif op == 24 then 23 else bif op == 25 then 24 else 0
def isF (op : Int) : Bool := op == 22 || op == 24 || op == 25
theorem hp_put41 {w : World} {g : Nat} {t : TypeId} {a b c d : Value} (h : w.heap[g]? = some (.cells #[a, b, c, d] t (0, 0))) (u : Value) : (w.setCell ⟨g, 1, none⟩ u).heap[g]? = some (.cells #[a, u, c, d] t (0, 0)) := hp_put h 1 u rfl
theorem hp_put42 {w : World} {g : Nat} {t : TypeId} {a b c d : Value} (h : w.heap[g]? = some (.cells #[a, b, c, d] t (0, 0))) (u : Value) : (w.setCell ⟨g, 2, none⟩ u).heap[g]? = some (.cells #[a, b, u, d] t (0, 0)) := hp_put h 2 u rfl
theorem hp_put43 {w : World} {g : Nat} {t : TypeId} {a b c d : Value} (h : w.heap[g]? = some (.cells #[a, b, c, d] t (0, 0))) (u : Value) : (w.setCell ⟨g, 3, none⟩ u).heap[g]? = some (.cells #[a, b, c, u] t (0, 0)) := hp_put h 3 u rfl
theorem irow_far {w : World} {base c r : Nat} {A : Option Addr} {l : List Int} {cs : Array Value} {t : TypeId} (h : IRowAt w base A c l) (hr : w.heap[r]? = some (.cells cs t (0, 0))) (ht : t ≠ 3) (j : Nat) (u : Value) : IRowAt (w.setCell ⟨r, j, none⟩ u) base A c l :=
  irow_other h (gb_set (gb_refl w (some r)) j u) (fun k hk => by
    obtain ⟨cs', h'⟩ := irow_typed h k hk
    have := hp_ne h' hr ht.symm
    simpa using this)
/-- The scan in block p: the law's input W; the instructions' slice; the rows ins and opn. -/
def ScX (W w : World) (p : Nat) (A : Option Addr) (n c : Nat) (Ai : Option Addr) (ci : Nat) (Ao : Option Addr) (co : Nat) (ins opn : List Int) (wr : Int) : Prop :=
  w.heap[p]? = some (.cells #[.slice A n c, .slice Ai ins.length ci, .slice Ao opn.length co, .int .i64 wr] 61 (0, 0)) ∧ IRowAt w W.heap.size Ai ci ins ∧ IRowAt w W.heap.size Ao co opn ∧ (∀ k, iblk Ai = some k → iblk Ao ≠ some k) ∧ Below W.heap.size W w ∧ W.heap.size ≤ p
section
variable {W w w1 : World} {p n c ci co : Nat} {A Ai Ao : Option Addr} {ins opn : List Int} {wr : Int}
theorem ScX.below (h : ScX W w p A n c Ai ci Ao co ins opn wr) (hb : Below w.heap.size w w1) : ScX W w1 p A n c Ai ci Ao co ins opn wr :=
  ⟨hp_below h.1 hb, irow_below h.2.1 hb, irow_below h.2.2.1 hb, h.2.2.2.1, h.2.2.2.2.1.trans (hb.mono h.2.2.2.2.1.size), h.2.2.2.2.2⟩
theorem ScX.alloc (h : ScX W w p A n c Ai ci Ao co ins opn wr) (o : Obj) : ScX W (w.alloc o) p A n c Ai ci Ao co ins opn wr := h.below ((Below.refl _ _).alloc (Nat.le_refl _) o)
theorem ScX.drew (h : ScX W w p A n c Ai ci Ao co ins opn wr) : ScX W w.drew p A n c Ai ci Ao co ins opn wr := h.below ⟨rfl, rfl, rfl, Nat.le_refl _, fun _ _ => rfl⟩
theorem ScX.wrong (h : ScX W w p A n c Ai ci Ao co ins opn wr) (x : Int) : ScX W (w.setCell ⟨p, 3, none⟩ (.int .i64 x)) p A n c Ai ci Ao co ins opn x :=
  ⟨hp_put43 h.1 _, irow_far h.2.1 h.1 (by decide) 3 _, irow_far h.2.2.1 h.1 (by decide) 3 _, h.2.2.2.1, bl_new h.2.2.2.2.1 h.2.2.2.2.2 _, h.2.2.2.2.2⟩
theorem ScX.cells (h : ScX W w p A n c Ai ci Ao co ins opn wr) : w.cell? ⟨p, 0, none⟩ = some (.slice A n c) ∧ w.cell? ⟨p, 1, none⟩ = some (.slice Ai ins.length ci) ∧ w.cell? ⟨p, 2, none⟩ = some (.slice Ao opn.length co) ∧ w.cell? ⟨p, 3, none⟩ = some (.int .i64 wr) ∧ w.frozen? ⟨p, 1, none⟩ = false ∧ w.frozen? ⟨p, 2, none⟩ = false ∧ w.frozen? ⟨p, 3, none⟩ = false ∧ p < w.heap.size :=
  ⟨hp_cell h.1 0, hp_cell h.1 1, hp_cell h.1 2, hp_cell h.1 3, hp_frozen h.1 1, hp_frozen h.1 2, hp_frozen h.1 3, hp_lt h.1⟩
theorem irow_cap {w : World} {base c : Nat} {A : Option Addr} {l : List Int} (h : IRowAt w base A c l) : l.length ≤ c ∧ (A = none → c = 0) ∧ IntsAt okI w A l := by
  obtain ⟨A', c', hv, h2, _, h3, h4, _⟩ := ints_own (ok := okI) h.1 h.2 (fun _ _ => trivial)
  simp only [Value.slice.injEq, true_and] at hv
  obtain ⟨rfl, rfl⟩ := hv
  exact ⟨h2, h4, h3⟩
theorem irow_pop {w : World} {base c n : Nat} {A : Option Addr} {l : List Int} (h : IRowAt w base A c l) (hn : l.length = n + 1) : IRowAt w base A c l.dropLast := by
  refine ⟨?_, fun x hx => h.2 x (List.dropLast_subset l hx)⟩
  have hl : l.dropLast.length = n := by rw [List.length_dropLast]; omega
  obtain ⟨h1, h2⟩ := h.1
  refine ⟨by rw [intsC_len]; omega, ?_⟩
  rcases h2 with ⟨hv, h0⟩ | ⟨g, cap, cur, hv, hb, hg, hcap, hm, hs, ht⟩
  · omega
  · simp only [Value.slice.injEq] at hv
    obtain ⟨e1, _, e3⟩ := hv
    refine .inr ⟨g, cap, cur, by rw [e1, ← e3], hb, hg, by omega, hm, hs, ?_⟩
    have e : intsC l.dropLast = (intsC l).take n := by
      unfold intsC
      rw [List.dropLast_eq_take, ← List.map_take, hn]
      rfl
    rw [e, ← ht, List.take_take]
    congr 1
    simp
    omega
theorem ScX.pop {n' : Nat} (h : ScX W w p A n c Ai ci Ao co ins opn wr) (hn : opn.length = n' + 1) : ScX W (w.setCell ⟨p, 2, none⟩ (.slice Ao n' co)) p A n c Ai ci Ao co ins opn.dropLast wr := by
  have e : n' = opn.dropLast.length := by rw [List.length_dropLast]; omega
  rw [e]
  exact ⟨hp_put42 h.1 _, irow_far h.2.1 h.1 (by decide) 2 _, irow_far (irow_pop h.2.2.1 hn) h.1 (by decide) 2 _, h.2.2.2.1, bl_new h.2.2.2.2.1 h.2.2.2.2.2 _, h.2.2.2.2.2⟩
/-- Behind an append to the row of the open ones, not stored yet. -/
theorem ScX.push {w2 : World} {cs : Array Value} {t : TypeId} {A2 : Option Addr} {c2 : Nat} {o2 : List Int} (h : ScX W w p A n c Ai ci Ao co ins opn wr) (hr : IRowAt w2 W.heap.size A2 c2 o2) (hg : (w.alloc (.cells cs t)).grownBy w2 (iblk Ao)) (hat : iblk A2 = iblk Ao ∨ iblk A2 = some (w.alloc (.cells cs t)).heap.size) :
    ScX W (w2.setCell ⟨p, 2, none⟩ (.slice A2 o2.length c2)) p A n c Ai ci A2 c2 ins o2 wr ∧ w2.heap[p]? = some (.cells #[.slice A n c, .slice Ai ins.length ci, .slice Ao opn.length co, .int .i64 wr] 61 (0, 0)) := by
  have h' := h.alloc (.cells cs t)
  obtain ⟨h1, h2, h3, h4, h5, h6⟩ := h'
  have hp : w2.heap[p]? = some (.cells #[.slice A n c, .slice Ai ins.length ci, .slice Ao opn.length co, .int .i64 wr] 61 (0, 0)) := hp_grown h1 hg (by
    intro e
    obtain ⟨cs', hk⟩ := irow_typed h3 p e.symm
    rw [h1] at hk
    simp at hk)
  have hi : IRowAt w2 W.heap.size Ai ci ins := irow_other h2 hg (fun k hk e => h4 k hk e.symm)
  refine ⟨⟨hp_put42 hp _, irow_far hi hp (by decide) 2 _, irow_far hr hp (by decide) 2 _, ?_, bl_new (h5.grown hg h5.size (fun k hk => (irow_lt h3 k hk).1)) h6 _, h6⟩, hp⟩
  intro k hk e
  rcases hat with hat | hat
  · exact h4 k hk (hat ▸ e)
  · rw [hat] at e
    have := (irow_lt h2 k hk).2
    simp at e
    simp at this
    omega
end
theorem top_any (A : Option Addr) (c : Nat) (l : List Int) (hl : l.length ≤ 1000) (w : World) (h : IntsAt ok w A l) : Calls Try.prog 25 #[.slice A l.length c, .int .i64 (-1)] w fun e w' => e = .returned (.int .i64 (topF l)) ∧ w = w' := by
  have HI := Lib.hid h
  clear h
  obtain ⟨n, hn⟩ : ∃ n, l.length = n := ⟨_, rfl⟩
  rw [hn]
  cases n with
  | zero =>
    have e : topF l = -1 := by unfold topF; rw [hn]
    rw [e]
    go_enter Try.func25, Try.ntmps25
    go_wp2
    go_ret
    exact ⟨rfl, rfl⟩
  | succ n =>
    rw [topF_succ hn]
    cases A with
    | none => have := ints_none HI.out; subst this; simp at hn
    | some b =>
      have hc : w.cell? (b.add n) = some (.int .i64 (iat l n)) := ints_cell HI.out n _ (by rw [intsC_get, iat_get (by omega)]; rfl)
      have k1 : (((n + 1 : Nat) : Int) == 0) = false := beq_eq_false_iff_ne.2 (by omega)
      have kw : wrap64 (n : Int) = (n : Int) := by unfold wrap64; omega
      have hn' := Lib.hid hn
      clear hn
      go_enter Try.func25, Try.ntmps25
      go_wp2
      go_ret
      exact ⟨rfl, rfl⟩
theorem bracket_any (op : Int) (w : World) : Calls Try.prog 29 #[.int .u8 op] w fun e w' => e = .returned (.tuple #[.int .u8 (wantF op), .bool (isF op)]) ∧ w = w' := by
  unfold wantF isF
  have hc : (op == 22) = true ∨ ((op == 22) = false ∧ (op == 24) = true) ∨ ((op == 22) = false ∧ (op == 24) = false ∧ ((op == 25) = true ∨ (op == 25) = false)) := by
    cases (op == 22) <;> cases (op == 24) <;> cases (op == 25) <;> simp
  rcases hc with h1 | ⟨h1, h2⟩ | ⟨h1, h2, h3 | h3⟩
  all_goals
    go_enter Try.func29, Try.ntmps29
    go_wp2
    go_ret2
    exact ⟨by simp [*], rfl⟩
section
variable {W w w1 : World} {p n c ci co : Nat} {A Ai Ao : Option Addr} {ins opn : List Int} {wr : Int}
theorem fail_any (i : Int) (h : ScX W w p A n c Ai ci Ao co ins opn wr) : Calls Try.prog 30 #[.pointer (some ⟨p, 0, none⟩), .int .i64 i] w fun e w' => e = .returned (.tuple #[]) ∧ ScX W w' p A n c Ai ci Ao co ins opn (failF wr i) := by
  have HX := Lib.hid h
  obtain ⟨_, _, _, y3, _, _, z3, lp⟩ := h.cells
  clear h
  unfold failF
  have hc : (wr == -1) = true ∨ ((wr == -1) = false ∧ (decide (i < wr) = true ∨ decide (i < wr) = false)) := by
    cases (wr == -1) <;> cases decide (i < wr) <;> simp
  rcases hc with h1 | ⟨h1, h2 | h2⟩
  · go_enter Try.func30, Try.ntmps30
    go_wp2_with fail
    go_end0
    exact ⟨rfl, by rw [h1]; exact HX.out.wrong i⟩
  · go_enter Try.func30, Try.ntmps30
    go_wp2_with fail
    go_end0
    exact ⟨rfl, by rw [h1, h2]; exact HX.out.wrong i⟩
  · go_enter Try.func30, Try.ntmps30
    go_wp2_with fail
    go_end0
    exact ⟨rfl, by rw [h1, h2]; exact HX.out⟩
set_option maxHeartbeats 4000000 in
theorem pop_any {n' : Nat} (hn : opn.length = n' + 1) (ho : opn.length ≤ 1000) (h : ScX W w p A n c Ai ci Ao co ins opn wr) : Calls Try.prog 31 #[.pointer (some ⟨p, 2, none⟩)] w fun e w' => e = .returned (.tuple #[]) ∧ ScX W w' p A n c Ai ci Ao co ins opn.dropLast wr := by
  have HX := Lib.hid h
  obtain ⟨_, _, y2, _, _, z2, _, lp⟩ := h.cells
  have hc := irow_cap h.2.2.1
  rw [hn] at y2 hc ho
  cases Ao with
  | none => have := hc.2.1 rfl; omega
  | some b =>
    have k1 : n' + 1 ≤ co := hc.1
    have k2 : n' ≤ co := by omega
    clear h hc
    have HN := Lib.hid hn
    clear hn
    go_enter Try.func31, Try.ntmps31
    go_region
    go_end0
    exact ⟨rfl, (HX.out.pop HN.out).drew⟩
set_option maxHeartbeats 4000000 in
theorem push_any (i : Int) (hi : I64 i) (ho : opn.length ≤ 900) (h : ScX W w p A n c Ai ci Ao co ins opn wr) : Calls Try.prog 32 #[.pointer (some ⟨p, 2, none⟩), .int .i64 i] w fun e w' => e = .returned (.tuple #[]) ∧ ∃ A2 c2, ScX W w' p A n c Ai ci A2 c2 ins (opn ++ [i]) wr := by
  have HX := Lib.hid h
  obtain ⟨_, _, y2, _, _, _, _, lp⟩ := h.cells
  clear h
  obtain ⟨o2, HO2⟩ : ∃ y, Hid (opn ++ [i] = y) := ⟨_, Lib.hid rfl⟩
  rw [HO2.out]
  go_enter Try.func32, Try.ntmps32
  go_wp2_with (at_builtin; refine append_stk' (ok := fun _ => True) rfl (.tmp 7) (.tmp 9) rfl W.heap.size Ao co opn rfl (HX.out.alloc _).2.2.1 (some ⟨_, 0, none⟩) 1 [i] rfl (fun h => by cases h) (ints_lit' _ i hi _ rfl) (by simp; omega) (HX.out.alloc _).2.2.2.2.1.size o2 HO2.out ?_; intro A2 c2 w2 hr2 hg2 hat2; have P := Lib.hid (HX.out.push hr2 hg2 hat2); have x2 : w2.cell? ⟨p, 2, none⟩ = _ := hp_cell P.out.2 2; have z2 := hp_frozen P.out.2 2; have lx := hp_lt P.out.2; clear hr2 hg2 hat2)
  go_end0
  exact ⟨rfl, A2, c2, P.out.1⟩
end
end Go.Proofs.Ytbfjnanakmiaaaa
