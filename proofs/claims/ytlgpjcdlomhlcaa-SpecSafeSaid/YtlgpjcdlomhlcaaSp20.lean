
/-
  spec: Run, plainly; how long the lists are; an append of a row of bools.
-/
import Derived.Test.YtlgpjcdlomhlcaaSp19
namespace Go.Proofs.Ytlgpjcdlomhlcaa
open Go.RowKit Go.ChangeShapes Go.WideShapes
set_option linter.unusedSimpArgs false
set_option linter.unusedVariables false

/-- A whole program, from its k-th last block on. -/
def runF (l : List Ins3) (f : Nat) : Nat → St → List Int → List Bool → Oc
  | 0, s, hp, arms => if (goF l f s).kind = 4 then ⟨3, (goF l f s).s, hp, arms, 11⟩ else ⟨(goF l f s).kind, (goF l f s).s, hp, arms, (goF l f s).err⟩
  | k + 1, s, hp, arms => if (goF l f s).kind = 4 then
      if (ocF (goF l f s).s hp (blockF l (goF l f s).s hp f)).kind = 1 then runF l f k (ocF (goF l f s).s hp (blockF l (goF l f s).s hp f)).s (ocF (goF l f s).s hp (blockF l (goF l f s).s hp f)).hp (arms ++ (ocF (goF l f s).s hp (blockF l (goF l f s).s hp f)).arms)
      else ⟨(ocF (goF l f s).s hp (blockF l (goF l f s).s hp f)).kind, (ocF (goF l f s).s hp (blockF l (goF l f s).s hp f)).s, hp, arms, (ocF (goF l f s).s hp (blockF l (goF l f s).s hp f)).err⟩
    else ⟨(goF l f s).kind, (goF l f s).s, hp, arms, (goF l f s).err⟩
theorem goF_len {w : World} {A : Option Addr} {l : List Ins3} (hi : InssAt w A l) : ∀ (k : Nat) (s : St), s.stk.length ≤ 100 → s.out.length ≤ 100 → (goF l k s).s.stk.length ≤ 100 ∧ (goF l k s).s.out.length ≤ 100 ∧ (goF l k s).hp = [] ∧ (goF l k s).arms = [] := by
  intro k
  induction k with
  | zero =>
    intro s h1 h2
    unfold goF
    split
    · exact ⟨h1, h2, rfl, rfl⟩
    · split
      · exact ⟨h1, h2, rfl, rfl⟩
      · exact ⟨h1, h2, rfl, rfl⟩
  | succ k ih =>
    intro s h1 h2
    unfold goF
    split
    · exact ⟨h1, h2, rfl, rfl⟩
    · split
      · exact ⟨h1, h2, rfl, rfl⟩
      · cases hst : stepF l s with
        | error n => exact ⟨h1, h2, rfl, rfl⟩
        | ok t =>
          obtain ⟨a, b⟩ := stepF_len hi hst h2
          exact ih t a b
theorem fit_len {o : Int} {n : Nat} (h : fitI o n = true) : n ≤ 14 := by
  obtain ⟨⟨b1, b2⟩, b3, b4⟩ := effs_small o
  unfold fitI at h
  rw [Bool.and_eq_true] at h
  have h2 := of_decide_eq_true h.2
  omega
theorem plainF_small {n : Nat} {x : Ins3} {s t : St} (h : plainF n x s = .ok t) (ho : s.out.length ≤ 100) : t.stk.length ≤ 100 ∧ t.out.length ≤ 100 := by
  have hl := plainF_len h
  unfold plainF at h
  split at h
  · cases h
  · split at h
    case isFalse => cases h
    rename_i hf
    have := fit_len hf
    have := effF_out h
    dsimp only at this
    omega
theorem touchF_small {x : Ins3} {s t : St} {hp hp' : List Int} (h : touchF x s hp = .ok (t, hp')) : t.stk.length ≤ 100 ∧ t.out = s.out ∧ hp'.length = hp.length := by
  have hl := touchF_len h
  unfold touchF at h
  split at h
  case isFalse => cases h
  rename_i hf
  have := fit_len hf
  exact ⟨by omega, hl.2⟩
def IB (n j : Nat) (b : Bs) : Prop := (b.s.stk.length ≤ 100 ∧ b.s.out.length ≤ 100 ∧ b.hp.length = n) ∧ b.arms.length ≤ j ∧ ∀ m ∈ b.ms, m.s0.stk.length ≤ 100 ∧ m.s0.out.length ≤ 100 ∧ m.hp0.length = n
theorem ib_step {N n j : Nat} {x : Ins3} {b b' : Bs} (h : IB n j b) (hs : stepB N x b = .ok b') : IB n (j + 1) b' := by
  obtain ⟨h1, h5, h6⟩ := h
  have hd : ∀ m ∈ b.ms.dropLast, m.s0.stk.length ≤ 100 ∧ m.s0.out.length ≤ 100 ∧ m.hp0.length = n := fun m hm => h6 m (List.dropLast_subset _ hm)
  unfold stepB at hs
  by_cases e22 : x.op = 22
  · rw [if_pos e22] at hs
    simp only [Except.ok.injEq] at hs
    subst hs
    exact ⟨h1, by dsimp only; omega, h6⟩
  rw [if_neg e22] at hs
  by_cases e26 : x.op = 26
  · rw [if_pos e26] at hs
    cases hl : b.ms.getLast? with
    | none =>
      rw [hl] at hs
      simp only [Except.ok.injEq] at hs
      subst hs
      exact ⟨h1, by dsimp only; omega, h6⟩
    | some m =>
      rw [hl] at hs
      simp only [Except.ok.injEq] at hs
      subst hs
      exact ⟨h6 m (List.mem_of_getLast? hl), by dsimp only; omega, hd⟩
  rw [if_neg e26] at hs
  by_cases e23 : x.op = 23
  · rw [if_pos e23] at hs
    simp only [Except.ok.injEq] at hs
    subst hs
    refine ⟨h1, by dsimp only; omega, fun m hm => ?_⟩
    rcases List.mem_append.mp hm with hm | hm
    · exact h6 m hm
    · rw [List.mem_singleton.mp hm]; exact h1
  rw [if_neg e23] at hs
  by_cases e24 : x.op = 24
  · rw [if_pos e24] at hs
    cases hl : b.ms.getLast? with
    | none => rw [hl] at hs; cases hs
    | some m =>
      rw [hl] at hs
      simp only [Except.ok.injEq] at hs
      subst hs
      exact ⟨h1, by simp; omega, hd⟩
  rw [if_neg e24] at hs
  by_cases e25 : x.op = 25
  · rw [if_pos e25] at hs
    simp only [Except.ok.injEq] at hs
    subst hs
    exact ⟨h1, by simp; omega, h6⟩
  rw [if_neg e25] at hs
  by_cases e4 : x.op = 4 ∨ x.op = 5 ∨ x.op = 6 ∨ x.op = 7
  · rw [if_pos e4] at hs
    cases ht : touchF x b.s b.hp with
    | error e => rw [ht] at hs; cases hs
    | ok q =>
      rw [ht] at hs
      simp only [Except.map, Except.ok.injEq] at hs
      subst hs
      obtain ⟨t, hp'⟩ := q
      obtain ⟨a, c, d⟩ := touchF_small ht
      exact ⟨⟨a, by show t.out.length ≤ 100; rw [c]; exact h1.2.1, d.trans h1.2.2⟩, by dsimp only; omega, h6⟩
  rw [if_neg e4] at hs
  by_cases e27 : x.op = 27 ∨ x.op = 28 ∨ x.op = 21
  · rw [if_pos e27] at hs; cases hs
  rw [if_neg e27] at hs
  cases ht : plainF N x b.s with
  | error e => rw [ht] at hs; cases hs
  | ok t =>
    rw [ht] at hs
    simp only [Except.map, Except.ok.injEq] at hs
    subst hs
    obtain ⟨a, c⟩ := plainF_small ht h1.2.1
    exact ⟨⟨a, c, h1.2.2⟩, by dsimp only; omega, h6⟩
theorem loopB_ib (l : List Ins3) (n : Nat) : ∀ (k j : Nat) (b b' : Bs), IB n j b → loopB l k b = .ok b' → IB n (j + k) b' := by
  intro k
  induction k with
  | zero =>
    intro j b b' hb h
    unfold loopB at h
    split at h
    · split at h <;> cases h
    · cases h; exact hb
  | succ k ih =>
    intro j b b' hb h
    unfold loopB at h
    split at h
    · split at h
      · cases hs : stepB l.length (xn l b.s.pc.toNat) b with
        | error e => rw [hs] at h; cases h
        | ok b1 =>
          rw [hs] at h
          have := ih (j + 1) b1 b' (ib_step hb hs) h
          rw [show j + (k + 1) = j + 1 + k by omega]
          exact this
      · cases h
    · cases h
      obtain ⟨a, c, d⟩ := hb
      exact ⟨a, by omega, d⟩
/-- How long a block's lists are. -/
theorem blockF_len {l : List Ins3} {s : St} {hp : List Int} {k : Nat} {b : Bs} (h1 : s.stk.length ≤ 100) (h2 : s.out.length ≤ 100) (h : blockF l s hp k = .ok b) : b.s.stk.length ≤ 100 ∧ b.s.out.length ≤ 100 ∧ b.hp.length = hp.length ∧ b.arms.length ≤ k := by
  unfold blockF at h
  split at h
  · split at h
    · obtain ⟨⟨a, c, d⟩, e, _⟩ := loopB_ib l hp.length k 0 _ b ⟨⟨h1, h2, rfl⟩, Nat.zero_le _, fun m hm => (List.not_mem_nil hm).elim⟩ h
      exact ⟨a, c, d, by omega⟩
    · cases h
  · cases h
theorem ocF_len {l : List Ins3} {s : St} {hp : List Int} {k : Nat} (h1 : s.stk.length ≤ 100) (h2 : s.out.length ≤ 100) : (ocF s hp (blockF l s hp k)).s.stk.length ≤ 100 ∧ (ocF s hp (blockF l s hp k)).s.out.length ≤ 100 ∧ (ocF s hp (blockF l s hp k)).hp.length = hp.length ∧ (ocF s hp (blockF l s hp k)).arms.length ≤ k := by
  cases hb : blockF l s hp k with
  | error n => exact ⟨h1, h2, rfl, Nat.zero_le _⟩
  | ok b =>
    have := blockF_len h1 h2 hb
    unfold ocF
    dsimp only
    split
    · exact ⟨h1, h2, rfl, Nat.zero_le _⟩
    · exact this
theorem append_bools {ops : Array Oper} {rest : List Oper} {o : Oper} {a : Act} {Q : Exit → Act → World → Prop} {w : World} (hgd : o.guard = none) (s x : Operand)
    (ho : o.op = .call { callee := .builtin .append, args := #[s, x], argTypes := #[44, 44] })
    (A0 : Option Addr) (c0 : Nat) (vs : List Value) (hs : a.eval s = .slice A0 vs.length c0) (hr : GRow 4 w A0 c0 vs) (A : Option Addr) (c : Nat) (src : List Value) (hx : a.eval x = .slice A src.length c)
    (hsr : GRow 4 w A c src) (hlen : vs.length + src.length ≤ 100000) (l' : List Value) (hl : vs ++ src = l')
    (h : ∀ A' c' w', GRow 4 w' A' c' l' → w.grownBy w' (blk A0) → (blk A' = blk A0 ∨ blk A' = some w.heap.size) → wpList Try.prog ops Q rest (a.put o.dst (.slice A' l'.length c')) w') : wpList Try.prog ops Q (o :: rest) a w := by
  subst hl
  obtain ⟨i0, hi, hz0, hz1, hz2⟩ := info_parts Bool_info
  rcases hsr.1.2 with ⟨hn, h0⟩ | ⟨g, cap, cur, hv, hb, hg, hcap, hm, hsz, ht⟩
  · obtain rfl := List.eq_nil_of_length_eq_zero h0
    simp only [Value.slice.injEq] at hn
    obtain ⟨rfl, _, rfl⟩ := hn
    refine wpList_append_own_none hgd s x 44 ho 0 4 i0 1 Try.underlying44 hi _ vs.length vs hs hr.1 hx ?_
    have := h A0 c0 w (by rw [List.append_nil]; exact hr) (gb_refl _ _) (.inl rfl)
    rw [List.append_nil] at this
    exact this
  · simp only [Value.slice.injEq] at hv
    obtain ⟨rfl, _, rfl⟩ := hv
    refine wpList_append_own_at w hgd s x 44 ho 0 4 i0 (.bool false) 1 1 Try.underlying44 hi hz0 hz1 hz2 rfl (by decide) _ vs.length vs hs hr.1 ⟨g, 0, none⟩ src.length _ src hx (by rw [Nat.mul_one]) (fun j u hu => by
      rw [add_at, Nat.zero_add, hp_cell hg, ← Array.getElem?_toList]
      rw [← ht, List.getElem?_take] at hu
      split at hu
      · exact hu
      · cases hu) hsr.2 (by unfold maxLen; omega) (by omega) (Nat.zero_le _) ?_
    intro v' w' h1 h2 _ h3
    obtain ⟨A', c', rfl, hrow⟩ := grow_of (vs := vs ++ src) (by rw [List.length_append]; exact h1) (fun u hu => by
      rcases List.mem_append.mp hu with hu | hu
      · exact hr.2 u hu
      · exact hsr.2 u hu)
    rw [blk_own] at h2 h3
    rw [blk_own] at h3
    exact h A' c' w' hrow h2 h3
end Go.Proofs.Ytlgpjcdlomhlcaa
