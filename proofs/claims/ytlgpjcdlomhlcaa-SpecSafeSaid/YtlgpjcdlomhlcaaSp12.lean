
/-
  spec: blocks: what they come to, plainly.
-/
import Derived.Test.YtlgpjcdlomhlcaaSp9
import Derived.Test.YtlgpjcdlomhlcaaSp5b
namespace Go.Proofs.Ytlgpjcdlomhlcaa
open Go.RowKit Go.ChangeShapes Go.WideShapes
set_option linter.unusedSimpArgs false
set_option linter.unusedVariables false

/-- A mark, plainly: the state and the heap that were kept, the place of the right arm's Else. -/
structure Mp where
  s0 : St
  hp0 : List Int
  to0 : Int
structure Bs where
  s : St
  hp : List Int
  ms : List Mp
  arms : List Bool
  kind : Int
def stepB (n : Nat) (x : Ins3) (b : Bs) : Except Int Bs :=
  if x.op = 22 then .ok { b with s := { b.s with pc := b.s.pc + 1 }, kind := 1 }
  else if x.op = 26 then match b.ms.getLast? with
    | none => .ok { b with kind := 2 }
    | some m => .ok { b with s := { m.s0 with pc := m.to0 + 1 }, hp := m.hp0, ms := b.ms.dropLast }
  else if x.op = 23 then .ok { b with s := { b.s with pc := b.s.pc + 1 }, ms := b.ms ++ [⟨b.s, b.hp, x.arg⟩] }
  else if x.op = 24 then match b.ms.getLast? with
    | none => .error 3
    | some _ => .ok { b with s := { b.s with pc := x.arg + 1 }, ms := b.ms.dropLast, arms := b.arms ++ [true] }
  else if x.op = 25 then .ok { b with s := { b.s with pc := b.s.pc + 1 }, arms := b.arms ++ [false] }
  else if x.op = 4 ∨ x.op = 5 ∨ x.op = 6 ∨ x.op = 7 then (touchF x b.s b.hp).map fun q => { b with s := q.1, hp := q.2 }
  else if x.op = 27 ∨ x.op = 28 ∨ x.op = 21 then .error 3
  else (plainF n x b.s).map fun t => { b with s := t }
def loopB (l : List Ins3) : Nat → Bs → Except Int Bs
  | 0, b => if b.kind = 0 then if hereB l b.s.pc then .error 11 else .error 3 else .ok b
  | k + 1, b => if b.kind = 0 then if hereB l b.s.pc then match stepB l.length (xn l b.s.pc.toNat) b with
      | .error e => .error e
      | .ok b' => loopB l k b'
    else .error 3 else .ok b
/-- What a block comes to. -/
def blockF (l : List Ins3) (s : St) (hp : List Int) (k : Nat) : Except Int Bs :=
  if hereB l s.pc then if (xn l s.pc.toNat).op = 21 then loopB l k ⟨{ s with pc := s.pc + 1 }, hp, [], [], 0⟩ else .error 3 else .error 3
theorem loopB_succ (l : List Ins3) : ∀ (k : Nat) (b : Bs) (r : Except Int Bs), loopB l k b = r → r ≠ .error 11 → loopB l (k + 1) b = r := by
  intro k
  induction k with
  | zero =>
    intro b r h hr
    unfold loopB at h ⊢
    by_cases h1 : b.kind = 0
    · rw [if_pos h1] at h ⊢
      by_cases h2 : hereB l b.s.pc = true
      · rw [if_pos h2] at h; exact absurd h.symm hr
      · rw [if_neg h2] at h ⊢; exact h
    · rw [if_neg h1] at h ⊢; exact h
  | succ k ih =>
    intro b r h hr
    unfold loopB at h ⊢
    by_cases h1 : b.kind = 0
    · rw [if_pos h1] at h ⊢
      by_cases h2 : hereB l b.s.pc = true
      · rw [if_pos h2] at h ⊢
        cases hs : stepB l.length (xn l b.s.pc.toNat) b with
        | error e => rw [hs] at h; exact h
        | ok b' => rw [hs] at h; exact ih b' r h hr
      · rw [if_neg h2] at h ⊢; exact h
    · rw [if_neg h1] at h ⊢; exact h
/-- What is come to with some fuel is come to with more. -/
theorem loopB_more (l : List Ins3) (k : Nat) (b : Bs) (r : Except Int Bs) (h : loopB l k b = r) (hr : r ≠ .error 11) : ∀ j, loopB l (k + j) b = r := by
  intro j
  induction j with
  | zero => exact h
  | succ j ih => exact loopB_succ l (k + j) b r ih hr
theorem blockF_more (l : List Ins3) (s : St) (hp : List Int) (k j : Nat) (hr : blockF l s hp k ≠ .error 11) (hkj : k ≤ j) : blockF l s hp j = blockF l s hp k := by
  unfold blockF at hr ⊢
  by_cases h1 : hereB l s.pc = true
  · rw [if_pos h1] at hr ⊢
    rw [if_pos h1]
    by_cases h2 : (xn l s.pc.toNat).op = 21
    · rw [if_pos h2] at hr ⊢
      rw [if_pos h2]
      obtain ⟨d, rfl⟩ := Nat.exists_eq_add_of_le hkj
      exact loopB_more l k _ _ rfl hr d
    · rw [if_neg h2, if_neg h2]
  · rw [if_neg h1, if_neg h1]

/-! ### How long the lists are -/
theorem locSet_out (s : St) (i v : Int) : (locSet s i v).out = s.out := by unfold locSet; (repeat' split) <;> rfl
theorem effF_len {n : Nat} {x : Ins3} {s t : St} (h : effF n x s = .ok t) : t.stk.length ≤ s.stk.length + 2 ∧ t.out.length ≤ s.out.length + 1 := by
  unfold effF at h
  by_cases e0 : x.op = 0
  · rw [if_pos e0] at h
    simp only [Except.ok.injEq] at h
    subst h
    refine ⟨?_, ?_⟩ <;> (try simp [locSet_out]) <;> (try omega)
  rw [if_neg e0] at h
  by_cases e1 : x.op = 1
  · rw [if_pos e1] at h
    simp only [Except.ok.injEq] at h
    subst h
    refine ⟨?_, ?_⟩ <;> (try simp [locSet_out]) <;> (try omega)
  rw [if_neg e1] at h
  by_cases e2 : x.op = 2
  · rw [if_pos e2] at h
    simp only [Except.ok.injEq] at h
    subst h
    refine ⟨?_, ?_⟩ <;> (try simp [locSet_out]) <;> (try omega)
  rw [if_neg e2] at h
  by_cases e3 : x.op = 3
  · rw [if_pos e3] at h
    simp only [Except.ok.injEq] at h
    subst h
    refine ⟨?_, ?_⟩ <;> (try simp [locSet_out]) <;> (try omega)
  rw [if_neg e3] at h
  by_cases e16 : x.op = 16
  · rw [if_pos e16] at h
    simp only [Except.ok.injEq] at h
    subst h
    refine ⟨?_, ?_⟩ <;> (try simp [locSet_out]) <;> (try omega)
  rw [if_neg e16] at h
  by_cases e17 : x.op = 17
  · rw [if_pos e17] at h
    simp only [Except.ok.injEq] at h
    subst h
    refine ⟨?_, ?_⟩ <;> (try simp [locSet_out]) <;> (try omega)
  rw [if_neg e17] at h
  by_cases e18 : x.op = 18
  · rw [if_pos e18] at h
    simp only [Except.ok.injEq] at h
    subst h
    refine ⟨?_, ?_⟩ <;> (try simp [locSet_out]) <;> (try omega)
  rw [if_neg e18] at h
  by_cases e27 : x.op = 27
  · rw [if_pos e27] at h
    by_cases e : s.out.length < 24
    · rw [if_pos e] at h
      simp only [Except.ok.injEq] at h
      subst h
      exact ⟨by simp <;> omega, by simp⟩
    · rw [if_neg e] at h; cases h
  rw [if_neg e27] at h
  have hj : ∀ (k : Nat) (tg : Int) (s' : St), jumpF k tg s' = .ok t → t.stk = s'.stk ∧ t.out = s'.out := by
    intro k tg s' h
    unfold jumpF at h
    split at h
    · simp only [Except.ok.injEq] at h
      subst h
      exact ⟨rfl, rfl⟩
    · cases h
  by_cases e19 : x.op = 19
  · rw [if_pos e19] at h
    obtain ⟨a, b⟩ := hj _ _ _ h
    rw [a, b]
    omega
  rw [if_neg e19] at h
  by_cases e20 : x.op = 20
  · rw [if_pos e20] at h
    by_cases e' : truthB (topI s.stk) = true
    · rw [if_pos e'] at h
      simp only [Except.ok.injEq] at h
      subst h
      exact ⟨by simp <;> omega, by simp⟩
    · rw [if_neg e'] at h
      obtain ⟨a, b⟩ := hj _ _ _ h
      rw [a, b]
      simp
      omega
  rw [if_neg e20] at h
  by_cases e12 : x.op = 12 ∨ x.op = 15
  · rw [if_pos e12] at h
    simp only [Except.ok.injEq] at h
    subst h
    exact ⟨by simp <;> omega, by simp⟩
  · rw [if_neg e12] at h
    simp only [Except.ok.injEq] at h
    subst h
    exact ⟨by simp <;> omega, by simp⟩
theorem plainF_len {n : Nat} {x : Ins3} {s t : St} (h : plainF n x s = .ok t) : t.stk.length ≤ s.stk.length + 2 ∧ t.out.length ≤ s.out.length + 1 := by
  unfold plainF at h
  split at h
  · cases h
  · split at h
    · exact effF_len (s := { s with pc := s.pc + 1 }) h
    · cases h
theorem touchF_len {x : Ins3} {s t : St} {hp hp' : List Int} (h : touchF x s hp = .ok (t, hp')) : t.stk.length ≤ s.stk.length + 1 ∧ t.out = s.out ∧ hp'.length = hp.length := by
  have hg : ∀ {i : Int} {s : St}, getF i s hp = .ok (t, hp') → t.stk.length = s.stk.length + 1 ∧ t.out = s.out ∧ hp' = hp := by
    intro i s h
    unfold getF at h
    split at h
    · simp only [Except.ok.injEq, Prod.mk.injEq] at h
      obtain ⟨rfl, rfl⟩ := h
      exact ⟨by simp, rfl, rfl⟩
    · cases h
  have hpf : ∀ {i : Int} {s : St}, putF i s hp = .ok (t, hp') → t.stk.length ≤ s.stk.length ∧ t.out = s.out ∧ hp'.length = hp.length := by
    intro i s h
    unfold putF at h
    split at h
    · simp only [Except.ok.injEq, Prod.mk.injEq] at h
      obtain ⟨rfl, rfl⟩ := h
      exact ⟨by simp, rfl, by simp⟩
    · cases h
  unfold touchF at h
  split at h
  · split at h
    · obtain ⟨a, b, c⟩ := hg h
      exact ⟨by omega, b, by rw [c]⟩
    · split at h
      · obtain ⟨a, b, c⟩ := hpf h
        exact ⟨by omega, b, c⟩
      · split at h
        · split at h
          · obtain ⟨a, b, c⟩ := hg h
            exact ⟨by simp at a; omega, b, by rw [c]⟩
          · obtain ⟨a, b, c⟩ := hpf h
            exact ⟨by simp at a; omega, b, c⟩
        · cases h
  · cases h
end Go.Proofs.Ytlgpjcdlomhlcaa
