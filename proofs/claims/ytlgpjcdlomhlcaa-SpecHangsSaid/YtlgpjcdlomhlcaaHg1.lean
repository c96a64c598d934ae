
/-
  A block, a run, over two heaps that agree on the variables that the instructions name: what they do is the same; other variables stay.
-/
import Derived.Test.YtlgpjcdlomhlcaaSp20
namespace Go.Proofs.Ytlgpjcdlomhlcaa
open Go.RowKit Go.ChangeShapes Go.WideShapes
set_option linter.unusedSimpArgs false
set_option linter.unusedVariables false

/-- Heaps that agree where N says so, and are A and B elsewhere. -/
def HRel (N : Nat → Bool) (A B h k : List Int) : Prop := h.length = A.length ∧ k.length = A.length ∧ ∀ t, t < A.length → (N t = true → hvAt h t = hvAt k t) ∧ (N t = false → hvAt h t = hvAt A t ∧ hvAt k t = hvAt B t)
theorem hv_set' {d : List Int} {i : Nat} {v : Int} (h : i < d.length) : hvAt (d.set i v) i = v := by unfold hvAt; rw [List.getElem?_set_self h]; rfl
theorem hv_set_ne {d : List Int} {i j : Nat} {v : Int} (h : i ≠ j) : hvAt (d.set i v) j = hvAt d j := by unfold hvAt; rw [List.getElem?_set_ne h]
section
variable {N : Nat → Bool} {A B : List Int}
theorem HRel.set {h k : List Int} (hr : HRel N A B h k) {i : Nat} (hi : i < A.length) (hn : N i = true) (v : Int) : HRel N A B (h.set i v) (k.set i v) := by
  obtain ⟨h1, h2, h3⟩ := hr
  refine ⟨by rw [List.length_set]; exact h1, by rw [List.length_set]; exact h2, fun t ht => ?_⟩
  rcases Decidable.em (i = t) with rfl | hne
  · rw [hv_set' (by omega), hv_set' (by omega)]
    exact ⟨fun _ => rfl, fun e => by rw [hn] at e; cases e⟩
  · rw [hv_set_ne hne, hv_set_ne hne]
    exact h3 t ht
def MsRel (N : Nat → Bool) (A B : List Int) (ms ms' : List Mp) : Prop := ∃ zs : List (Mp × Mp), ms = zs.map Prod.fst ∧ ms' = zs.map Prod.snd ∧ ∀ z ∈ zs, z.1.s0 = z.2.s0 ∧ z.1.to0 = z.2.to0 ∧ HRel N A B z.1.hp0 z.2.hp0
structure BRel (N : Nat → Bool) (A B : List Int) (b b' : Bs) : Prop where
  s : b.s = b'.s
  arms : b.arms = b'.arms
  kind : b.kind = b'.kind
  hp : HRel N A B b.hp b'.hp
  ms : MsRel N A B b.ms b'.ms
/-- Two answers that are the same but for the heaps. -/
def ERel (N : Nat → Bool) (A B : List Int) (r r' : Except Int Bs) : Prop := match r, r' with
  | .error e, .error e' => e = e'
  | .ok b, .ok b' => BRel N A B b b'
  | _, _ => False
/-- What an instruction names. -/
def NamesOk (N : Nat → Bool) (n : Nat) (x : Ins3) : Prop := x.op ≠ 6 ∧ x.op ≠ 7 ∧ (x.op = 4 ∨ x.op = 5 → 0 ≤ x.arg ∧ x.arg < (n : Int) ∧ N x.arg.toNat = true)
theorem MsRel.last {ms ms' : List Mp} (h : MsRel N A B ms ms') : (ms.getLast? = none ∧ ms'.getLast? = none) ∨ ∃ m m', ms.getLast? = some m ∧ ms'.getLast? = some m' ∧ m.s0 = m'.s0 ∧ m.to0 = m'.to0 ∧ HRel N A B m.hp0 m'.hp0 ∧ MsRel N A B ms.dropLast ms'.dropLast := by
  obtain ⟨zs, rfl, rfl, hz⟩ := h
  rcases List.eq_nil_or_concat zs with rfl | ⟨ys, z, rfl⟩
  · exact .inl ⟨rfl, rfl⟩
  · refine .inr ⟨z.1, z.2, by simp, by simp, (hz z (by simp)).1, (hz z (by simp)).2.1, (hz z (by simp)).2.2, ys, by simp, by simp, fun y hy => hz y (by simp [hy])⟩
theorem touch_rel {x : Ins3} {s : St} {h k : List Int} (hn : NamesOk N A.length x) (hx : x.op = 4 ∨ x.op = 5) (hr : HRel N A B h k) :
    (∃ e, touchF x s h = .error e ∧ touchF x s k = .error e) ∨ ∃ t h' k', touchF x s h = .ok (t, h') ∧ touchF x s k = .ok (t, k') ∧ HRel N A B h' k' := by
  obtain ⟨n0, n1, n2⟩ := hn.2.2 hx
  obtain ⟨h1, h2, h3⟩ := hr
  unfold touchF
  by_cases hf : fitI x.op s.stk.length = true
  · rw [if_pos hf, if_pos hf]
    rcases hx with hx | hx
    · rw [if_pos hx, if_pos hx]
      unfold getF
      rw [if_pos (by omega), if_pos (by omega)]
      refine .inr ⟨_, h, k, rfl, ?_, ⟨h1, h2, h3⟩⟩
      rw [(h3 _ (by omega)).1 n2]
    · rw [if_neg (by omega), if_pos hx, if_neg (by omega), if_pos hx]
      unfold putF
      rw [if_pos (by omega), if_pos (by omega)]
      exact .inr ⟨_, _, _, rfl, rfl, HRel.set ⟨h1, h2, h3⟩ (by omega) n2 _⟩
  · rw [if_neg hf, if_neg hf]
    exact .inl ⟨_, rfl, rfl⟩
theorem step_rel {n : Nat} {x : Ins3} {b b' : Bs} (hn : NamesOk N A.length x) (h : BRel N A B b b') : ERel N A B (stepB n x b) (stepB n x b') := by
  obtain ⟨s, hp, ms, arms, kind⟩ := b
  obtain ⟨s', hp', ms', arms', kind'⟩ := b'
  obtain ⟨rfl, rfl, rfl, hh, hm⟩ := h
  dsimp only at hh hm
  unfold stepB
  by_cases e22 : x.op = 22
  · rw [if_pos e22, if_pos e22]
    exact ⟨rfl, rfl, rfl, hh, hm⟩
  rw [if_neg e22, if_neg e22]
  by_cases e26 : x.op = 26
  · rw [if_pos e26, if_pos e26]
    dsimp only
    rcases hm.last with ⟨h1, h2⟩ | ⟨m, m', h1, h2, h3, h4, h5, h6⟩
    · rw [h1, h2]
      exact ⟨rfl, rfl, rfl, hh, hm⟩
    · rw [h1, h2]
      dsimp only
      rw [h3, h4]
      exact ⟨rfl, rfl, rfl, h5, h6⟩
  rw [if_neg e26, if_neg e26]
  by_cases e23 : x.op = 23
  · rw [if_pos e23, if_pos e23]
    refine ⟨rfl, rfl, rfl, hh, ?_⟩
    obtain ⟨zs, rfl, rfl, hz⟩ := hm
    refine ⟨zs ++ [(⟨s, hp, x.arg⟩, ⟨s, hp', x.arg⟩)], by simp, by simp, fun z hz' => ?_⟩
    rcases List.mem_append.mp hz' with hz' | hz'
    · exact hz z hz'
    · rw [List.mem_singleton.mp hz']
      exact ⟨rfl, rfl, hh⟩
  rw [if_neg e23, if_neg e23]
  by_cases e24 : x.op = 24
  · rw [if_pos e24, if_pos e24]
    dsimp only
    rcases hm.last with ⟨h1, h2⟩ | ⟨m, m', h1, h2, h3, h4, h5, h6⟩
    · rw [h1, h2]
      exact rfl
    · rw [h1, h2]
      exact ⟨rfl, rfl, rfl, hh, h6⟩
  rw [if_neg e24, if_neg e24]
  by_cases e25 : x.op = 25
  · rw [if_pos e25, if_pos e25]
    exact ⟨rfl, rfl, rfl, hh, hm⟩
  rw [if_neg e25, if_neg e25]
  by_cases e4 : x.op = 4 ∨ x.op = 5 ∨ x.op = 6 ∨ x.op = 7
  · rw [if_pos e4, if_pos e4]
    have h45 : x.op = 4 ∨ x.op = 5 := by
      have := hn.1
      have := hn.2.1
      omega
    dsimp only
    rcases touch_rel (s := s) hn h45 hh with ⟨e, h1, h2⟩ | ⟨t, h', k', h1, h2, h3⟩
    · rw [h1, h2]
      exact rfl
    · rw [h1, h2]
      exact ⟨rfl, rfl, rfl, h3, hm⟩
  rw [if_neg e4, if_neg e4]
  by_cases e27 : x.op = 27 ∨ x.op = 28 ∨ x.op = 21
  · rw [if_pos e27, if_pos e27]
    exact rfl
  rw [if_neg e27, if_neg e27]
  dsimp only
  cases plainF n x s with
  | error e => exact rfl
  | ok t => exact ⟨rfl, rfl, rfl, hh, hm⟩
theorem loop_rel {l : List Ins3} (hn : ∀ i, i < l.length → rightI (xn l i) = true → NamesOk N A.length (xn l i)) : ∀ (k : Nat) (b b' : Bs), BRel N A B b b' → ERel N A B (loopB l k b) (loopB l k b') := by
  intro k
  induction k with
  | zero =>
    intro b b' h
    unfold loopB
    rw [← h.kind, ← h.s]
    split
    · split <;> exact rfl
    · exact h
  | succ k ih =>
    intro b b' h
    unfold loopB
    rw [← h.kind, ← h.s]
    split
    · split
      · rename_i hh
        obtain ⟨p0, p1, p2⟩ := here_pc hh
        have hs := step_rel (n := l.length) (hn b.s.pc.toNat (by omega) p2) h
        cases h1 : stepB l.length (xn l b.s.pc.toNat) b with
        | error e =>
          rw [h1] at hs
          cases h2 : stepB l.length (xn l b.s.pc.toNat) b' with
          | error e' => rw [h2] at hs; exact hs
          | ok c' => rw [h2] at hs; exact hs.elim
        | ok c =>
          rw [h1] at hs
          cases h2 : stepB l.length (xn l b.s.pc.toNat) b' with
          | error e' => rw [h2] at hs; exact hs.elim
          | ok c' => rw [h2] at hs; exact ih c c' hs
      · exact rfl
    · exact h
theorem block_rel {l : List Ins3} (hn : ∀ i, i < l.length → rightI (xn l i) = true → NamesOk N A.length (xn l i)) (s : St) (h k : List Int) (f : Nat) (hr : HRel N A B h k) : ERel N A B (blockF l s h f) (blockF l s k f) := by
  unfold blockF
  split
  · split
    · exact loop_rel hn f _ _ ⟨rfl, rfl, rfl, hr, [], rfl, rfl, fun z hz => (List.not_mem_nil hz).elim⟩
    · exact rfl
  · exact rfl
structure ORel (N : Nat → Bool) (A B : List Int) (o o' : Oc) : Prop where
  kind : o.kind = o'.kind
  s : o.s = o'.s
  arms : o.arms = o'.arms
  err : o.err = o'.err
  hp : HRel N A B o.hp o'.hp
theorem oc_rel {s : St} {h k : List Int} (hr : HRel N A B h k) {r r' : Except Int Bs} (he : ERel N A B r r') : ORel N A B (ocF s h r) (ocF s k r') := by
  cases r with
  | error e =>
    cases r' with
    | error e' =>
      obtain rfl : e = e' := he
      exact ⟨rfl, rfl, rfl, rfl, hr⟩
    | ok b' => exact he.elim
  | ok b =>
    cases r' with
    | error e' => exact he.elim
    | ok b' =>
      have hb : BRel N A B b b' := he
      unfold ocF
      dsimp only
      rw [hb.kind]
      split
      · exact ⟨rfl, rfl, rfl, rfl, hr⟩
      · exact ⟨rfl, hb.s, hb.arms, rfl, hb.hp⟩
theorem run_rel {l : List Ins3} (hn : ∀ i, i < l.length → rightI (xn l i) = true → NamesOk N A.length (xn l i)) (f : Nat) : ∀ (q : Nat) (s : St) (h k : List Int) (arms : List Bool), HRel N A B h k → ORel N A B (runF l f q s h arms) (runF l f q s k arms) := by
  intro q
  induction q with
  | zero =>
    intro s h k arms hr
    unfold runF
    split <;> exact ⟨rfl, rfl, rfl, rfl, hr⟩
  | succ q ih =>
    intro s h k arms hr
    have ho := oc_rel (s := (goF l f s).s) hr (block_rel hn (goF l f s).s h k f hr)
    unfold runF
    split
    · rw [← ho.kind]
      split
      · rw [← ho.s, ← ho.arms]
        exact ih _ _ _ _ ho.hp
      · exact ⟨rfl, ho.s, rfl, ho.err, hr⟩
    · exact ⟨rfl, rfl, rfl, rfl, hr⟩
end
end Go.Proofs.Ytlgpjcdlomhlcaa
