
/-
  The depths that rowlockref15.Depths finds stand: what is behind an instruction is as deep as it makes it; a thread that goes on plainly has a stack just as deep.
-/
import Derived.Test.YtlgpjcdlomhlcaaCk8
import Derived.Test.YtlgpjcdlomhlcaaSp19
namespace Go.Proofs.Ytlgpjcdlomhlcaa
open Go.RowKit Go.ChangeShapes Go.WideShapes
set_option linter.unusedSimpArgs false
set_option linter.unusedVariables false

/-- What is behind the i-th instruction is as deep as it makes it. -/
def DoneAt (l : List Ins3) (d : List Int) (i : Nat) : Prop := 0 ≤ ivAt d i ∧ popsI (xn l i).op ≤ ivAt d i ∧ behI l d i ≤ 12 ∧ ∀ x ∈ nextI l i, 0 ≤ x ∧ x < (l.length : Int) ∧ ivAt d x.toNat = behI l d i
theorem spL_spec {n : Nat} {beh : Int} (hb : 0 ≤ beh) : ∀ (xs d : List Int), d.length = n → (spL n beh xs d).2 = 0 → (∀ i, 0 ≤ ivAt d i → ivAt (spL n beh xs d).1 i = ivAt d i) ∧ ∀ x ∈ xs, 0 ≤ x ∧ x < (n : Int) ∧ ivAt (spL n beh xs d).1 x.toNat = beh := by
  intro xs
  induction xs with
  | nil => intro d _ _; exact ⟨fun i _ => rfl, fun x hx => (List.not_mem_nil hx).elim⟩
  | cons x xs ih =>
    intro d hd h
    unfold spL at h ⊢
    split at h
    · cases h
    · rename_i hx
      rw [if_neg hx]
      have hxn : x.toNat < d.length := by omega
      split at h
      · rename_i h0
        rw [if_pos h0]
        obtain ⟨h1, h2⟩ := ih (d.set x.toNat beh) (by rw [List.length_set]; exact hd) h
        have hset := iv_set (v := beh) hxn
        refine ⟨fun i hi => ?_, fun y hy => ?_⟩
        · have hne : x.toNat ≠ i := fun e => by rw [← e] at hi; omega
          rw [h1 i (by rw [iv_set_ne hne]; exact hi), iv_set_ne hne]
        · rcases List.mem_cons.mp hy with rfl | hy
          · exact ⟨by omega, by omega, by rw [h1 _ (by rw [hset]; exact hb), hset]⟩
          · exact h2 y hy
      · rename_i h0
        rw [if_neg h0]
        split at h
        · rename_i h3
          rw [if_pos h3]
          obtain ⟨h1, h2⟩ := ih d hd h
          refine ⟨h1, fun y hy => ?_⟩
          rcases List.mem_cons.mp hy with rfl | hy
          · exact ⟨by omega, by omega, by rw [h1 _ (by omega), h3]⟩
          · exact h2 y hy
        · cases h
theorem spF_spec {l : List Ins3} {d : List Int} {i : Nat} (hd : d.length = l.length) (hi : 0 ≤ ivAt d i) (h : (spF l d i).2 = 0) : (∀ k, 0 ≤ ivAt d k → ivAt (spF l d i).1 k = ivAt d k) ∧ DoneAt l (spF l d i).1 i := by
  have hp := pops_bd (xn l i).op
  unfold spF at h ⊢
  split at h
  · cases h
  · rename_i hc
    rw [if_neg hc]
    obtain ⟨h1, h2⟩ := spL_spec (by unfold behI; omega) _ d hd h
    have e : ivAt (spL l.length (behI l d i) (nextI l i) d).1 i = ivAt d i := h1 i hi
    have key : ∀ D, ivAt D i = ivAt d i → behI l D i = behI l d i := fun D hD => by unfold behI; rw [hD]
    have eb := key _ e
    refine ⟨h1, by rw [e]; exact hi, by rw [e]; omega, by rw [eb]; omega, fun x hx => ?_⟩
    rw [eb]
    exact h2 x hx
theorem DoneAt.kept {l : List Ins3} {d d' : List Int} {i : Nat} (h : DoneAt l d i) (hk : ∀ k, 0 ≤ ivAt d k → ivAt d' k = ivAt d k) : DoneAt l d' i := by
  obtain ⟨h0, h1, h2, h3⟩ := h
  have e := hk i h0
  have hp := pops_bd (xn l i).op
  have eb : behI l d' i = behI l d i := by unfold behI; rw [e]
  refine ⟨by rw [e]; exact h0, by rw [e]; exact h1, by rw [eb]; exact h2, fun x hx => ?_⟩
  obtain ⟨a, b, c⟩ := h3 x hx
  refine ⟨a, b, ?_⟩
  rw [eb, hk _ (by rw [c]; unfold behI; omega), c]
def DInv (l : List Ins3) (d : List Int) (g : List Bool) (f : Nat) : Prop := d.length = l.length ∧ g.length = l.length ∧ ivAt d 0 = 0 ∧ (∀ i, lvAt g i = true → DoneAt l d i) ∧ g.count false ≤ f
theorem count_set {g : List Bool} {i : Nat} (hi : i < g.length) (h : lvAt g i = false) : (g.set i true).count false + 1 = g.count false := by
  induction g generalizing i with
  | nil => simp at hi
  | cons a g ih =>
    cases i with
    | zero =>
      have : a = false := by simpa [lvAt] using h
      subst this
      simp
    | succ i =>
      have := ih (i := i) (by simpa using hi) (by simpa [lvAt] using h)
      rw [List.set_cons_succ, List.count_cons, List.count_cons]
      omega
theorem firstI_at {d : List Int} {g : List Bool} : ∀ {f i : Nat}, firstI d g i f < i + f → skipB d g (firstI d g i f) = false := by
  intro f
  induction f with
  | zero => intro i h; exact absurd h (Nat.lt_irrefl _)
  | succ f ih =>
    intro i h
    unfold firstI at h ⊢
    split at h
    · rename_i hs
      rw [if_pos hs]
      exact ih (by omega)
    · rename_i hs
      rw [if_neg hs]
      simpa using hs
theorem firstI_all {d : List Int} {g : List Bool} : ∀ {f i : Nat}, firstI d g i f = i + f → ∀ k, i ≤ k → k < i + f → skipB d g k = true := by
  intro f
  induction f with
  | zero => intro i _ k h1 h2; omega
  | succ f ih =>
    intro i h k h1 h2
    unfold firstI at h
    split at h
    · rename_i hs
      rcases Nat.lt_or_ge i k with hk | hk
      · exact ih (i := i + 1) (by omega) k hk (by omega)
      · have : k = i := by omega
        rw [this]
        exact hs
    · omega
theorem dpL_spec {l : List Ins3} : ∀ (f : Nat) (d : List Int) (g : List Bool), DInv l d g f → (dpL l f d g).2.2 = 0 → (dpL l f d g).1.length = l.length ∧ ivAt (dpL l f d g).1 0 = 0 ∧ ∀ i, i < l.length → 0 ≤ ivAt (dpL l f d g).1 i → DoneAt l (dpL l f d g).1 i := by
  intro f
  induction f with
  | zero =>
    intro d g h _
    obtain ⟨h1, h2, h3, h4, h5⟩ := h
    refine ⟨h1, h3, fun i hi _ => h4 i ?_⟩
    have hn : false ∉ g := List.count_eq_zero.mp (by omega)
    have hm : lvAt g i ∈ g := by
      have hig : i < g.length := by omega
      have : lvAt g i = g[i] := by unfold lvAt; rw [List.getElem?_eq_getElem hig]; rfl
      rw [this]
      exact List.getElem_mem hig
    cases hv : lvAt g i
    · rw [hv] at hm; exact absurd hm hn
    · rfl
  | succ f ih =>
    intro d g h he
    obtain ⟨h1, h2, h3, h4, h5⟩ := h
    unfold dpL at he ⊢
    split at he
    · rename_i hf
      rw [if_pos hf]
      refine ⟨h1, h3, fun i hi h0 => ?_⟩
      have h0 : 0 ≤ ivAt d i := h0
      have := firstI_all (i := 0) (by rw [hf]; omega) i (Nat.zero_le _) (by omega)
      unfold skipB at this
      rw [Bool.or_eq_true, decide_eq_true_eq] at this
      rcases this with h | h
      · exact absurd h (by omega)
      · exact h4 i h
    · rename_i hf
      rw [if_neg hf]
      have hle := firstI_le d g l.length 0
      have hlt : firstI d g 0 l.length < l.length := by omega
      have hsk := firstI_at (d := d) (g := g) (i := 0) (f := l.length) (by omega)
      generalize firstI d g 0 l.length = i at *
      unfold skipB at hsk
      rw [Bool.or_eq_false_iff, decide_eq_false_iff_not] at hsk
      split at he
      · rename_i hs
        rw [if_pos hs]
        obtain ⟨k1, k2⟩ := spF_spec h1 (by omega) hs
        refine ih _ _ ⟨by rw [spF_len]; exact h1, by rw [List.length_set]; exact h2, by rw [k1 0 (by omega)]; exact h3, fun j hj => ?_, ?_⟩ he
        · rcases Decidable.em (i = j) with rfl | hne
          · exact k2
          · rw [lv_set_ne hne] at hj
            exact (h4 j hj).kept k1
        · have := count_set (i := i) (by omega) hsk.2
          omega
      · rename_i hs; exact absurd he hs
theorem dp15_spec {l : List Ins3} (hl : 1 ≤ l.length) (h : (dp15 l).2.2 = 0) : (dp15 l).1.length = l.length ∧ ivAt (dp15 l).1 0 = 0 ∧ ∀ i, i < l.length → 0 ≤ ivAt (dp15 l).1 i → DoneAt l (dp15 l).1 i := by
  unfold dp15 at h ⊢
  split at h
  · rename_i h0
    rw [if_pos h0]
    refine dpL_spec l.length _ _ ⟨by unfold dpInit; simp, by simp, by unfold dpInit; exact iv_set (by simp; omega), fun i hi => ?_, ?_⟩ h
    · unfold lvAt at hi
      rw [List.getElem?_replicate] at hi
      split at hi <;> cases hi
    · rw [List.count_replicate_self]
      exact Nat.le_refl _
  · rename_i h0; exact absurd h h0
theorem effF_next {n : Nat} {o ag v : Int} {s t : St} (h0 : 0 ≤ o) (h1 : o < 29) (hs : specI o = false) (h : effF n ⟨o, ag, v⟩ s = .ok t) : t.pc = if o = 19 then ag else if o = 20 ∧ truthB (topI s.stk) = false then ag else s.pc := by
  have hl : ∀ (x : St) (i y : Int), (locSet x i y).pc = x.pc := by
    intro x i y
    unfold locSet
    repeat' split
    all_goals rfl
  rcases plain_ops h0 h1 hs with rfl | rfl | rfl | rfl | rfl | rfl | rfl | rfl | rfl | rfl | rfl | rfl | rfl | rfl | rfl | rfl | rfl | rfl
  case' inr.inr.inr.inr.inr.inr.inr.inr.inr.inr.inr.inr.inr.inr.inr.inl =>
    unfold effF jumpF at h
    simp only [Int.reduceEq, if_false, if_true] at h
    split at h
    · cases h; rfl
    · cases h
  case' inr.inr.inr.inr.inr.inr.inr.inr.inr.inr.inr.inr.inr.inr.inr.inr.inl =>
    unfold effF jumpF at h
    simp only [Int.reduceEq, if_false, if_true] at h
    cases ht : truthB (topI s.stk)
    · rw [ht] at h
      simp only [Bool.false_eq_true, if_false] at h
      split at h
      · cases h; rfl
      · cases h
    · rw [ht] at h
      simp only [if_true] at h
      cases h
      rfl
  case' inr.inr.inr.inr.inr.inr.inr.inr.inr.inr.inr.inr.inr.inr.inr.inr.inr =>
    unfold effF at h
    simp only [Int.reduceEq, if_false, if_true] at h
    split at h
    · cases h; rfl
    · cases h
  case' inr.inr.inr.inl =>
    unfold effF at h
    simp only [Int.reduceEq, if_false, if_true] at h
    cases h
    exact hl _ _ _
  all_goals (unfold effF at h; simp at h; subst h; rfl)
theorem stepF_next {w : World} {A : Option Addr} {l : List Ins3} {s t : St} (hi : InssAt w A l) (h : stepF l s = .ok t) : t.pc ∈ nextI l s.pc.toNat := by
  unfold stepF plainF at h
  split at h
  · rename_i hh
    obtain ⟨p0, p1, p2⟩ := here_pc hh
    obtain ⟨j, hj⟩ : ∃ j : Nat, s.pc = (j : Int) := ⟨s.pc.toNat, by omega⟩
    have hjn : s.pc.toNat = j := by omega
    rw [hjn] at h p2 ⊢
    have hjl : j < l.length := by omega
    have hok := ins_ok hi hjl
    obtain ⟨⟨op, ag, v⟩, hx⟩ : ∃ x, xn l j = x := ⟨_, rfl⟩
    unfold nextI
    rw [hx] at h p2 hok ⊢
    split at h
    · cases h
    · rename_i hsp
      have hsp : specI op = false := by simpa using hsp
      split at h
      · have hn := effF_next hok.1.1 (right_parts p2).1 hsp h
        dsimp only at hn ⊢
        rw [hj] at hn
        have hpl := plain_ops hok.1.1 (right_parts p2).1 hsp
        dsimp only at hpl
        rcases Decidable.em (op = 19) with rfl | n19
        · rw [if_pos rfl] at hn ⊢
          simp [hn]
        · rw [if_neg n19] at hn ⊢
          rcases Decidable.em (op = 20) with rfl | n20
          · rw [if_pos rfl]
            split at hn <;> simp [hn]
          · rw [if_neg (by omega)] at hn
            have n23 : ¬ op = 23 := by omega
            have n24 : ¬ op = 24 := by omega
            have n26 : ¬ op = 26 := by omega
            have n28 : ¬ op = 28 := by omega
            rw [if_neg n20, if_neg n23, if_neg n24, if_neg n26, if_neg n28]
            simp [hn]
      · cases h
  · cases h
/-- A state that stands where it may, its stack just as deep as is told. -/
def StkAt (l : List Ins3) (d : List Int) (s : St) : Prop := 0 ≤ s.pc ∧ s.pc < (l.length : Int) ∧ ivAt d s.pc.toNat = s.stk.length
theorem StkAt.step {w : World} {A : Option Addr} {l : List Ins3} {d : List Int} {s t : St} (hi : InssAt w A l) (hd : ∀ i, i < l.length → 0 ≤ ivAt d i → DoneAt l d i) (h : StkAt l d s) (he : stepF l s = .ok t) : StkAt l d t := by
  obtain ⟨h0, h1, h2⟩ := h
  obtain ⟨_, _, e3, e4⟩ := stepF_deep hi he
  obtain ⟨_, _, _, d4⟩ := hd s.pc.toNat (by omega) (by omega)
  obtain ⟨a, b, c⟩ := d4 _ (stepF_next hi he)
  refine ⟨a, b, ?_⟩
  rw [c]
  unfold behI
  omega
theorem goF_stk {w : World} {A : Option Addr} {l : List Ins3} {d : List Int} (hi : InssAt w A l) (hd : ∀ i, i < l.length → 0 ≤ ivAt d i → DoneAt l d i) : ∀ (k : Nat) (s : St), StkAt l d s → StkAt l d (goF l k s).s := by
  intro k
  induction k with
  | zero =>
    intro s h
    unfold goF
    split
    · exact h
    · split <;> exact h
  | succ k ih =>
    intro s h
    unfold goF
    split
    · exact h
    · split
      · exact h
      · cases he : stepF l s with
        | error e => exact h
        | ok t => exact ih t (h.step hi hd he)
end Go.Proofs.Ytlgpjcdlomhlcaa
