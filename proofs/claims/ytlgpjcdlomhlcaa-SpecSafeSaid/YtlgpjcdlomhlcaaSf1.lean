
/-
  What rowlockref15.Brackets finds right: each bracket is closed by what it names; the brackets around a place are those around the top one.
-/
import Derived.Test.YtlgpjcdlomhlcaaSk1
import Derived.Test.YtlgpjcdlomhlcaaSp20
namespace Go.Proofs.Ytlgpjcdlomhlcaa
open Go.RowKit Go.ChangeShapes Go.WideShapes
set_option linter.unusedSimpArgs false
set_option linter.unusedVariables false

/-- The brackets that are open ahead of the i-th instruction. -/
def opnAt (l : List Ins3) (i : Nat) : List Int := (runBk l i).opn
theorem opnAt_in (l : List Ins3) (i : Nat) : inN i (opnAt l i) := (runBk_inv l i).1
theorem opnAt_step (l : List Ins3) (i : Nat) : opnAt l (i + 1) = opnO (xn l i).op (opnC l (opnAt l i) (xn l i).op) i := rfl
theorem ins_at (l : List Ins3) : ∀ (j i : Nat), i < j → ivAt (runBk l j).ins i = topB (opnAt l i) := by
  intro j
  induction j with
  | zero => intro i h; omega
  | succ j ih =>
    intro i h
    have hl := (runBk_inv l j).2.2.1
    show ivAt ((runBk l j).ins ++ [topB (runBk l j).opn]) i = _
    unfold ivAt
    rcases Nat.lt_or_ge i j with hi | hi
    · rw [List.getElem?_append_left (by omega)]
      exact ih i hi
    · obtain rfl : i = j := by omega
      rw [List.getElem?_append_right (by omega), hl, Nat.sub_self]
      rfl
theorem wg_step {l : List Ins3} {st : Bk} {i : Nat} (h : (stepBk l st i).wg < 0) : st.wg < 0 ∧ badA l st.opn (xn l i).op = false ∧ badC l st.opn (xn l i).op = false ∧ (fitC l st.opn (xn l i).op = true → (xn l (topB st.opn).toNat).arg = (i : Int)) := by
  have h : wgB (badA l st.opn (xn l i).op || badC l st.opn (xn l i).op) (wgC l st.opn (xn l i).op st.wg i) i < 0 := h
  unfold wgB at h
  have hb : (badA l st.opn (xn l i).op || badC l st.opn (xn l i).op) = false ∧ wgC l st.opn (xn l i).op st.wg i < 0 := by
    split at h
    · omega
    · rename_i hc
      refine ⟨?_, h⟩
      cases hbb : (badA l st.opn (xn l i).op || badC l st.opn (xn l i).op)
      · rfl
      · rw [hbb] at hc
        unfold lessW at hc
        simp [h] at hc
  obtain ⟨h1, h2⟩ := hb
  rw [Bool.or_eq_false_iff] at h1
  have hfit : fitC l st.opn (xn l i).op = true → ¬ topB st.opn < 0 := by
    intro hf
    unfold fitC at hf
    simp only [Bool.and_eq_true, Bool.not_eq_true', decide_eq_false_iff_not] at hf
    exact hf.1.2
  unfold wgC at h2
  split at h2
  · rename_i hc
    simp only [Bool.and_eq_true] at hc
    exact absurd h2 (hfit hc.1.1)
  · rename_i hc
    refine ⟨h2, h1.1, h1.2, fun hf => ?_⟩
    rw [hf] at hc
    unfold lessW at hc
    simp [h2] at hc
    exact hc
/-- What is right about the brackets. -/
structure BrOk (l : List Ins3) : Prop where
  bad : ∀ i, i < l.length → badA l (opnAt l i) (xn l i).op = false ∧ badC l (opnAt l i) (xn l i).op = false ∧ (fitC l (opnAt l i) (xn l i).op = true → (xn l (topB (opnAt l i)).toNat).arg = (i : Int))
  fin : opnAt l l.length = []
theorem brOk_of {l : List Ins3} (h : (rg15 l).2.2 = 0) : BrOk l := by
  have hw : endW (runBk l l.length) < 0 := by
    unfold rg15 at h
    split at h
    · cases h
    · omega
  have hwg : (runBk l l.length).wg < 0 ∧ (runBk l l.length).opn = [] := by
    unfold endW at hw
    split at hw
    · rename_i hc
      simp only [Bool.and_eq_true, decide_eq_true_eq] at hc
      rcases topB_cases (runBk_inv l l.length).1 with ⟨h1, h2⟩ | ⟨m, a, h1, h2, h3, h4⟩
      · exact ⟨hc.1, h1⟩
      · omega
    · rename_i hc
      refine ⟨hw, ?_⟩
      rw [Bool.and_eq_true, decide_eq_true_eq, decide_eq_true_eq] at hc
      have : (runBk l l.length).opn.length = 0 := by omega
      exact List.eq_nil_of_length_eq_zero this
  have key : ∀ k j, j + k = l.length → (runBk l j).wg < 0 ∧ ∀ i, j ≤ i → i < l.length → badA l (opnAt l i) (xn l i).op = false ∧ badC l (opnAt l i) (xn l i).op = false ∧ (fitC l (opnAt l i) (xn l i).op = true → (xn l (topB (opnAt l i)).toNat).arg = (i : Int)) := by
    intro k
    induction k with
    | zero => intro j hj; obtain rfl : j = l.length := by omega
              exact ⟨hwg.1, fun i h1 h2 => by omega⟩
    | succ k ih =>
      intro j hj
      obtain ⟨h1, h2⟩ := ih (j + 1) (by omega)
      obtain ⟨w1, w2⟩ := wg_step (l := l) (st := runBk l j) (i := j) h1
      refine ⟨w1, fun i hi hl => ?_⟩
      rcases Nat.lt_or_ge j i with h | h
      · exact h2 i h hl
      · obtain rfl : i = j := by omega
        exact w2
  exact ⟨fun i hi => (key l.length 0 (by omega)).2 i (Nat.zero_le _) hi, hwg.2⟩
theorem opnC_pre (l : List Ins3) (opn : List Int) (o : Int) : ∃ t, opn = opnC l opn o ++ t := by
  unfold opnC
  split
  · rcases List.eq_nil_or_concat opn with rfl | ⟨m, a, rfl⟩
    · exact ⟨[], rfl⟩
    · exact ⟨[a], by simp⟩
  · exact ⟨[], by simp⟩
theorem opn_pre (l : List Ins3) : ∀ (i : Nat) (pre : List Int) (x : Int) (post : List Int), opnAt l i = pre ++ x :: post → opnAt l (x.toNat + 1) = pre ++ [x] := by
  intro i
  induction i with
  | zero => intro pre x post h; have h : ([] : List Int) = pre ++ x :: post := h; simp at h
  | succ i ih =>
    intro pre x post h
    rw [opnAt_step] at h
    obtain ⟨t, ht⟩ := opnC_pre l (opnAt l i) (xn l i).op
    unfold opnO at h
    split at h
    · rename_i ho
      rcases List.eq_nil_or_concat post with rfl | ⟨q, b, rfl⟩
      · have h' : opnC l (opnAt l i) (xn l i).op ++ [(i : Int)] = pre ++ [x] := h
        obtain ⟨h1, h2⟩ := List.append_inj' h' rfl
        have hx : x = (i : Int) := by simpa using h2.symm
        rw [hx, Int.toNat_natCast, opnAt_step]
        unfold opnO
        rw [if_pos ho, h1]
      · have h' : opnC l (opnAt l i) (xn l i).op ++ [(i : Int)] = (pre ++ x :: q) ++ [b] := by simpa using h
        obtain ⟨h1, h2⟩ := List.append_inj' h' rfl
        exact ih pre x (q ++ t) (by rw [ht, h1]; simp)
    · exact ih pre x (post ++ t) (by rw [ht, h]; simp)
theorem opn_top {l : List Ins3} {i : Nat} {m : List Int} {x : Int} (h : opnAt l i = m ++ [x]) : opnAt l (x.toNat + 1) = opnAt l i := by
  rw [h]
  exact opn_pre l i m x [] h
/-- Two places in one bracket stand in the same ones. -/
theorem opn_same {l : List Ins3} {i j : Nat} (h : topB (opnAt l i) = topB (opnAt l j)) : opnAt l i = opnAt l j := by
  rcases topB_cases (opnAt_in l i) with ⟨h1, h2⟩ | ⟨m, a, h1, h2, h3, _⟩
  · rcases topB_cases (opnAt_in l j) with ⟨k1, k2⟩ | ⟨m', a', k1, k2, k3, _⟩
    · rw [h1, k1]
    · omega
  · rcases topB_cases (opnAt_in l j) with ⟨k1, k2⟩ | ⟨m', a', k1, k2, k3, _⟩
    · omega
    · have : a = a' := by omega
      subst this
      rw [← opn_top h1, ← opn_top k1]
theorem closes_cases (o : Int) : (o = 22 ∧ closesI o = 21) ∨ (o = 24 ∧ closesI o = 23) ∨ (o = 25 ∧ closesI o = 24) ∨ (closesI o = 0 ∧ o ≠ 22 ∧ o ≠ 24 ∧ o ≠ 25) := by
  unfold closesI
  by_cases h1 : o = 22
  · simp [h1]
  · by_cases h2 : o = 24
    · simp [h2]
    · by_cases h3 : o = 25
      · simp [h3]
      · simp [h1, h2, h3]
theorem fit_of {l : List Ins3} {opn : List Int} {o : Int} (hb : badC l opn o = false) (hc : closesI o ≠ 0) : fitC l opn o = true := by
  unfold badC at hb
  have : (closesI o != 0) = true := by simpa using hc
  rw [this] at hb
  simpa using hb
theorem fit_parts {l : List Ins3} {opn : List Int} {o : Int} (h : fitC l opn o = true) : closesI o ≠ 0 ∧ 0 ≤ topB opn ∧ (xn l (topB opn).toNat).op = closesI o := by
  unfold fitC at h
  simp only [Bool.and_eq_true, bne_iff_ne, ne_eq, Bool.not_eq_true', decide_eq_false_iff_not, beq_iff_eq] at h
  exact ⟨h.1.1, by omega, h.2⟩
/-- What opens and closes nothing. -/
theorem opn_keep {l : List Ins3} {i : Nat} (h1 : closesI (xn l i).op = 0) (h2 : opensB (xn l i).op = false) : opnAt l (i + 1) = opnAt l i := by
  rw [opnAt_step]
  unfold opnO opnC fitC
  rw [h2, h1]
  simp
theorem opn_push {l : List Ins3} {i : Nat} (h1 : closesI (xn l i).op = 0) (h2 : opensB (xn l i).op = true) : opnAt l (i + 1) = opnAt l i ++ [(i : Int)] := by
  rw [opnAt_step]
  unfold opnO opnC fitC
  rw [h2, h1]
  simp
/-- What closes: the one that it closes is the top one. -/
theorem opn_close {l : List Ins3} (hk : BrOk l) {i : Nat} (hi : i < l.length) (h1 : closesI (xn l i).op ≠ 0) : ∃ m x, opnAt l i = m ++ [x] ∧ 0 ≤ x ∧ x < (i : Int) ∧ (xn l x.toNat).op = closesI (xn l i).op ∧ (xn l x.toNat).arg = (i : Int) ∧ opnAt l (i + 1) = opnO (xn l i).op m i := by
  have hf := fit_of (hk.bad i hi).2.1 h1
  obtain ⟨_, f2, f3⟩ := fit_parts hf
  have ha := (hk.bad i hi).2.2 hf
  rcases topB_cases (opnAt_in l i) with ⟨e1, e2⟩ | ⟨m, x, e1, e2, e3, e4⟩
  · omega
  · refine ⟨m, x, e1, e3, e4, by rw [← e2]; exact f3, by rw [← e2]; exact ha, ?_⟩
    rw [opnAt_step]
    unfold opnC
    rw [if_pos hf, e1, List.dropLast_concat]
/-- What is open is closed. -/
theorem opn_closed {l : List Ins3} (hk : BrOk l) {o : Int} : ∀ (k i : Nat), i + k = l.length → o ∈ opnAt l i → ∃ c m, i ≤ c ∧ c < l.length ∧ opnAt l c = m ++ [o] ∧ closesI (xn l c).op ≠ 0 := by
  intro k
  induction k with
  | zero =>
    intro i hi ho
    obtain rfl : i = l.length := by omega
    rw [hk.fin] at ho
    cases ho
  | succ k ih =>
    intro i hi ho
    by_cases h : o ∈ opnAt l (i + 1)
    · obtain ⟨c, m, h1, h2⟩ := ih (i + 1) (by omega) h
      exact ⟨c, m, by omega, h2⟩
    · by_cases hc : closesI (xn l i).op = 0
      · cases hb : opensB (xn l i).op
        · rw [opn_keep hc hb] at h; exact absurd ho h
        · rw [opn_push hc hb] at h; exact absurd (List.mem_append_left _ ho) h
      · obtain ⟨m, x, e1, _, _, _, _, e6⟩ := opn_close hk (by omega) hc
        rw [e1] at ho
        rcases List.mem_append.mp ho with ho | ho
        · rw [e6] at h
          unfold opnO at h
          split at h
          · exact absurd (List.mem_append_left _ ho) h
          · exact absurd ho h
        · rw [List.mem_singleton.mp ho]
          exact ⟨i, m, Nat.le_refl _, by omega, e1, hc⟩
/-- An OrElse: its Else is where it says; behind it. -/
theorem else_of {l : List Ins3} (hk : BrOk l) {o : Nat} (ho : o < l.length) (h23 : (xn l o).op = 23) : ∃ c : Nat, (xn l o).arg = (c : Int) ∧ c < l.length ∧ (xn l c).op = 24 ∧ opnAt l c = opnAt l o ++ [(o : Int)] ∧ opnAt l (c + 1) = opnAt l o ++ [(c : Int)] := by
  have hp := opn_push (l := l) (i := o) (by rw [h23]; decide) (by rw [h23]; decide)
  obtain ⟨c, m, h1, h2, h3, h4⟩ := opn_closed hk (l.length - (o + 1)) (o + 1) (by omega) (show (o : Int) ∈ opnAt l (o + 1) by rw [hp]; simp)
  obtain ⟨m', x, e1, e2, e3, e4, e5, e6⟩ := opn_close hk h2 h4
  have hx : x = (o : Int) ∧ m' = m := by
    rw [h3] at e1
    obtain ⟨q1, q2⟩ := List.append_inj' e1 rfl
    exact ⟨by simpa using q2.symm, q1.symm⟩
  obtain ⟨rfl, rfl⟩ := hx
  rw [Int.toNat_natCast] at e4 e5
  have ht := opn_top h3
  rw [Int.toNat_natCast, hp, h3] at ht
  have hm := List.append_cancel_right ht
  have hc24 : (xn l c).op = 24 := by rcases closes_cases (xn l c).op with ⟨a, b⟩ | ⟨a, b⟩ | ⟨a, b⟩ | ⟨a, b⟩ <;> omega
  refine ⟨c, e5, h2, hc24, by rw [h3, hm], ?_⟩
  rw [e6, hc24, ← hm]
  rfl
/-- An Else: its EndOr is where it says; behind it. -/
theorem endor_of {l : List Ins3} (hk : BrOk l) {e : Nat} (he : e < l.length) (h24 : (xn l e).op = 24) {m : List Int} (hm : opnAt l (e + 1) = m ++ [(e : Int)]) : ∃ c : Nat, (xn l e).arg = (c : Int) ∧ c < l.length ∧ opnAt l (c + 1) = m := by
  obtain ⟨c, m2, h1, h2, h3, h4⟩ := opn_closed hk (l.length - (e + 1)) (e + 1) (by omega) (show (e : Int) ∈ opnAt l (e + 1) by rw [hm]; simp)
  obtain ⟨m', x, e1, e2, e3, e4, e5, e6⟩ := opn_close hk h2 h4
  have hx : x = (e : Int) ∧ m' = m2 := by
    rw [h3] at e1
    obtain ⟨q1, q2⟩ := List.append_inj' e1 rfl
    exact ⟨by simpa using q2.symm, q1.symm⟩
  obtain ⟨rfl, rfl⟩ := hx
  rw [Int.toNat_natCast] at e4 e5
  have ht := opn_top h3
  rw [Int.toNat_natCast, hm, h3] at ht
  have hmm := List.append_cancel_right ht
  have hc25 : (xn l c).op = 25 := by rcases closes_cases (xn l c).op with ⟨a, b⟩ | ⟨a, b⟩ | ⟨a, b⟩ | ⟨a, b⟩ <;> omega
  refine ⟨c, e5, h2, ?_⟩
  rw [e6, hc25, ← hmm]
  rfl
end Go.Proofs.Ytlgpjcdlomhlcaa
