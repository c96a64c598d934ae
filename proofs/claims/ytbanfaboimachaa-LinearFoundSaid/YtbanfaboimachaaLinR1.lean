
/-
  The rows of unlike places, one behind the other, and the search: they come to the same order (plain).
-/
import Derived.Test.YtbanfaboimachaaLin5
namespace Go.Proofs.Ytbanfaboimachaa
set_option linter.unusedSimpArgs false
set_option linter.unusedVariables false

/-- Calls in an order: none ahead of one that had ended when it began, each answered so. -/
def noneAhead (l : List Spn) (s : List Int) (n : Int) : Bool := s.all fun m => !bef (sp l m.toNat) (sp l n.toNat)
def runOK (l : List Spn) : St → List Int → Bool
  | _, [] => true
  | st, n :: s => noneAhead l s n && ((whyF st (sp l n.toNat)).1 == 0) && runOK l (whyF st (sp l n.toNat)).2 s
def okRow (l : List Spn) (st : St) (r : List Int) : Bool := restB l r && runOK l st r
def naive (l : List Spn) (st0 : St) : Nat → List Int → Option (List Int)
  | 0, o => bif okRow l st0 o then some o else none
  | m + 1, o => bif okRow l st0 o then some o else scanF (fun n => bif hasB o (n : Int) then none else naive l st0 m (o ++ [(n : Int)])) 0 l.length
theorem naive_some {l : List Spn} {st0 : St} {m : Nat} {o r : List Int} (h : naive l st0 m o = some r) : ∃ s, r = o ++ s ∧ okRow l st0 r = true := by
  induction m generalizing o with
  | zero =>
    unfold naive at h
    cases hk : okRow l st0 o
    · rw [hk] at h; cases h
    · rw [hk] at h
      obtain rfl := Option.some.inj h
      exact ⟨[], by simp, hk⟩
  | succ m ih =>
    unfold naive at h
    cases hk : okRow l st0 o
    · rw [hk] at h
      obtain ⟨n, _, _, hf⟩ := scanF_some h
      cases hb : hasB o (n : Int)
      · rw [hb] at hf
        obtain ⟨s, e, h2⟩ := ih hf
        exact ⟨(n : Int) :: s, by rw [e]; simp, h2⟩
      · rw [hb] at hf; cases hf
    · rw [hk] at h
      obtain rfl := Option.some.inj h
      exact ⟨[], by simp, hk⟩
/-- The state behind an order. -/
def stAfter (l : List Spn) : St → List Int → St
  | st, [] => st
  | st, n :: s => stAfter l (whyF st (sp l n.toNat)).2 s
theorem stAfter_append (l : List Spn) (st : St) (o s : List Int) : stAfter l st (o ++ s) = stAfter l (stAfter l st o) s := by
  induction o generalizing st with
  | nil => rfl
  | cons n o ih => exact ih _
theorem runOK_tail {l : List Spn} {st : St} {o t : List Int} (h : runOK l st (o ++ t) = true) : runOK l (stAfter l st o) t = true := by
  induction o generalizing st with
  | nil => exact h
  | cons n o ih =>
    have h' : (noneAhead l (o ++ t) n && ((whyF st (sp l n.toNat)).1 == 0) && runOK l (whyF st (sp l n.toNat)).2 (o ++ t)) = true := h
    rw [Bool.and_eq_true] at h'
    exact ih h'.2
/-- A prefix that the search has taken. -/
def Pre (l : List Spn) (st0 : St) (o : List Int) : Prop := ∀ i, i < o.length → ∃ n : Nat, o[i]? = some (n : Int) ∧ n < l.length ∧ okNext l (o.take i) n = true ∧ (whyF (stAfter l st0 (o.take i)) (sp l n)).1 = 0
theorem pre_nil (l : List Spn) (st0 : St) : Pre l st0 [] := fun i hi => absurd hi (Nat.not_lt_zero _)
theorem pre_snoc {l : List Spn} {st0 : St} {o : List Int} {n : Nat} (h : Pre l st0 o) (hn : n < l.length) (hk : okNext l o n = true) (hw : (whyF (stAfter l st0 o) (sp l n)).1 = 0) : Pre l st0 (o ++ [(n : Int)]) := by
  intro i hi
  by_cases e : i < o.length
  · obtain ⟨m, h1, h2, h3, h4⟩ := h i e
    exact ⟨m, by rw [List.getElem?_append_left e]; exact h1, h2, by rw [List.take_append_of_le_length (by omega)]; exact h3, by rw [List.take_append_of_le_length (by omega)]; exact h4⟩
  · have e2 : i = o.length := by simp at hi; omega
    subst e2
    exact ⟨n, by simp, hn, by simpa using hk, by simpa using hw⟩
theorem pre_run {l : List Spn} {st0 : St} {o : List Int} (h : Pre l st0 o) : runOK l st0 o = true := by
  have key : ∀ k, k ≤ o.length → runOK l (stAfter l st0 (o.take (o.length - k))) (o.drop (o.length - k)) = true := by
    intro k
    induction k with
    | zero => intro _; rw [Nat.sub_zero, List.drop_length]; rfl
    | succ k ih =>
      intro hk
      obtain ⟨n, h1, h2, h3, h4⟩ := h (o.length - (k + 1)) (by omega)
      have hlt : o.length - (k + 1) < o.length := by omega
      have e1 : o.drop (o.length - (k + 1)) = (n : Int) :: o.drop (o.length - k) := by
        rw [List.drop_eq_getElem_cons hlt]
        rw [List.getElem?_eq_getElem hlt] at h1
        rw [Option.some.inj h1, show o.length - (k + 1) + 1 = o.length - k by omega]
      have e2 : o.take (o.length - k) = o.take (o.length - (k + 1)) ++ [(n : Int)] := by
        rw [show o.length - k = o.length - (k + 1) + 1 by omega, List.take_add_one, h1]; rfl
      rw [e1]
      have ih' := ih (by omega)
      rw [e2, stAfter_append] at ih'
      show (noneAhead l (o.drop (o.length - k)) n && ((whyF (stAfter l st0 (o.take (o.length - (k + 1)))) (sp l (n : Int).toNat)).1 == 0) && runOK l (whyF (stAfter l st0 (o.take (o.length - (k + 1)))) (sp l (n : Int).toNat)).2 (o.drop (o.length - k))) = true
      have ih2 : runOK l (whyF (stAfter l st0 (o.take (o.length - (k + 1)))) (sp l (n : Int).toNat)).2 (o.drop (o.length - k)) = true := ih'
      rw [ih2, Bool.and_true, Int.toNat_natCast, h4]
      simp only [beq_self_eq_true, Bool.and_true]
      unfold noneAhead
      rw [List.all_eq_true]
      intro m hm
      obtain ⟨q, hq⟩ := List.mem_iff_getElem?.mp hm
      rw [List.getElem?_drop] at hq
      have hql : o.length - k + q < o.length := (List.getElem?_eq_some_iff.mp hq).1
      obtain ⟨m', g1, g2, g3, _⟩ := h (o.length - k + q) hql
      rw [g1] at hq
      obtain rfl := Option.some.inj hq
      unfold okNext at h3 g3
      rw [Bool.and_eq_true, Bool.not_eq_true'] at h3 g3
      have a := allB_iff.mp h3.2 m' g2
      unfold aheadAt at a
      have sub : ∀ x, hasB (o.take (o.length - (k + 1))) x = true → hasB (o.take (o.length - k + q)) x = true := by
        intro x hx
        rw [hasB_iff] at hx ⊢
        obtain ⟨y, hy⟩ := List.mem_iff_getElem?.mp hx
        rw [List.getElem?_take] at hy
        split at hy
        · refine List.mem_iff_getElem?.mpr ⟨y, ?_⟩
          rw [List.getElem?_take, if_pos (by omega)]
          exact hy
        · cases hy
      have ne : ((m' : Int) != (n : Int)) = true := by
        rw [bne_iff_ne]
        intro e
        have : hasB (o.take (o.length - k + q)) (m' : Int) = true := by
          rw [hasB_iff, e]
          refine List.mem_iff_getElem?.mpr ⟨o.length - (k + 1), ?_⟩
          rw [List.getElem?_take, if_pos (by omega)]
          exact h1
        rw [this] at g3
        cases g3.1
      have nc : hasB (o.take (o.length - (k + 1))) (m' : Int) = false := by
        cases hc : hasB (o.take (o.length - (k + 1))) (m' : Int)
        · rfl
        · rw [sub _ hc] at g3; cases g3.1
      rw [ne, nc] at a
      rw [Int.toNat_natCast]
      simpa using a
  have := key o.length (Nat.le_refl _)
  rwa [Nat.sub_self, List.drop_zero, List.take_zero] at this
theorem hasB_append {o s : List Int} {x : Int} : hasB (o ++ s) x = (hasB o x || hasB s x) := by
  rw [Bool.eq_iff_iff, Bool.or_eq_true, hasB_iff, hasB_iff, hasB_iff, List.mem_append]
theorem bad_none {l : List Spn} {st0 : St} {o : List Int} {n m : Nat} (hn : n < l.length) (hb : hasB o (n : Int) = false) (h : (okNext l o n && ((whyF (stAfter l st0 o) (sp l n)).1 == 0)) = false) : naive l st0 m (o ++ [(n : Int)]) = none := by
  cases hq : naive l st0 m (o ++ [(n : Int)]) with
  | none => rfl
  | some r =>
    exfalso
    obtain ⟨s, e, hk⟩ := naive_some hq
    subst e
    unfold okRow at hk
    rw [Bool.and_eq_true, List.append_assoc] at hk
    have ht := runOK_tail hk.2
    have ht' : (noneAhead l s n && ((whyF (stAfter l st0 o) (sp l (n : Int).toNat)).1 == 0) && runOK l (whyF (stAfter l st0 o) (sp l (n : Int).toNat)).2 s) = true := ht
    rw [Bool.and_eq_true, Bool.and_eq_true, Int.toNat_natCast] at ht'
    rw [ht'.1.2, Bool.and_true] at h
    unfold okNext at h
    rw [hb] at h
    simp only [Bool.not_false, Bool.true_and] at h
    have : ∃ q, q < l.length ∧ aheadAt l o n q = false := by
      cases hex : allB (aheadAt l o n) l.length
      · refine Classical.byContradiction fun hne => ?_
        have : allB (aheadAt l o n) l.length = true := allB_iff.mpr fun i hi => by
          cases ha : aheadAt l o n i
          · exact absurd ⟨i, hi, ha⟩ hne
          · rfl
        rw [this] at hex; cases hex
      · rw [hex] at h; cases h
    obtain ⟨q, hql, hqa⟩ := this
    unfold aheadAt at hqa
    simp only [Bool.not_eq_false', Bool.and_eq_true, bne_iff_ne, Bool.not_eq_true'] at hqa
    obtain ⟨⟨hne, hnc⟩, hbf⟩ := hqa
    have hr := allB_iff.mp hk.1 q hql
    unfold restAt at hr
    have hen : ((sp l q).en != -1) = true := by
      unfold bef at hbf
      rw [Bool.and_eq_true] at hbf
      exact hbf.1
    rw [hen] at hr
    simp only [Bool.true_and, Bool.not_not] at hr
    rw [hasB_append, hnc, Bool.false_or, hasB_iff] at hr
    simp only [List.singleton_append, List.mem_cons] at hr
    rcases hr with hr | hr
    · exact hne hr
    · have hna := ht'.1.1
      unfold noneAhead at hna
      have := List.all_eq_true.mp hna _ hr
      rw [Int.toNat_natCast, Int.toNat_natCast, hbf] at this
      cases this
theorem scanF_congr {f g : Nat → Option (List Int)} {j k : Nat} (h : ∀ i, j ≤ i → i < j + k → f i = g i) : scanF f j k = scanF g j k := by
  induction k generalizing j with
  | zero => rfl
  | succ k ih =>
    unfold scanF
    rw [h j (Nat.le_refl _) (by omega), ih (fun i h1 h2 => h i (by omega) (by omega))]
theorem naive_search {l : List Spn} {st0 : St} {m : Nat} {o : List Int} (h : Pre l st0 o) (hm : left l o ≤ m) : naive l st0 m o = searchF l m (stAfter l st0 o) o := by
  induction m generalizing o with
  | zero =>
    unfold naive searchF okRow
    rw [pre_run h, Bool.and_true]
  | succ m ih =>
    unfold naive searchF okRow
    rw [pre_run h, Bool.and_true]
    cases hr : restB l o
    · simp only [cond_false]
      refine scanF_congr fun n _ hn => ?_
      cases hb : hasB o (n : Int)
      · simp only [cond_false]
        unfold tryF
        cases hc : (okNext l o n && ((whyF (stAfter l st0 o) (sp l n)).1 == 0))
        · rw [bad_none (by omega) hb hc]; rfl
        · simp only [cond_true]
          rw [Bool.and_eq_true] at hc
          have hw : (whyF (stAfter l st0 o) (sp l n)).1 = 0 := by simpa using hc.2
          have hl := left_lt (l := l) (o := o) (n := n) (by omega) hb
          rw [ih (pre_snoc h (by omega) hc.1 hw) (by omega), stAfter_append]
          rfl
      · unfold tryF okNext
        rw [hb]; rfl
    · rfl
end Go.Proofs.Ytbanfaboimachaa
