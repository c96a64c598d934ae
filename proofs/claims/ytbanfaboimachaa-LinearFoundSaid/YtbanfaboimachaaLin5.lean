
/-
  What the search finds is legal (plain); the orders of calls that overlap.
-/
import Derived.Test.YtbanfaboimachaaLin1
namespace Go.Proofs.Ytbanfaboimachaa
set_option linter.unusedSimpArgs false
set_option linter.unusedVariables false

def runF (l : List Spn) : St → List Int → Nat → Int × Int
  | _, [], _ => (0, 0)
  | st, n :: s, i => bif (whyF st (sp l n.toNat)).1 != 0 then ((i : Int), (whyF st (sp l n.toNat)).1) else runF l (whyF st (sp l n.toNat)).2 s (i + 1)
inductive Path (l : List Spn) : St → List Int → List Int → Prop where
  | nil (st : St) (o : List Int) : Path l st o []
  | cons (st : St) (o : List Int) (n : Nat) (s : List Int) (hn : n < l.length) (hk : okNext l o n = true) (hw : (whyF st (sp l n)).1 = 0) (h : Path l (whyF st (sp l n)).2 (o ++ [(n : Int)]) s) : Path l st o ((n : Int) :: s)
theorem scanF_some {f : Nat → Option (List Int)} {r : List Int} {j k : Nat} (h : scanF f j k = some r) : ∃ i, j ≤ i ∧ i < j + k ∧ f i = some r := by
  induction k generalizing j with
  | zero => cases h
  | succ k ih =>
    unfold scanF at h
    cases hf : f j with
    | some q => rw [hf] at h; exact ⟨j, Nat.le_refl _, by omega, by rw [hf]; exact h⟩
    | none =>
      rw [hf] at h
      obtain ⟨i, h1, h2, h3⟩ := ih h
      exact ⟨i, by omega, by omega, h3⟩
theorem searchF_path {l : List Spn} {fuel : Nat} {st : St} {o r : List Int} (h : searchF l fuel st o = some r) : ∃ s, r = o ++ s ∧ restB l r = true ∧ Path l st o s := by
  induction fuel generalizing st o with
  | zero =>
    unfold searchF at h
    cases hr : restB l o
    · rw [hr] at h; cases h
    · rw [hr] at h
      obtain rfl := Option.some.inj h
      exact ⟨[], by simp, hr, .nil _ _⟩
  | succ fuel ih =>
    unfold searchF at h
    cases hr : restB l o
    · rw [hr] at h
      obtain ⟨n, _, hn, hf⟩ := scanF_some h
      unfold tryF at hf
      cases hc : (okNext l o n && ((whyF st (sp l n)).1 == 0))
      · rw [hc] at hf; cases hf
      · rw [hc] at hf
        rw [Bool.and_eq_true] at hc
        obtain ⟨s, e, h1, h2⟩ := ih hf
        exact ⟨(n : Int) :: s, by rw [e]; simp, h1, .cons st o n s (by omega) hc.1 (by simpa using hc.2) h2⟩
    · rw [hr] at h
      obtain rfl := Option.some.inj h
      exact ⟨[], by simp, hr, .nil _ _⟩
theorem path_run {l : List Spn} {st : St} {o s : List Int} (h : Path l st o s) (i : Nat) : runF l st s i = (0, 0) := by
  induction h generalizing i with
  | nil => rfl
  | cons st o n s hn hk hw h ih =>
    unfold runF
    rw [Int.toNat_natCast, hw]
    exact ih (i + 1)
theorem path_next {l : List Spn} {st : St} {o s : List Int} (h : Path l st o s) : ∀ i, i < s.length → ∃ n : Nat, s[i]? = some (n : Int) ∧ n < l.length ∧ okNext l (o ++ s.take i) n = true := by
  induction h with
  | nil => intro i hi; exact absurd hi (Nat.not_lt_zero _)
  | cons st o n s hn hk hw h ih =>
    intro i hi
    cases i with
    | zero => exact ⟨n, rfl, hn, by simpa using hk⟩
    | succ i =>
      obtain ⟨m, h1, h2, h3⟩ := ih i (by simpa using hi)
      exact ⟨m, by simpa using h1, h2, by rw [List.append_assoc] at h3; simpa using h3⟩
/-- An order of places, each once, and none ahead of one that had ended when it began. -/
def GoodOrder (l : List Spn) (o : List Int) : Prop := ∀ i, i < o.length → ∃ n : Nat, o[i]? = some (n : Int) ∧ n < l.length ∧ hasB (o.take i) (n : Int) = false ∧ ∀ j m, i < j → o[j]? = some (m : Int) → bef (sp l m.toNat) (sp l n) = false
theorem path_good {l : List Spn} {st : St} {o : List Int} (h : Path l st [] o) : GoodOrder l o := by
  intro i hi
  obtain ⟨n, h1, h2, h3⟩ := path_next h i hi
  rw [List.nil_append] at h3
  have h3' := h3
  unfold okNext at h3
  rw [Bool.and_eq_true, Bool.not_eq_true'] at h3
  refine ⟨n, h1, h2, h3.1, fun j m hij hj => ?_⟩
  have hjl : j < o.length := (List.getElem?_eq_some_iff.mp hj).1
  obtain ⟨m', g1, g2, g3⟩ := path_next h j hjl
  rw [List.nil_append] at g3
  obtain rfl : m = (m' : Int) := by rw [g1] at hj; exact (Option.some.inj hj).symm
  rw [Int.toNat_natCast]
  unfold okNext at g3
  rw [Bool.and_eq_true, Bool.not_eq_true'] at g3
  have a := allB_iff.mp h3.2 m' g2
  unfold aheadAt at a
  have ne : ((m' : Int) != (n : Int)) = true := by
    rw [bne_iff_ne]
    intro e
    have : hasB (o.take j) (m' : Int) = true := by
      rw [hasB_iff, e]
      refine List.mem_iff_getElem?.mpr ⟨i, ?_⟩
      rw [List.getElem?_take, if_pos hij]
      exact h1
    rw [this] at g3
    cases g3.1
  have nc : hasB (o.take i) (m' : Int) = false := by
    cases hc : hasB (o.take i) (m' : Int)
    · rfl
    · rw [hasB_iff] at hc
      have : hasB (o.take j) (m' : Int) = true := by
        rw [hasB_iff]
        obtain ⟨q, hq⟩ := List.mem_iff_getElem?.mp hc
        rw [List.getElem?_take] at hq
        split at hq
        · refine List.mem_iff_getElem?.mpr ⟨q, ?_⟩
          rw [List.getElem?_take, if_pos (by omega)]
          exact hq
        · cases hq
      rw [this] at g3
      cases g3.1
  rw [ne, nc] at a
  simpa using a
theorem searchF_good {l : List Spn} {fuel : Nat} {st : St} {o : List Int} (h : searchF l fuel st [] = some o) : GoodOrder l o ∧ restB l o = true ∧ runF l st o 0 = (0, 0) := by
  obtain ⟨s, e, h1, h2⟩ := searchF_path h
  rw [List.nil_append] at e
  subst e
  exact ⟨path_good h2, h1, path_run h2 0⟩
theorem cnt_le (p : Nat → Bool) (n : Nat) : cntB p n ≤ n := by
  induction n with
  | zero => exact Nat.le_refl _
  | succ n ih => unfold cntB; cases p n <;> simp only [cond_false, cond_true] <;> omega
theorem good_short {l : List Spn} {o : List Int} (h : GoodOrder l o) : o.length ≤ l.length := by
  have key : ∀ i, i ≤ o.length → i + left l (o.take i) ≤ l.length := by
    intro i
    induction i with
    | zero => intro _; have := cnt_le (fun n => !hasB (o.take 0) ((n : Nat) : Int)) l.length; unfold left; omega
    | succ i ih =>
      intro hi
      obtain ⟨n, h1, h2, h3, _⟩ := h i (by omega)
      have e : o.take (i + 1) = o.take i ++ [(n : Int)] := by rw [List.take_add_one, h1]; rfl
      have := left_lt h2 h3
      rw [← e] at this
      have := ih (by omega)
      omega
  have := key o.length (Nat.le_refl _)
  omega

def resF : Option (List Int) → List Int × Int
  | none => ([], 5)
  | some o => (o, 0)
def foundF (k size : Int) (l : List Spn) (g : Bool) : List Int × Int :=
  bif !g then ([], 3) else bif decide (6 < l.length) then ([], 4) else resF (searchF l (left l []) (stNew k size) [])
end Go.Proofs.Ytbanfaboimachaa
