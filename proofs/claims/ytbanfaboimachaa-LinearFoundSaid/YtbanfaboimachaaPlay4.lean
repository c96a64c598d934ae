
/-
  What a call answers, in one state: a right value and no error, or nothing has changed.
-/
import Derived.Test.YtbanfaboimachaaPlay1
namespace Go.Proofs.Ytbanfaboimachaa
open Go.RowKit
set_option linter.unusedSimpArgs false
set_option linter.unusedVariables false

def StRight : St → Prop
  | .qu _ l => ∀ x ∈ l, rightB x = true
  | _ => True
theorem fits_right {k v : Int} (h : fitsB k v = true) : rightB v = true := by
  unfold fitsB at h
  exact (Bool.and_eq_true_iff.mp h).1
theorem bad_fits {t : Bool} {c who v : Int} (h : badB t c who v = false) : fitsB c v = true := by
  unfold badB at h
  simp only [Bool.or_eq_false_iff, Bool.not_eq_false'] at h
  exact h.2
theorem stDo_right (c who v : Int) (st : St) (h : StRight st) : StRight (stDo c who v st).2 := by
  cases st with
  | qu size l =>
    show ∀ x ∈ (quDo c who v (size, l)).2.2, rightB x = true
    have hl : ∀ x ∈ l, rightB x = true := h
    unfold quDo
    cases hb : badB (quTk c) c who v
    · have hf := fits_right (bad_fits hb)
      simp only [cond_false]
      unfold quStep
      cases (c == 6 && decide (0 < (size, l).2.length))
      · cases (c == 5 && decide (((size, l).2.length : Int) < (size, l).1))
        · exact hl
        · intro x hx
          rcases List.mem_append.mp hx with hx | hx
          · exact hl x hx
          · rw [List.mem_singleton.mp hx]; exact hf
      · intro x hx
        exact hl x (List.mem_of_mem_tail hx)
    · exact hl
  | _ => trivial
theorem intV_right (n : Int) : rightB (intV n) = true := by
  unfold intV
  cases h : intOk n
  · rfl
  · have := (fltOf_num n).2
    unfold isNum at this
    simp only [cond_true]
    unfold rightB
    simp only [Bool.or_eq_true, decide_eq_true_eq]
    exact .inl this
def NoMore (av : Int) (ab : Bool) (ae : Int) (st st' : St) : Prop := (ab = false ∧ ae = 0 ∧ rightB av = true) ∨ (av = 0 ∧ st' = st ∧ ((ab = true ∧ ae = 0) ∨ (ab = false ∧ (ae == 0) = false)))
theorem stDo_law (c who v av ae : Int) (ab : Bool) (st st' : St) (hR : StRight st) (hr : stDo c who v st = ((av, ab, ae), st')) : NoMore av ab ae st st' := by
  cases st with
  | nil =>
    simp only [stDo, aErr, Prod.mk.injEq] at hr
    obtain ⟨⟨rfl, rfl, rfl⟩, rfl⟩ := hr
    exact .inr ⟨rfl, rfl, .inr ⟨rfl, rfl⟩⟩
  | mu o =>
    unfold stDo muDo muStep at hr
    cases h1 : badB (muTk c) c who v <;> cases h2 : (c == 2) <;> cases h3 : (o == who) <;> cases h4 : decide (0 ≤ o) <;> (simp only [h1, h2, h3, h4, cond_true, cond_false, aErr, aOne, aBlocks, Prod.mk.injEq] at hr; obtain ⟨⟨rfl, rfl, rfl⟩, rfl⟩ := hr) <;>
      first | exact .inl ⟨rfl, rfl, by decide⟩ | exact .inr ⟨rfl, rfl, .inr ⟨rfl, rfl⟩⟩ | exact .inr ⟨rfl, rfl, .inl ⟨rfl, rfl⟩⟩
  | se n =>
    unfold stDo seDo seStep at hr
    cases h1 : badB (seTk c) c who v <;> cases h2 : (c == 4) <;> cases h3 : (n == 0) <;> cases h4 : decide (99 ≤ n) <;> (simp only [h1, h2, h3, h4, cond_true, cond_false, aErr, aOne, aBlocks, Prod.mk.injEq] at hr; obtain ⟨⟨rfl, rfl, rfl⟩, rfl⟩ := hr) <;>
      first | exact .inl ⟨rfl, rfl, by decide⟩ | exact .inr ⟨rfl, rfl, .inr ⟨rfl, rfl⟩⟩ | exact .inr ⟨rfl, rfl, .inl ⟨rfl, rfl⟩⟩
  | qu size l =>
    have hl : ∀ x ∈ l, rightB x = true := hR
    unfold stDo quDo quStep at hr
    cases h1 : badB (quTk c) c who v <;> cases h2 : (c == 6 && decide (0 < l.length)) <;> cases h3 : (c == 5 && decide ((l.length : Int) < size)) <;> (simp only [h1, h2, h3, cond_true, cond_false, aErr, aOne, aBlocks, Prod.mk.injEq] at hr; obtain ⟨⟨rfl, rfl, rfl⟩, rfl⟩ := hr) <;>
      first | exact .inl ⟨rfl, rfl, by decide⟩ | exact .inr ⟨rfl, rfl, .inr ⟨rfl, rfl⟩⟩ | exact .inr ⟨rfl, rfl, .inl ⟨rfl, rfl⟩⟩ | (refine .inl ⟨rfl, rfl, ?_⟩; cases l with
        | nil => simp at h2
        | cons x xs => exact hl x (List.mem_cons_self ..))
  | ba s =>
    unfold stDo baDo baStep at hr
    have hg := intV_right s.2.2
    cases h1 : badB (baTk c) c who v <;> cases h2 : (c == 8) <;> cases h3 : (lessB v (intV s.2.2)) <;> cases h4 : (wrap64 (s.2.1 + 1) == s.1) <;> (simp only [h1, h2, h3, h4, cond_true, cond_false, aErr, aOne, aBlocks, Prod.mk.injEq] at hr; obtain ⟨⟨rfl, rfl, rfl⟩, rfl⟩ := hr) <;>
      first | exact .inl ⟨rfl, rfl, by decide⟩ | exact .inl ⟨rfl, rfl, hg⟩ | exact .inr ⟨rfl, rfl, .inr ⟨rfl, rfl⟩⟩ | exact .inr ⟨rfl, rfl, .inl ⟨rfl, rfl⟩⟩
end Go.Proofs.Ytbanfaboimachaa
