
/-
  Values that are sorted by Less: inserting one keeps a list sorted (plain).
-/
import Derived.Test.YtgodacagdglniaaWord
import Derived.Lib.Hide
namespace Go.Proofs.Ytgodacagdglniaa
set_option linter.unusedSimpArgs false

def at0 (l : List Int) (j : Nat) : Int := (l[j]?).getD 0
def Srt (l : List Int) : Prop := (∀ x ∈ l, W64 x ∧ rightB x = true) ∧ ∀ j, j + 1 < l.length → lessB (at0 l (j + 1)) (at0 l j) = false
theorem at0_mem {l : List Int} {j : Nat} (h : j < l.length) : at0 l j ∈ l := by
  unfold at0
  rw [List.getElem?_eq_getElem h]
  exact List.getElem_mem h
theorem at0_ins (l : List Int) (v : Int) (k : Nat) (hk : k ≤ l.length) (j : Nat) : at0 ((l.take k ++ [v]) ++ l.drop k) j = if j < k then at0 l j else if j = k then v else at0 l (j - 1) := by
  unfold at0
  have hl : (l.take k).length = k := by simp; omega
  by_cases h1 : j < k
  · rw [if_pos h1, List.getElem?_append_left (by simp; omega), List.getElem?_append_left (by omega), List.getElem?_take, if_pos h1]
  · rw [if_neg h1]
    by_cases h2 : j = k
    · subst h2
      rw [if_pos rfl, List.getElem?_append_left (by simp; omega), List.getElem?_append_right (by omega), hl]
      simp
    · rw [if_neg h2, List.getElem?_append_right (by simp; omega)]
      simp only [List.length_append, List.length_singleton, hl]
      rw [List.getElem?_drop]
      congr 2
      omega
theorem less_asym {a b : Int} (h : lessB a b = true) : lessB b a = false := by
  unfold lessB at *
  have := of_decide_eq_true h
  exact decide_eq_false (by omega)
theorem srt_ins {l : List Int} {v : Int} {k : Nat} (hk : k ≤ l.length) (hS : Srt l) (hv : W64 v) (hr : rightB v = true) (h1 : ∀ j, j < k → lessB v (at0 l j) = false) (h2 : k < l.length → lessB v (at0 l k) = true) : Srt ((l.take k ++ [v]) ++ l.drop k) := by
  obtain ⟨hm, ho⟩ := hS
  refine ⟨?_, ?_⟩
  · intro x hx
    simp only [List.mem_append, List.mem_singleton] at hx
    rcases hx with (hx | rfl) | hx
    · exact hm x (List.mem_of_mem_take hx)
    · exact ⟨hv, hr⟩
    · exact hm x (List.mem_of_mem_drop hx)
  · intro j hj
    have hlen : ((l.take k ++ [v]) ++ l.drop k).length = l.length + 1 := by simp; omega
    rw [hlen] at hj
    rw [at0_ins l v k hk, at0_ins l v k hk]
    by_cases a : j + 1 < k
    · rw [if_pos a, if_pos (by omega)]; exact ho j (by omega)
    · rw [if_neg a]
      by_cases b : j + 1 = k
      · rw [if_pos b, if_pos (by omega)]; exact h1 j (by omega)
      · rw [if_neg b, if_neg (by omega)]
        by_cases c : j = k
        · subst c
          rw [if_pos rfl, show j + 1 - 1 = j by omega]; exact less_asym (h2 (by omega))
        · rw [if_neg c, show j + 1 - 1 = (j - 1) + 1 by omega]; exact ho (j - 1) (by omega)
/-- What stands behind one that is not less. -/
def Above (a b : Int) : Prop := lessB a b = false ∧ ((classOf b == 3) = true → (classOf a != 3) = false) ∧ ((a == 9223372036854775808) = true → (b == 0) = false) ∧ ((a == 18442240474082181120) = true → (b != a) = false)
theorem right_low {v : Int} (h : rightB v = true) (hn : ¬ v = 9221120237041090560) : low v ≤ 9218868437227405312 := by
  unfold rightB at h
  simp only [Bool.or_eq_true, decide_eq_true_eq, beq_iff_eq] at h
  rcases h with h | h
  · exact h
  · exact absurd h hn
theorem above_of {a b : Int} (ha : W64 a) (hb : W64 b) (ra : rightB a = true) (rb : rightB b = true) (h : lessB a b = false) : Above a b := by
  have ca := canon_of_right ra
  have cb := canon_of_right rb
  have hl : rankV b ≤ rankV a := by
    unfold lessB at h
    have := of_decide_eq_false h
    omega
  unfold rankV at hl
  rw [ca, cb] at hl
  refine ⟨h, ?_, ?_, ?_⟩
  · intro h3
    have hb3 : b = 9221120237041090560 := by
      rw [class_nan hb, cb] at h3
      simpa using h3
    have : a = 9221120237041090560 := by
      by_cases hn : a = 9221120237041090560
      · exact hn
      · have l1 := right_low ra hn
        unfold low at l1
        obtain ⟨a0, a1⟩ := ha
        subst hb3
        split at hl <;> split at hl <;> omega
    have h4 : (classOf a == 3) = true := by rw [class_nan ha, ca, this]; rfl
    simp only [bne, h4, Bool.not_true]
  · intro h1
    have e : a = 9223372036854775808 := by simpa using h1
    by_cases hb0 : b = 0
    · subst e
      subst hb0
      simp at hl
    · simpa using hb0
  · intro h1
    have e : a = 18442240474082181120 := by simpa using h1
    have : b = a := by
      by_cases hn : b = 9221120237041090560
      · subst e
        subst hn
        simp at hl
      · have l1 := right_low rb hn
        unfold low at l1
        obtain ⟨b0, b1⟩ := hb
        subst e
        split at hl <;> split at hl <;> omega
    simp [this]
theorem srt_above {l : List Int} (h : Srt l) {j : Nat} (hj : j + 1 < l.length) : Above (at0 l (j + 1)) (at0 l j) :=
  above_of (h.1 _ (at0_mem hj)).1 (h.1 _ (at0_mem (by omega))).1 (h.1 _ (at0_mem hj)).2 (h.1 _ (at0_mem (by omega))).2 (h.2 j hj)
end Go.Proofs.Ytgodacagdglniaa
