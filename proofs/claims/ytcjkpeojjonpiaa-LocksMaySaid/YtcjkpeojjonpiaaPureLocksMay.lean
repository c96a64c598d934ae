import Derived.Test.YtcjkpeojjonpiaaPLocksMayx10
namespace Go.Proofs.Ytcjkpeojjonpiaa.PureLocksMay
open Go.RowKit Go.Proofs.Ytcjkpeojjonpiaa.PLocksMay Go.Proofs.YtcjkpeojjonpiaaW.PrintWords Go.Proofs.YtcjkpeojjonpiaaW.PrintLast

def G (k : Nat) (a0 t u : Int) : Option Bool := (rowlocklaw22_one.f a0 t u).bind fun bt413 => ((some (([] : List (S35)) : List (S35))).bind fun y421 => (if y421.length + bt413.1.length < 5864062014805 then ((some (y421 ++ bt413.1 : List (S35))).bind fun y424 => (if y424.length < 5864062014805 then ((rowlockref15_Check.f k (y424 ++ [(⟨28, 0, 0⟩ : S35)]) (wrap64 (t + 1))).bind fun bt430 => ((rowlocklaw22_live.f).bind fun t432 => (if t432 = true then (if bt413.2.2.2.2 = 0 then (some (bt430.2 == 0)) else (some false)) else (some false)))) else (none))) else (none)))
theorem f_G (k : Nat) (a0 a1 a2 : Int) : rowlocklaw22_LocksMay.f k a0 a1 a2 = G k a0 (Int.tmod (wrap64 a1) 12) (Int.tmod (wrap64 a2) 4) := rfl
theorem tm (a b : Int) (h : 0 ≤ a) : Int.tmod a b = a % b := Int.tmod_eq_emod_of_nonneg h
theorem one_mod (a0 t u : Int) (h : 0 ≤ a0) : rowlocklaw22_one.f a0 t u = rowlocklaw22_one.f (Int.tmod a0 4) t u := by
  have e : Int.tmod (Int.tmod a0 4) 4 = Int.tmod a0 4 := by
    rw [tm a0 4 h, tm _ 4 (by omega)]
    omega
  unfold rowlocklaw22_one.f
  rw [e]
theorem G_mod (k : Nat) (a0 t u : Int) (h : 0 ≤ a0) : G k a0 t u = G k (Int.tmod a0 4) t u := by
  unfold G
  rw [one_mod a0 t u h]
set_option maxRecDepth 100000 in
theorem G_all : ((List.range 4).all fun m => (List.range 12).all fun t => (List.range 4).all fun u => G 400 (m : Nat) (t : Nat) (u : Nat) == some true) = true := by
  decide +kernel

end Go.Proofs.Ytcjkpeojjonpiaa.PureLocksMay
namespace Go.Proofs.Ytcjkpeojjonpiaa.Pure
open Go.RowKit Go.Proofs.Ytcjkpeojjonpiaa.PLocksMay Go.Proofs.Ytcjkpeojjonpiaa.PureLocksMay
theorem LocksMay : rowlocklaw22_LocksMay.Pure := by
  intro a0 a1 a2 h0 h1 h2
  refine ⟨400, ?_⟩
  have k0 : IntKind.u8.min = 0 := rfl
  have k1 : IntKind.u8.max = 255 := rfl
  simp only [Lit.wf, decide_eq_true_eq, Bool.and_eq_true, k0, k1] at h0 h1 h2
  rw [f_G, G_mod _ _ _ _ h0.1]
  have b0 : 0 ≤ Int.tmod a0 4 ∧ Int.tmod a0 4 < 4 := by rw [tm _ _ h0.1]; omega
  have v1 : wrap64 a1 = a1 := by unfold wrap64; omega
  have v2 : wrap64 a2 = a2 := by unfold wrap64; omega
  have b1 : 0 ≤ Int.tmod (wrap64 a1) 12 ∧ Int.tmod (wrap64 a1) 12 < 12 := by rw [v1, tm _ _ h1.1]; omega
  have b2 : 0 ≤ Int.tmod (wrap64 a2) 4 ∧ Int.tmod (wrap64 a2) 4 < 4 := by rw [v2, tm _ _ h2.1]; omega
  clear v1 v2 h0 h1 h2
  generalize Int.tmod a0 4 = m at *
  generalize Int.tmod (wrap64 a1) 12 = t at *
  generalize Int.tmod (wrap64 a2) 4 = u at *
  obtain ⟨m', rfl⟩ := Int.eq_ofNat_of_zero_le b0.1
  obtain ⟨t', rfl⟩ := Int.eq_ofNat_of_zero_le b1.1
  obtain ⟨u', rfl⟩ := Int.eq_ofNat_of_zero_le b2.1
  have := G_all
  rw [List.all_eq_true] at this
  have := this m' (List.mem_range.2 (by omega))
  rw [List.all_eq_true] at this
  have := this t' (List.mem_range.2 (by omega))
  rw [List.all_eq_true] at this
  have := this u' (List.mem_range.2 (by omega))
  exact eq_of_beq this

end Go.Proofs.Ytcjkpeojjonpiaa.Pure
