-- Written by a program of this session, over the kit's print; the contracts of some functions by hand.
import Derived.Test.YtcjkpeojjonpiaaPLocksMayx0
import Derived.Test.YtcjkpeojjonpiaaPLocksMayx4
namespace Go.Proofs.Ytcjkpeojjonpiaa.PLocksMay
open Go.RowKit Go.Proofs.YtcjkpeojjonpiaaW.PrintWords Go.Proofs.YtcjkpeojjonpiaaW.PrintLast Go.Proofs.YtcjkpeojjonpiaaW.PrintMore
attribute [local go_sem] max2_int min2_int max_two min_two max_three min_three max_four min_four   -- for this text's walks alone
set_option linter.unusedVariables false
set_option linter.unusedSimpArgs false

/-! ### rowlockref15_Brackets: function 66 -/
mutual
def rowlockref15_Brackets.l0 : Nat → List (S35) → Bool → List Int → List Int → List Int → Int → Int → Option (List Int × List Int × Int × Int)
  | 0, _, _, _, _, _, _, _ => none
  | k + 1, x0, x1, x8, x9, x10, x11, x12 => if x12 < (x0.length : Int) then (if (x10.length : Int) > 0 then (if 0 ≤ (wrap64 ((x10.length : Int) - 1)) then (if (wrap64 ((x10.length : Int) - 1)) < (x10.length : Int) then (rowlockref15_Brackets.j1 k x0 x1 x8 x9 x10 x11 x12 (rd x10 (wrap64 ((x10.length : Int) - 1)))) else (none)) else (none)) else (rowlockref15_Brackets.j1 k x0 x1 x8 x9 x10 x11 x12 (-1))) else (if x11 < 0 then (rowlockref15_Brackets.j6 k x8 x9 x10 x11 (decide ((x10.length : Int) > 0))) else (rowlockref15_Brackets.j6 k x8 x9 x10 x11 false))
def rowlockref15_Brackets.j1 : Nat → List (S35) → Bool → List Int → List Int → List Int → Int → Int → Int → Option (List Int × List Int × Int × Int)
  | 0, _, _, _, _, _, _, _, _ => none
  | k + 1, x0, x1, x8, x9, x10, x11, x12, x13 => if 0 ≤ x12 then (if x12 < (x0.length : Int) then (if x8.length < 17592186044416 then ((some (x8 ++ [x13] : List Int)).bind fun y280 => (if x9.length < 17592186044416 then ((some (x9 ++ [(-1)] : List Int)).bind fun y283 => (if ((rd_T35 x0 x12).f0) = 21 then (if x13 ≥ 0 then (rowlockref15_Brackets.j2 k x0 x1 y280 y283 x10 x11 x12 x13 ((rd_T35 x0 x12).f0) true) else (if ((rd_T35 x0 x12).f0) = 23 then (if x13 < 0 then (rowlockref15_Brackets.j2 k x0 x1 y280 y283 x10 x11 x12 x13 ((rd_T35 x0 x12).f0) true) else ((rowlockref15_arms.f k x0 x10).bind fun t286 => (rowlockref15_Brackets.j2 k x0 x1 y280 y283 x10 x11 x12 x13 ((rd_T35 x0 x12).f0) (decide (t286 ≥ 4))))) else (rowlockref15_Brackets.j2 k x0 x1 y280 y283 x10 x11 x12 x13 ((rd_T35 x0 x12).f0) false))) else (if ((rd_T35 x0 x12).f0) = 23 then (if x13 < 0 then (rowlockref15_Brackets.j2 k x0 x1 y280 y283 x10 x11 x12 x13 ((rd_T35 x0 x12).f0) true) else ((rowlockref15_arms.f k x0 x10).bind fun t287 => (rowlockref15_Brackets.j2 k x0 x1 y280 y283 x10 x11 x12 x13 ((rd_T35 x0 x12).f0) (decide (t287 ≥ 4))))) else (rowlockref15_Brackets.j2 k x0 x1 y280 y283 x10 x11 x12 x13 ((rd_T35 x0 x12).f0) false)))) else (none))) else (none)) else (none)) else (none)
def rowlockref15_Brackets.j2 : Nat → List (S35) → Bool → List Int → List Int → List Int → Int → Int → Int → Int → Bool → Option (List Int × List Int × Int × Int)
  | 0, _, _, _, _, _, _, _, _, _, _ => none
  | k + 1, x0, x1, x8, x9, x10, x11, x12, x13, x14, x15 => (rowlockref15_closes.f x14).bind fun t288 => (if t288 = 0 then (rowlockref15_Brackets.j4 k x0 x1 x8 x9 x10 x11 x12 x14 x15) else (if x13 < 0 then (rowlockref15_Brackets.j3 k x0 x1 x8 x9 x10 x11 x12 x13 x14 x15 true) else (if 0 ≤ x13 then (if x13 < (x0.length : Int) then (rowlockref15_Brackets.j3 k x0 x1 x8 x9 x10 x11 x12 x13 x14 x15 (((rd_T35 x0 x13).f0) != t288)) else (none)) else (none))))
def rowlockref15_Brackets.j4 : Nat → List (S35) → Bool → List Int → List Int → List Int → Int → Int → Int → Bool → Option (List Int × List Int × Int × Int)
  | 0, _, _, _, _, _, _, _, _, _ => none
  | k + 1, x0, x1, x8, x9, x10, x11, x12, x14, x15 => if x15 = true then (if x11 < 0 then (rowlockref15_Brackets.j5 k x0 x1 x8 x9 x10 x11 x12 x14 true) else (rowlockref15_Brackets.j5 k x0 x1 x8 x9 x10 x11 x12 x14 (decide (x12 < x11)))) else (rowlockref15_Brackets.j5 k x0 x1 x8 x9 x10 x11 x12 x14 false)
def rowlockref15_Brackets.j5 : Nat → List (S35) → Bool → List Int → List Int → List Int → Int → Int → Int → Bool → Option (List Int × List Int × Int × Int)
  | 0, _, _, _, _, _, _, _, _, _ => none
  | k + 1, x0, x1, x8, x9, x10, x11, x12, x14, x119 => if x119 = true then ((rowlockref15_opens.f x14).bind fun t302 => (if t302 = true then ((some (([] : List Int) : List Int)).bind fun y303 => (if y303.length + x10.length < 17592186044416 then ((some (y303 ++ x10 : List Int)).bind fun y306 => (if y306.length < 17592186044416 then (rowlockref15_Brackets.l0 k x0 x1 x8 x9 (y306 ++ [x12]) x12 (wrap64 (x12 + 1))) else (none))) else (none))) else (rowlockref15_Brackets.l0 k x0 x1 x8 x9 x10 x12 (wrap64 (x12 + 1))))) else ((rowlockref15_opens.f x14).bind fun t312 => (if t312 = true then ((some (([] : List Int) : List Int)).bind fun y313 => (if y313.length + x10.length < 17592186044416 then ((some (y313 ++ x10 : List Int)).bind fun y316 => (if y316.length < 17592186044416 then (rowlockref15_Brackets.l0 k x0 x1 x8 x9 (y316 ++ [x12]) x11 (wrap64 (x12 + 1))) else (none))) else (none))) else (rowlockref15_Brackets.l0 k x0 x1 x8 x9 x10 x11 (wrap64 (x12 + 1)))))
def rowlockref15_Brackets.j3 : Nat → List (S35) → Bool → List Int → List Int → List Int → Int → Int → Int → Int → Bool → Bool → Option (List Int × List Int × Int × Int)
  | 0, _, _, _, _, _, _, _, _, _, _, _ => none
  | k + 1, x0, x1, x8, x9, x10, x11, x12, x13, x14, x15, x78 => if x78 = true then (rowlockref15_Brackets.j4 k x0 x1 x8 x9 x10 x11 x12 x14 true) else (if 0 ≤ x13 then (if x13 < (x9.length : Int) then ((some (x9.set (x13 : Int).toNat x12 : List Int)).bind fun y290 => ((some (([] : List Int) : List Int)).bind fun y291 => (if 0 ≤ (wrap64 ((x10.length : Int) - 1)) then (if (wrap64 ((x10.length : Int) - 1)) ≤ (x10.length : Int) then ((some (x10.take ((wrap64 ((x10.length : Int) - 1)) : Int).toNat : List Int)).bind fun y294 => (if y291.length + y294.length < 17592186044416 then ((some (y291 ++ y294 : List Int)).bind fun y298 => (if x1 = true then (if x13 < (x0.length : Int) then (if ((rd_T35 x0 x13).f1) = x12 then (rowlockref15_Brackets.j4 k x0 x1 x8 y290 y298 x11 x12 x14 x15) else (if x11 < 0 then (rowlockref15_Brackets.j4 k x0 x1 x8 y290 y298 x13 x12 x14 x15) else (if x13 < x11 then (rowlockref15_Brackets.j4 k x0 x1 x8 y290 y298 x13 x12 x14 x15) else (rowlockref15_Brackets.j4 k x0 x1 x8 y290 y298 x11 x12 x14 x15)))) else (none)) else (rowlockref15_Brackets.j4 k x0 x1 x8 y290 y298 x11 x12 x14 x15))) else (none))) else (none)) else (none)))) else (none)) else (none))
def rowlockref15_Brackets.j6 : Nat → List Int → List Int → List Int → Int → Bool → Option (List Int × List Int × Int × Int)
  | 0, _, _, _, _, _ => none
  | k + 1, x8, x9, x10, x11, x135 => if x135 = true then (if 0 ≤ (wrap64 ((x10.length : Int) - 1)) then (if (wrap64 ((x10.length : Int) - 1)) < (x10.length : Int) then (if (rd x10 (wrap64 ((x10.length : Int) - 1))) ≥ 0 then (some (([] : List Int), ([] : List Int), rd x10 (wrap64 ((x10.length : Int) - 1)), 8)) else (some (x8, x9, 0, 0))) else (none)) else (none)) else (if x11 ≥ 0 then (some (([] : List Int), ([] : List Int), x11, 8)) else (some (x8, x9, 0, 0)))
end
def rowlockref15_Brackets.f (k : Nat) (l0 : List (S35)) (a1 : Bool) : Option (List Int × List Int × Int × Int) := rowlockref15_Brackets.l0 k l0 a1 ([] : List Int) ([] : List Int) ([] : List Int) (-1) 0
theorem rowlockref15_Brackets.mono_l : ∀ k, (∀ y0 y1 y2 y3 y4 y5 y6, LeO (rowlockref15_Brackets.l0 k y0 y1 y2 y3 y4 y5 y6) (rowlockref15_Brackets.l0 (k + 1) y0 y1 y2 y3 y4 y5 y6)) ∧ (∀ y0 y1 y2 y3 y4 y5 y6 y7, LeO (rowlockref15_Brackets.j1 k y0 y1 y2 y3 y4 y5 y6 y7) (rowlockref15_Brackets.j1 (k + 1) y0 y1 y2 y3 y4 y5 y6 y7)) ∧ (∀ y0 y1 y2 y3 y4 y5 y6 y7 y8 y9, LeO (rowlockref15_Brackets.j2 k y0 y1 y2 y3 y4 y5 y6 y7 y8 y9) (rowlockref15_Brackets.j2 (k + 1) y0 y1 y2 y3 y4 y5 y6 y7 y8 y9)) ∧ (∀ y0 y1 y2 y3 y4 y5 y6 y7 y8, LeO (rowlockref15_Brackets.j4 k y0 y1 y2 y3 y4 y5 y6 y7 y8) (rowlockref15_Brackets.j4 (k + 1) y0 y1 y2 y3 y4 y5 y6 y7 y8)) ∧ (∀ y0 y1 y2 y3 y4 y5 y6 y7 y8, LeO (rowlockref15_Brackets.j5 k y0 y1 y2 y3 y4 y5 y6 y7 y8) (rowlockref15_Brackets.j5 (k + 1) y0 y1 y2 y3 y4 y5 y6 y7 y8)) ∧ (∀ y0 y1 y2 y3 y4 y5 y6 y7 y8 y9 y10, LeO (rowlockref15_Brackets.j3 k y0 y1 y2 y3 y4 y5 y6 y7 y8 y9 y10) (rowlockref15_Brackets.j3 (k + 1) y0 y1 y2 y3 y4 y5 y6 y7 y8 y9 y10)) ∧ (∀ y0 y1 y2 y3 y4, LeO (rowlockref15_Brackets.j6 k y0 y1 y2 y3 y4) (rowlockref15_Brackets.j6 (k + 1) y0 y1 y2 y3 y4))
  | 0 => ⟨fun _ _ _ _ _ _ _ r h => by simp [rowlockref15_Brackets.l0] at h, fun _ _ _ _ _ _ _ _ r h => by simp [rowlockref15_Brackets.j1] at h, fun _ _ _ _ _ _ _ _ _ _ r h => by simp [rowlockref15_Brackets.j2] at h, fun _ _ _ _ _ _ _ _ _ r h => by simp [rowlockref15_Brackets.j4] at h, fun _ _ _ _ _ _ _ _ _ r h => by simp [rowlockref15_Brackets.j5] at h, fun _ _ _ _ _ _ _ _ _ _ _ r h => by simp [rowlockref15_Brackets.j3] at h, fun _ _ _ _ _ r h => by simp [rowlockref15_Brackets.j6] at h⟩
  | k + 1 => by
    obtain ⟨ih0, ih1, ih2, ih3, ih4, ih5, ih6⟩ := rowlockref15_Brackets.mono_l k
    refine ⟨?_, ?_, ?_, ?_, ?_, ?_, ?_⟩
    · intro y0 y1 y2 y3 y4 y5 y6
      unfold rowlockref15_Brackets.l0
      repeat' first
      | (with_reducible exact ih0 _ _ _ _ _ _ _)
      | (with_reducible exact ih1 _ _ _ _ _ _ _ _)
      | (with_reducible exact ih2 _ _ _ _ _ _ _ _ _ _)
      | (with_reducible exact ih3 _ _ _ _ _ _ _ _ _)
      | (with_reducible exact ih4 _ _ _ _ _ _ _ _ _)
      | (with_reducible exact ih5 _ _ _ _ _ _ _ _ _ _ _)
      | (with_reducible exact ih6 _ _ _ _ _)
      | (with_reducible exact rowlockref15_arms.mono _ _ _)
      | (with_reducible exact LeO.refl _)
      | (with_reducible exact LeO.none _)
      | (with_reducible refine LeO.ite ?_ ?_)
      | (with_reducible refine LeO.bind ?_ (fun _ => ?_))
      | exact ih0 _ _ _ _ _ _ _
      | exact ih1 _ _ _ _ _ _ _ _
      | exact ih2 _ _ _ _ _ _ _ _ _ _
      | exact ih3 _ _ _ _ _ _ _ _ _
      | exact ih4 _ _ _ _ _ _ _ _ _
      | exact ih5 _ _ _ _ _ _ _ _ _ _ _
      | exact ih6 _ _ _ _ _
      | exact rowlockref15_arms.mono _ _ _
      | exact LeO.none _
      | refine LeO.ite ?_ ?_
      | refine LeO.bind ?_ (fun _ => ?_)
    · intro y0 y1 y2 y3 y4 y5 y6 y7
      unfold rowlockref15_Brackets.j1
      repeat' first
      | (with_reducible exact ih0 _ _ _ _ _ _ _)
      | (with_reducible exact ih1 _ _ _ _ _ _ _ _)
      | (with_reducible exact ih2 _ _ _ _ _ _ _ _ _ _)
      | (with_reducible exact ih3 _ _ _ _ _ _ _ _ _)
      | (with_reducible exact ih4 _ _ _ _ _ _ _ _ _)
      | (with_reducible exact ih5 _ _ _ _ _ _ _ _ _ _ _)
      | (with_reducible exact ih6 _ _ _ _ _)
      | (with_reducible exact rowlockref15_arms.mono _ _ _)
      | (with_reducible exact LeO.refl _)
      | (with_reducible exact LeO.none _)
      | (with_reducible refine LeO.ite ?_ ?_)
      | (with_reducible refine LeO.bind ?_ (fun _ => ?_))
      | exact ih0 _ _ _ _ _ _ _
      | exact ih1 _ _ _ _ _ _ _ _
      | exact ih2 _ _ _ _ _ _ _ _ _ _
      | exact ih3 _ _ _ _ _ _ _ _ _
      | exact ih4 _ _ _ _ _ _ _ _ _
      | exact ih5 _ _ _ _ _ _ _ _ _ _ _
      | exact ih6 _ _ _ _ _
      | exact rowlockref15_arms.mono _ _ _
      | exact LeO.none _
      | refine LeO.ite ?_ ?_
      | refine LeO.bind ?_ (fun _ => ?_)
    · intro y0 y1 y2 y3 y4 y5 y6 y7 y8 y9
      unfold rowlockref15_Brackets.j2
      repeat' first
      | (with_reducible exact ih0 _ _ _ _ _ _ _)
      | (with_reducible exact ih1 _ _ _ _ _ _ _ _)
      | (with_reducible exact ih2 _ _ _ _ _ _ _ _ _ _)
      | (with_reducible exact ih3 _ _ _ _ _ _ _ _ _)
      | (with_reducible exact ih4 _ _ _ _ _ _ _ _ _)
      | (with_reducible exact ih5 _ _ _ _ _ _ _ _ _ _ _)
      | (with_reducible exact ih6 _ _ _ _ _)
      | (with_reducible exact rowlockref15_arms.mono _ _ _)
      | (with_reducible exact LeO.refl _)
      | (with_reducible exact LeO.none _)
      | (with_reducible refine LeO.ite ?_ ?_)
      | (with_reducible refine LeO.bind ?_ (fun _ => ?_))
      | exact ih0 _ _ _ _ _ _ _
      | exact ih1 _ _ _ _ _ _ _ _
      | exact ih2 _ _ _ _ _ _ _ _ _ _
      | exact ih3 _ _ _ _ _ _ _ _ _
      | exact ih4 _ _ _ _ _ _ _ _ _
      | exact ih5 _ _ _ _ _ _ _ _ _ _ _
      | exact ih6 _ _ _ _ _
      | exact rowlockref15_arms.mono _ _ _
      | exact LeO.none _
      | refine LeO.ite ?_ ?_
      | refine LeO.bind ?_ (fun _ => ?_)
    · intro y0 y1 y2 y3 y4 y5 y6 y7 y8
      unfold rowlockref15_Brackets.j4
      repeat' first
      | (with_reducible exact ih0 _ _ _ _ _ _ _)
      | (with_reducible exact ih1 _ _ _ _ _ _ _ _)
      | (with_reducible exact ih2 _ _ _ _ _ _ _ _ _ _)
      | (with_reducible exact ih3 _ _ _ _ _ _ _ _ _)
      | (with_reducible exact ih4 _ _ _ _ _ _ _ _ _)
      | (with_reducible exact ih5 _ _ _ _ _ _ _ _ _ _ _)
      | (with_reducible exact ih6 _ _ _ _ _)
      | (with_reducible exact rowlockref15_arms.mono _ _ _)
      | (with_reducible exact LeO.refl _)
      | (with_reducible exact LeO.none _)
      | (with_reducible refine LeO.ite ?_ ?_)
      | (with_reducible refine LeO.bind ?_ (fun _ => ?_))
      | exact ih0 _ _ _ _ _ _ _
      | exact ih1 _ _ _ _ _ _ _ _
      | exact ih2 _ _ _ _ _ _ _ _ _ _
      | exact ih3 _ _ _ _ _ _ _ _ _
      | exact ih4 _ _ _ _ _ _ _ _ _
      | exact ih5 _ _ _ _ _ _ _ _ _ _ _
      | exact ih6 _ _ _ _ _
      | exact rowlockref15_arms.mono _ _ _
      | exact LeO.none _
      | refine LeO.ite ?_ ?_
      | refine LeO.bind ?_ (fun _ => ?_)
    · intro y0 y1 y2 y3 y4 y5 y6 y7 y8
      unfold rowlockref15_Brackets.j5
      repeat' first
      | (with_reducible exact ih0 _ _ _ _ _ _ _)
      | (with_reducible exact ih1 _ _ _ _ _ _ _ _)
      | (with_reducible exact ih2 _ _ _ _ _ _ _ _ _ _)
      | (with_reducible exact ih3 _ _ _ _ _ _ _ _ _)
      | (with_reducible exact ih4 _ _ _ _ _ _ _ _ _)
      | (with_reducible exact ih5 _ _ _ _ _ _ _ _ _ _ _)
      | (with_reducible exact ih6 _ _ _ _ _)
      | (with_reducible exact rowlockref15_arms.mono _ _ _)
      | (with_reducible exact LeO.refl _)
      | (with_reducible exact LeO.none _)
      | (with_reducible refine LeO.ite ?_ ?_)
      | (with_reducible refine LeO.bind ?_ (fun _ => ?_))
      | exact ih0 _ _ _ _ _ _ _
      | exact ih1 _ _ _ _ _ _ _ _
      | exact ih2 _ _ _ _ _ _ _ _ _ _
      | exact ih3 _ _ _ _ _ _ _ _ _
      | exact ih4 _ _ _ _ _ _ _ _ _
      | exact ih5 _ _ _ _ _ _ _ _ _ _ _
      | exact ih6 _ _ _ _ _
      | exact rowlockref15_arms.mono _ _ _
      | exact LeO.none _
      | refine LeO.ite ?_ ?_
      | refine LeO.bind ?_ (fun _ => ?_)
    · intro y0 y1 y2 y3 y4 y5 y6 y7 y8 y9 y10
      unfold rowlockref15_Brackets.j3
      repeat' first
      | (with_reducible exact ih0 _ _ _ _ _ _ _)
      | (with_reducible exact ih1 _ _ _ _ _ _ _ _)
      | (with_reducible exact ih2 _ _ _ _ _ _ _ _ _ _)
      | (with_reducible exact ih3 _ _ _ _ _ _ _ _ _)
      | (with_reducible exact ih4 _ _ _ _ _ _ _ _ _)
      | (with_reducible exact ih5 _ _ _ _ _ _ _ _ _ _ _)
      | (with_reducible exact ih6 _ _ _ _ _)
      | (with_reducible exact rowlockref15_arms.mono _ _ _)
      | (with_reducible exact LeO.refl _)
      | (with_reducible exact LeO.none _)
      | (with_reducible refine LeO.ite ?_ ?_)
      | (with_reducible refine LeO.bind ?_ (fun _ => ?_))
      | exact ih0 _ _ _ _ _ _ _
      | exact ih1 _ _ _ _ _ _ _ _
      | exact ih2 _ _ _ _ _ _ _ _ _ _
      | exact ih3 _ _ _ _ _ _ _ _ _
      | exact ih4 _ _ _ _ _ _ _ _ _
      | exact ih5 _ _ _ _ _ _ _ _ _ _ _
      | exact ih6 _ _ _ _ _
      | exact rowlockref15_arms.mono _ _ _
      | exact LeO.none _
      | refine LeO.ite ?_ ?_
      | refine LeO.bind ?_ (fun _ => ?_)
    · intro y0 y1 y2 y3 y4
      unfold rowlockref15_Brackets.j6
      repeat' first
      | (with_reducible exact ih0 _ _ _ _ _ _ _)
      | (with_reducible exact ih1 _ _ _ _ _ _ _ _)
      | (with_reducible exact ih2 _ _ _ _ _ _ _ _ _ _)
      | (with_reducible exact ih3 _ _ _ _ _ _ _ _ _)
      | (with_reducible exact ih4 _ _ _ _ _ _ _ _ _)
      | (with_reducible exact ih5 _ _ _ _ _ _ _ _ _ _ _)
      | (with_reducible exact ih6 _ _ _ _ _)
      | (with_reducible exact rowlockref15_arms.mono _ _ _)
      | (with_reducible exact LeO.refl _)
      | (with_reducible exact LeO.none _)
      | (with_reducible refine LeO.ite ?_ ?_)
      | (with_reducible refine LeO.bind ?_ (fun _ => ?_))
      | exact ih0 _ _ _ _ _ _ _
      | exact ih1 _ _ _ _ _ _ _ _
      | exact ih2 _ _ _ _ _ _ _ _ _ _
      | exact ih3 _ _ _ _ _ _ _ _ _
      | exact ih4 _ _ _ _ _ _ _ _ _
      | exact ih5 _ _ _ _ _ _ _ _ _ _ _
      | exact ih6 _ _ _ _ _
      | exact rowlockref15_arms.mono _ _ _
      | exact LeO.none _
      | refine LeO.ite ?_ ?_
      | refine LeO.bind ?_ (fun _ => ?_)
theorem rowlockref15_Brackets.mono : ∀ a0 a1 k, LeO (rowlockref15_Brackets.f k a0 a1) (rowlockref15_Brackets.f (k + 1) a0 a1) := by
  intro a0 a1 k
  obtain ⟨ih0, ih1, ih2, ih3, ih4, ih5, ih6⟩ := rowlockref15_Brackets.mono_l k
  unfold rowlockref15_Brackets.f
  repeat' first
      | (with_reducible exact ih0 _ _ _ _ _ _ _)
      | (with_reducible exact ih1 _ _ _ _ _ _ _ _)
      | (with_reducible exact ih2 _ _ _ _ _ _ _ _ _ _)
      | (with_reducible exact ih3 _ _ _ _ _ _ _ _ _)
      | (with_reducible exact ih4 _ _ _ _ _ _ _ _ _)
      | (with_reducible exact ih5 _ _ _ _ _ _ _ _ _ _ _)
      | (with_reducible exact ih6 _ _ _ _ _)
      | (with_reducible exact rowlockref15_arms.mono _ _ _)
      | (with_reducible exact LeO.refl _)
      | (with_reducible exact LeO.none _)
      | (with_reducible refine LeO.ite ?_ ?_)
      | (with_reducible refine LeO.bind ?_ (fun _ => ?_))
      | exact ih0 _ _ _ _ _ _ _
      | exact ih1 _ _ _ _ _ _ _ _
      | exact ih2 _ _ _ _ _ _ _ _ _ _
      | exact ih3 _ _ _ _ _ _ _ _ _
      | exact ih4 _ _ _ _ _ _ _ _ _
      | exact ih5 _ _ _ _ _ _ _ _ _ _ _
      | exact ih6 _ _ _ _ _
      | exact rowlockref15_arms.mono _ _ _
      | exact LeO.none _
      | refine LeO.ite ?_ ?_
      | refine LeO.bind ?_ (fun _ => ?_)
set_option maxHeartbeats 8000000 in
set_option maxRecDepth 100000 in
theorem rowlockref15_Brackets.calls (k : Nat) (A0 : Option Addr) (c0 : Nat) (l0 : List (S35)) (a1 : Bool) (r1 : List Int) (r2 : List Int) (r3 : Int) (r4 : Int) (w : World) (hr0 : Kd.C k35 w A0 l0.length l0) (hc0 : l0.length ≤ c0) (h : rowlockref15_Brackets.f k l0 a1 = some (r1, r2, r3, r4)) :
    Calls Try.prog 66 #[.slice A0 l0.length c0, .bool a1] w fun e w' => ∃ v0_ v1_ : Value, e = .returned (.tuple #[v0_, v1_, .int .i64 r3, .int .i64 r4]) ∧ Kd.R (Kd.int .i64) 3 w' w.heap.size (fun k_ => some k_ ≠ (v1_ : Value).ownBlock) v0_ r1 ∧ Kd.R (Kd.int .i64) 3 w' w.heap.size (fun k_ => some k_ ≠ (v0_ : Value).ownBlock) v1_ r2 ∧ Below w.heap.size w w' := by
  have HR0 := Aside0.mk hr0
  have HC0 := Aside0.mk hc0
  clear hr0 hc0
  have HB := Aside0.mk (Below.refl w.heap.size w)
  have H : (rowlockref15_Brackets.l0 k l0 a1 ([] : List Int) ([] : List Int) ([] : List Int) (-1) 0) = some (r1, r2, r3, r4) := h
  clear h
  have H' := Aside0.mk H
  clear H
  go_enter Try.func66, Try.ntmps66
  go_wp2
  go_loopg [8, 9, 10, 11, 12] k (fun kq v8 v9 v10 v11 v12 w' => ∃ (x8_1 : List Int) (x9_1 : List Int) (x10_1 : List Int) (x11_1 : Int) (x12_1 : Int), v11 = .int .i64 x11_1 ∧ v12 = .int .i64 x12_1 ∧ Aside0 (rowlockref15_Brackets.l0 kq l0 a1 x8_1 x9_1 x10_1 x11_1 x12_1 = some (r1, r2, r3, r4)) ∧ Aside0 (kq ≤ k) ∧ Aside0 (Kd.R (Kd.int .i64) 3 w' w.heap.size (fun k_ => some k_ ≠ (v9 : Value).ownBlock ∧ some k_ ≠ (v10 : Value).ownBlock) v8 x8_1) ∧ Aside0 (Kd.R (Kd.int .i64) 3 w' w.heap.size (fun k_ => some k_ ≠ (v8 : Value).ownBlock ∧ some k_ ≠ (v10 : Value).ownBlock) v9 x9_1) ∧ Aside0 (Kd.R (Kd.int .i64) 3 w' w.heap.size (fun k_ => some k_ ≠ (v8 : Value).ownBlock ∧ some k_ ≠ (v9 : Value).ownBlock) v10 x10_1) ∧ Aside0 (Below w.heap.size w w'))
  case atStart => exact ⟨(([] : List Int)), (([] : List Int)), (([] : List Int)), ((-1)), (0), (by first | rfl | (simp; done) | (simp [*]; done)), (by first | rfl | (simp; done) | (simp [*]; done)), H', ⟨Nat.le_refl _⟩, ⟨by first | exact Kd.R_nil _ _ _ _ _ | exact Kd.N_nil _ _ _ _ _ | exact Kd.V_nil _ _ _ _ _ | exact Kd.Q_nil _ _ _ _ _ | exact Kd.S_nil _ _ _ _ _⟩, ⟨by first | exact Kd.R_nil _ _ _ _ _ | exact Kd.N_nil _ _ _ _ _ | exact Kd.V_nil _ _ _ _ _ | exact Kd.Q_nil _ _ _ _ _ | exact Kd.S_nil _ _ _ _ _⟩, ⟨by first | exact Kd.R_nil _ _ _ _ _ | exact Kd.N_nil _ _ _ _ _ | exact Kd.V_nil _ _ _ _ _ | exact Kd.Q_nil _ _ _ _ _ | exact Kd.S_nil _ _ _ _ _⟩, ⟨by repeat (first | (with_reducible first | exact HB.out | apply below_alloc | apply pw_below_drewN | apply below_drew1) | exact HB.out)⟩⟩
  case round =>
    clear H'
    try clear p2
    obtain ⟨x8_1, x9_1, x10_1, x11_1, x12_1, rfl, rfl, HA, HK1, HO_8, HO_9, HO_10, HB⟩ := hrel
    cases gk with
    | zero => exact absurd HA.out (by simp [rowlockref15_Brackets.l0])
    | succ k1 =>
      have H := HA.out
      clear HA
      simp only [rowlockref15_Brackets.l0] at H
      by_cases c3 : x12_1 < (l0.length : Int)
      · rw [if_pos c3] at H
        have c3b0 : decide (x12_1 < (l0.length : Int)) = true := decide_eq_true c3
        clear c3
        have HC4 := Aside0.mk H
        clear H
        obtain ⟨Ao5, co5, eo5⟩ := Kd.R_slice HO_10.out
        subst eo5
        go_upto_if 25 with (fail)
        go_cut [13] (fun v13 wc => ∃ (kq : Nat) (x13_3 : Int), v13 = .int .i64 x13_3 ∧ Aside0 (rowlockref15_Brackets.j1 kq l0 a1 x8_1 x9_1 x10_1 x11_1 x12_1 x13_3 = some (r1, r2, r3, r4)) ∧ Aside0 (kq ≤ k1) ∧ Aside0 (Kd.R (Kd.int .i64) 3 wc w.heap.size (fun k_ => some k_ ≠ (u9 : Value).ownBlock ∧ some k_ ≠ ((.slice Ao5 x10_1.length co5) : Value).ownBlock) u8 x8_1) ∧ Aside0 (Kd.R (Kd.int .i64) 3 wc w.heap.size (fun k_ => some k_ ≠ (u8 : Value).ownBlock ∧ some k_ ≠ ((.slice Ao5 x10_1.length co5) : Value).ownBlock) u9 x9_1) ∧ Aside0 (Kd.R (Kd.int .i64) 3 wc w.heap.size (fun k_ => some k_ ≠ (u8 : Value).ownBlock ∧ some k_ ≠ (u9 : Value).ownBlock) (.slice Ao5 x10_1.length co5) x10_1) ∧ Aside0 (Below w.heap.size w wc))
        case first =>
          have H := HC4.out
          clear HC4
          by_cases c6 : (x10_1.length : Int) > 0
          · rw [if_pos c6] at H
            have c6b0 : decide (0 < (x10_1.length : Int)) = true := decide_eq_true c6
            have c6b1 : decide (0 < x10_1.length) = true := decide_eq_true (by omega)
            clear c6
            (first | rw [c6b0] | rw [c6b1] | (simp only [i64_w, i32_w]; rw [c6b0]) | skip)
            obtain ⟨ji7, hji7⟩ : ∃ j_ : Int, (wrap64 ((x10_1.length : Int) - 1)) = j_ := ⟨_, rfl⟩
            replace H : (if 0 ≤ (ji7) then (if (ji7) < (x10_1.length : Int) then (rowlockref15_Brackets.j1 k1 l0 a1 x8_1 x9_1 x10_1 x11_1 x12_1 (rd x10_1 (ji7))) else (none)) else (none)) = some (r1, r2, r3, r4) := by first | (rw [hji7] at H; exact H) | (simp only [hji7] at H ⊢; exact H)
            have hji7w : (IntKind.i64.wrap ((x10_1.length : Int) - 1)) = ji7 := (i64_w _).trans hji7
            by_cases c8 : 0 ≤ (ji7)
            · rw [if_pos c8] at H
              have c8b0 : decide (0 ≤ (ji7)) = true := decide_eq_true c8
              clear c8
              by_cases c9 : (ji7) < (x10_1.length : Int)
              · rw [if_pos c9] at H
                have c9b0 : decide ((ji7) < (x10_1.length : Int)) = true := decide_eq_true c9
                clear c9
                have H' := Aside0.mk H
                clear H
                have p278 : 0 ≤ ((ji7) : Int) := of_decide_eq_true (by first | (with_reducible assumption) | assumption)
                have q278 : (ji7) < (x10_1.length : Int) := of_decide_eq_true (by first | (with_reducible assumption) | assumption)
                obtain ⟨ad278, e278, hx278_0⟩ := Kd.at_int (Kd.R_reads' HO_10.out).2.2 (ji7) p278 q278
                cases e278
                replace p278 := eq_true p278
                replace q278 := eq_true q278
                go_wp2
                go_meet
                case rel => exact ⟨_, (rd x10_1 (ji7)), (by first | rfl | (simp; done) | (simp only [← hji7] <;> (first | rfl | simp)) | (simp [*]; done)), H', ⟨by have := HK1.out; first | omega | exact Nat.le_refl _⟩, ⟨by (with_reducible repeat (first | apply Kd.R_alloc | apply Kd.R_drewN | apply Kd.R_drew)); exact HO_8.out⟩, ⟨by (with_reducible repeat (first | apply Kd.R_alloc | apply Kd.R_drewN | apply Kd.R_drew)); exact HO_9.out⟩, ⟨by (with_reducible repeat (first | apply Kd.R_alloc | apply Kd.R_drewN | apply Kd.R_drew)); exact HO_10.out⟩, ⟨by repeat (first | (with_reducible first | exact HB.out | apply below_alloc | apply pw_below_drewN | apply below_drew1) | exact HB.out)⟩⟩
              · rw [if_neg c9] at H
                exact absurd H (by simp)
            · rw [if_neg c8] at H
              exact absurd H (by simp)
          · rw [if_neg c6] at H
            have c6b0 : decide (0 < (x10_1.length : Int)) = false := decide_eq_false c6
            have c6b1 : decide (0 < x10_1.length) = false := decide_eq_false (by omega)
            clear c6
            (first | rw [c6b0] | rw [c6b1] | (simp only [i64_w, i32_w]; rw [c6b0]) | skip)
            have H' := Aside0.mk H
            clear H
            go_wp2
            go_meet
            case rel => exact ⟨_, ((-1)), (by first | rfl | (simp; done) | (simp [*]; done)), H', ⟨by have := HK1.out; first | omega | exact Nat.le_refl _⟩, ⟨by (with_reducible repeat (first | apply Kd.R_alloc | apply Kd.R_drewN | apply Kd.R_drew)); exact HO_8.out⟩, ⟨by (with_reducible repeat (first | apply Kd.R_alloc | apply Kd.R_drewN | apply Kd.R_drew)); exact HO_9.out⟩, ⟨by (with_reducible repeat (first | apply Kd.R_alloc | apply Kd.R_drewN | apply Kd.R_drew)); exact HO_10.out⟩, ⟨by repeat (first | (with_reducible first | exact HB.out | apply below_alloc | apply pw_below_drewN | apply below_drew1) | exact HB.out)⟩⟩
        case rest =>
          clear HC4
          try clear p2
          try clear q2
          try clear hx2
          try clear c3
          try clear c3b0
          try clear c6
          try clear c6b0
          try clear c6b1
          try clear p6
          try clear c8
          try clear c8b0
          try clear c9
          try clear c9b0
          try clear hx278_0
          try clear p2
          try clear p278
          try clear q278
          obtain ⟨kq, x13_3, rfl, HA, HJ3, HO_8, HO_9, HO_10, HB⟩ := hcut
          cases kq with
          | zero => exact absurd HA.out (by simp [rowlockref15_Brackets.j1])
          | succ kj3 =>
            have H := HA.out
            clear HA
            simp only [rowlockref15_Brackets.j1] at H
            by_cases c10 : 0 ≤ x12_1
            · rw [if_pos c10] at H
              have c10b0 : decide (0 ≤ x12_1) = true := decide_eq_true c10
              clear c10
              by_cases c11 : x12_1 < (l0.length : Int)
              · rw [if_pos c11] at H
                have c11b0 : decide (x12_1 < (l0.length : Int)) = true := decide_eq_true c11
                clear c11
                by_cases c12 : x8_1.length < 17592186044416
                · rw [if_pos c12] at H
                  have LMc12 := Aside0.mk c12
                  clear c12
                  obtain ⟨y280, hy280⟩ : ∃ y_ : List Int, y_ = (x8_1 ++ [x13_3]) := ⟨_, rfl⟩
                  replace H : (if x9_1.length < 17592186044416 then ((some (x9_1 ++ [(-1)] : List Int)).bind fun y283 => (if ((rd_T35 l0 x12_1).f0) = 21 then (if x13_3 ≥ 0 then (rowlockref15_Brackets.j2 kj3 l0 a1 y280 y283 x10_1 x11_1 x12_1 x13_3 ((rd_T35 l0 x12_1).f0) true) else (if ((rd_T35 l0 x12_1).f0) = 23 then (if x13_3 < 0 then (rowlockref15_Brackets.j2 kj3 l0 a1 y280 y283 x10_1 x11_1 x12_1 x13_3 ((rd_T35 l0 x12_1).f0) true) else ((rowlockref15_arms.f kj3 l0 x10_1).bind fun t286 => (rowlockref15_Brackets.j2 kj3 l0 a1 y280 y283 x10_1 x11_1 x12_1 x13_3 ((rd_T35 l0 x12_1).f0) (decide (t286 ≥ 4))))) else (rowlockref15_Brackets.j2 kj3 l0 a1 y280 y283 x10_1 x11_1 x12_1 x13_3 ((rd_T35 l0 x12_1).f0) false))) else (if ((rd_T35 l0 x12_1).f0) = 23 then (if x13_3 < 0 then (rowlockref15_Brackets.j2 kj3 l0 a1 y280 y283 x10_1 x11_1 x12_1 x13_3 ((rd_T35 l0 x12_1).f0) true) else ((rowlockref15_arms.f kj3 l0 x10_1).bind fun t287 => (rowlockref15_Brackets.j2 kj3 l0 a1 y280 y283 x10_1 x11_1 x12_1 x13_3 ((rd_T35 l0 x12_1).f0) (decide (t287 ≥ 4))))) else (rowlockref15_Brackets.j2 kj3 l0 a1 y280 y283 x10_1 x11_1 x12_1 x13_3 ((rd_T35 l0 x12_1).f0) false)))) else (none)) = some (r1, r2, r3, r4) := by first | (rw [hy280]; with_reducible exact H) | (have H2_ := (Option.bind_some _ _).symm.trans H; rw [hy280]; with_reducible exact H2_) | (have H2_ := (Option.bind_some _ _).symm.trans H; with_reducible exact H2_) | with_reducible exact H | (rw [hy280]; exact H) | exact H
                  have Ny280 := Aside0.mk hy280
                  clear hy280
                  by_cases c13 : x9_1.length < 17592186044416
                  · rw [if_pos c13] at H
                    have LMc13 := Aside0.mk c13
                    clear c13
                    obtain ⟨y283, hy283⟩ : ∃ y_ : List Int, y_ = (x9_1 ++ [(-1)]) := ⟨_, rfl⟩
                    replace H : (if ((rd_T35 l0 x12_1).f0) = 21 then (if x13_3 ≥ 0 then (rowlockref15_Brackets.j2 kj3 l0 a1 y280 y283 x10_1 x11_1 x12_1 x13_3 ((rd_T35 l0 x12_1).f0) true) else (if ((rd_T35 l0 x12_1).f0) = 23 then (if x13_3 < 0 then (rowlockref15_Brackets.j2 kj3 l0 a1 y280 y283 x10_1 x11_1 x12_1 x13_3 ((rd_T35 l0 x12_1).f0) true) else ((rowlockref15_arms.f kj3 l0 x10_1).bind fun t286 => (rowlockref15_Brackets.j2 kj3 l0 a1 y280 y283 x10_1 x11_1 x12_1 x13_3 ((rd_T35 l0 x12_1).f0) (decide (t286 ≥ 4))))) else (rowlockref15_Brackets.j2 kj3 l0 a1 y280 y283 x10_1 x11_1 x12_1 x13_3 ((rd_T35 l0 x12_1).f0) false))) else (if ((rd_T35 l0 x12_1).f0) = 23 then (if x13_3 < 0 then (rowlockref15_Brackets.j2 kj3 l0 a1 y280 y283 x10_1 x11_1 x12_1 x13_3 ((rd_T35 l0 x12_1).f0) true) else ((rowlockref15_arms.f kj3 l0 x10_1).bind fun t287 => (rowlockref15_Brackets.j2 kj3 l0 a1 y280 y283 x10_1 x11_1 x12_1 x13_3 ((rd_T35 l0 x12_1).f0) (decide (t287 ≥ 4))))) else (rowlockref15_Brackets.j2 kj3 l0 a1 y280 y283 x10_1 x11_1 x12_1 x13_3 ((rd_T35 l0 x12_1).f0) false))) = some (r1, r2, r3, r4) := by first | (rw [hy283]; with_reducible exact H) | (have H2_ := (Option.bind_some _ _).symm.trans H; rw [hy283]; with_reducible exact H2_) | (have H2_ := (Option.bind_some _ _).symm.trans H; with_reducible exact H2_) | with_reducible exact H | (rw [hy283]; exact H) | exact H
                    have Ny283 := Aside0.mk hy283
                    clear hy283
                    have HC14 := Aside0.mk H
                    clear H
                    have p279 : 0 ≤ (x12_1 : Int) := of_decide_eq_true (by first | (with_reducible assumption) | assumption)
                    have q279 : x12_1 < (l0.length : Int) := of_decide_eq_true (by first | (with_reducible assumption) | assumption)
                    obtain ⟨ad279, e279, hx279_0, hx279_1, hx279_2⟩ := at_T35 HR0.out x12_1 p279 q279
                    cases e279
                    replace hx279_0 := (HB.out.cell (World.block_lt_of_cell? w _ hx279_0)).trans hx279_0
                    replace hx279_1 := (HB.out.cell (World.block_lt_of_cell? w _ hx279_1)).trans hx279_1
                    replace hx279_2 := (HB.out.cell (World.block_lt_of_cell? w _ hx279_2)).trans hx279_2
                    replace p279 := eq_true p279
                    replace q279 := eq_true q279
                    go_upto_region 11 with (first | ((with_reducible refine gate_builtin (b := .append) (xs := #[.tmp 37, .tmp 39]) rfl ?_); (try (refine gate_guard (by rfl) ?_; dsimp only)); at_builtin; refine Kd.R_append (Kd.int .i64) (w0 := w) w.heap.size rfl (.tmp 37) (.tmp 39) 73 3 (.int .i64 0) 8 rfl Try.underlying73 info3 rfl (by decide) (by omega) u8 x8_1 x13_3 [.int .i64 x13_3] (fun k_ => some k_ ≠ (u9 : Value).ownBlock ∧ some k_ ≠ (.slice Ao5 x10_1.length co5 : Value).ownBlock) (fun _ => False) rfl rfl ?aP (fun _ hk => hk.elim) ?aF ?aO ?aB ?aS ?aL ?_; (case aP => exact rfl); (case aB => exact (by repeat (first | (with_reducible first | exact HB.out | apply below_alloc | apply pw_below_drewN | apply below_drew1) | exact HB.out))); (case aF => exact (fun k_ hk => ⟨Kd.fresh' (Kd.R_lt (by (with_reducible repeat (first | apply Kd.R_alloc | apply Kd.R_drewN | apply Kd.R_drew)); exact HO_9.out)) k_ hk, Kd.fresh' (Kd.R_lt (by (with_reducible repeat (first | apply Kd.R_alloc | apply Kd.R_drewN | apply Kd.R_drew)); exact HO_10.out)) k_ hk⟩)); (case aO => exact (by (with_reducible repeat (first | apply Kd.R_alloc | apply Kd.R_drewN | apply Kd.R_drew)); exact HO_8.out)); (case aS => exact (below_size (by repeat (first | (with_reducible first | exact HB.out | apply below_alloc | apply pw_below_drewN | apply below_drew1) | exact HB.out)))); (case aL => have := LMc12.out; omega); intro v281 w15 ho hb hg hat; rw [← Ny280.out] at ho; have n0_ := Aside0.mk (Kd.R_after (ok := (fun k_ => some k_ ≠ (.slice Ao5 x10_1.length co5 : Value).ownBlock)) (by (with_reducible repeat (first | apply Kd.R_alloc | apply Kd.R_drewN | apply Kd.R_drew)); exact Kd.R_mono HO_9.out (fun _ hk => ⟨hk.2, hk.1⟩)) hg hat); have n1_ := Aside0.mk (Kd.R_after (ok := (fun k_ => some k_ ≠ (u9 : Value).ownBlock)) (by (with_reducible repeat (first | apply Kd.R_alloc | apply Kd.R_drewN | apply Kd.R_drew)); exact Kd.R_mono HO_10.out (fun _ hk => ⟨hk.2, hk.1⟩)) hg hat); have n2_ := Aside0.mk (hb); have n3_ := Aside0.mk (ho); clear HO_9; clear HO_10; clear HB; clear HO_8; have HO_9 := n0_; have HO_10 := n1_; have HB := n2_; have HO282 := n3_; clear n0_ n1_ n2_ n3_; clear ho hb hg hat) | ((with_reducible refine gate_builtin (b := .append) (xs := #[.tmp 41, .tmp 42]) rfl ?_); (try (refine gate_guard (by rfl) ?_; dsimp only)); at_builtin; refine Kd.R_append (Kd.int .i64) (w0 := w) w.heap.size rfl (.tmp 41) (.tmp 42) 73 3 (.int .i64 0) 8 rfl Try.underlying73 info3 rfl (by decide) (by omega) u9 x9_1 (-1) [.int .i64 (-1)] (fun k_ => some k_ ≠ (.slice Ao5 x10_1.length co5 : Value).ownBlock ∧ some k_ ≠ (v281 : Value).ownBlock) (fun _ => False) rfl rfl ?aP (fun _ hk => hk.elim) ?aF ?aO ?aB ?aS ?aL ?_; (case aP => exact rfl); (case aB => exact (by repeat (first | (with_reducible first | exact HB.out | apply below_alloc | apply pw_below_drewN | apply below_drew1) | exact HB.out))); (case aF => exact (fun k_ hk => ⟨Kd.fresh' (Kd.R_lt (by (with_reducible repeat (first | apply Kd.R_alloc | apply Kd.R_drewN | apply Kd.R_drew)); exact HO_10.out)) k_ hk, Kd.fresh' (Kd.R_lt (by (with_reducible repeat (first | apply Kd.R_alloc | apply Kd.R_drewN | apply Kd.R_drew)); exact HO282.out)) k_ hk⟩)); (case aO => exact (by (with_reducible repeat (first | apply Kd.R_alloc | apply Kd.R_drewN | apply Kd.R_drew)); exact HO_9.out)); (case aS => exact (below_size (by repeat (first | (with_reducible first | exact HB.out | apply below_alloc | apply pw_below_drewN | apply below_drew1) | exact HB.out)))); (case aL => have := LMc13.out; omega); intro v284 w16 ho hb hg hat; rw [← Ny283.out] at ho; have n0_ := Aside0.mk (Kd.R_after (ok := (fun k_ => some k_ ≠ (v281 : Value).ownBlock)) (by (with_reducible repeat (first | apply Kd.R_alloc | apply Kd.R_drewN | apply Kd.R_drew)); exact Kd.R_mono HO_10.out (fun _ hk => ⟨hk.2, hk.1⟩)) hg hat); have n1_ := Aside0.mk (Kd.R_after (ok := (fun k_ => some k_ ≠ (.slice Ao5 x10_1.length co5 : Value).ownBlock)) (by (with_reducible repeat (first | apply Kd.R_alloc | apply Kd.R_drewN | apply Kd.R_drew)); exact Kd.R_mono HO282.out (fun _ hk => ⟨hk.2, hk.1⟩)) hg hat); have n2_ := Aside0.mk (hb); have n3_ := Aside0.mk (ho); clear HO_10; clear HO282; clear HB; clear HO_9; have HO_10 := n0_; have HO282 := n1_; have HB := n2_; have HO285 := n3_; clear n0_ n1_ n2_ n3_; clear ho hb hg hat))
                    (try simp only [Act.put, List.setIfInBounds_toArray, List.set_cons_zero, List.set_cons_succ])
                    go_cut [15] (fun v15 wc => ∃ (kq : Nat) (x15_13 : Bool), v15 = .bool x15_13 ∧ Aside0 (rowlockref15_Brackets.j2 kq l0 a1 y280 y283 x10_1 x11_1 x12_1 x13_3 ((rd_T35 l0 x12_1).f0) x15_13 = some (r1, r2, r3, r4)) ∧ Aside0 (kq ≤ kj3) ∧ Aside0 (Kd.R (Kd.int .i64) 3 wc w.heap.size (fun k_ => some k_ ≠ (v284 : Value).ownBlock ∧ some k_ ≠ ((.slice Ao5 x10_1.length co5) : Value).ownBlock) v281 y280) ∧ Aside0 (Kd.R (Kd.int .i64) 3 wc w.heap.size (fun k_ => some k_ ≠ (v281 : Value).ownBlock ∧ some k_ ≠ ((.slice Ao5 x10_1.length co5) : Value).ownBlock) v284 y283) ∧ Aside0 (Kd.R (Kd.int .i64) 3 wc w.heap.size (fun k_ => some k_ ≠ (v281 : Value).ownBlock ∧ some k_ ≠ (v284 : Value).ownBlock) (.slice Ao5 x10_1.length co5) x10_1) ∧ Aside0 (Below w.heap.size w wc))
                    case first =>
                      have H := HC14.out
                      clear HC14
                      by_cases c17 : ((rd_T35 l0 x12_1).f0) = 21
                      · rw [if_pos c17] at H
                        have c17b0 : (((rd_T35 l0 x12_1).f0) == 21) = true := beq_iff_eq.mpr c17
                        have c17b1 : (((rd_T35 l0 x12_1).f0) != 21) = false := bne_eq_false_iff_eq.mpr c17
                        clear c17
                        (first | rw [c17b0] | (simp only [i64_w, i32_w]; rw [c17b0]) | skip)
                        by_cases c18 : x13_3 ≥ 0
                        · rw [if_pos c18] at H
                          have c18b0 : decide (0 ≤ x13_3) = true := decide_eq_true c18
                          clear c18
                          have H' := Aside0.mk H
                          clear H
                          go_wp2
                          go_meet
                          case rel => exact ⟨_, (true), (by first | rfl | (simp; done) | (simp [*]; done)), H', ⟨by have := HK1.out; have := HJ3.out; first | omega | exact Nat.le_refl _⟩, ⟨by (with_reducible repeat (first | apply Kd.R_alloc | apply Kd.R_drewN | apply Kd.R_drew)); exact Kd.R_mono HO282.out (fun _ hk => ⟨hk.2, hk.1⟩)⟩, ⟨by (with_reducible repeat (first | apply Kd.R_alloc | apply Kd.R_drewN | apply Kd.R_drew)); exact Kd.R_mono HO285.out (fun _ hk => ⟨hk.2, hk.1⟩)⟩, ⟨by (with_reducible repeat (first | apply Kd.R_alloc | apply Kd.R_drewN | apply Kd.R_drew)); exact HO_10.out⟩, ⟨by repeat (first | (with_reducible first | exact HB.out | apply below_alloc | apply pw_below_drewN | apply below_drew1) | exact HB.out)⟩⟩
                        · rw [if_neg c18] at H
                          have c18b0 : decide (0 ≤ x13_3) = false := decide_eq_false c18
                          clear c18
                          by_cases c19 : ((rd_T35 l0 x12_1).f0) = 23
                          · rw [if_pos c19] at H
                            have c19b0 : (((rd_T35 l0 x12_1).f0) == 23) = true := beq_iff_eq.mpr c19
                            have c19b1 : (((rd_T35 l0 x12_1).f0) != 23) = false := bne_eq_false_iff_eq.mpr c19
                            clear c19
                            by_cases c20 : x13_3 < 0
                            · rw [if_pos c20] at H
                              have c20b0 : decide (x13_3 < 0) = true := decide_eq_true c20
                              clear c20
                              have H' := Aside0.mk H
                              clear H
                              go_wp2
                              go_meet
                              case rel => exact ⟨_, (true), (by first | rfl | (simp; done) | (simp [*]; done)), H', ⟨by have := HK1.out; have := HJ3.out; first | omega | exact Nat.le_refl _⟩, ⟨by (with_reducible repeat (first | apply Kd.R_alloc | apply Kd.R_drewN | apply Kd.R_drew)); exact Kd.R_mono HO282.out (fun _ hk => ⟨hk.2, hk.1⟩)⟩, ⟨by (with_reducible repeat (first | apply Kd.R_alloc | apply Kd.R_drewN | apply Kd.R_drew)); exact Kd.R_mono HO285.out (fun _ hk => ⟨hk.2, hk.1⟩)⟩, ⟨by (with_reducible repeat (first | apply Kd.R_alloc | apply Kd.R_drewN | apply Kd.R_drew)); exact HO_10.out⟩, ⟨by repeat (first | (with_reducible first | exact HB.out | apply below_alloc | apply pw_below_drewN | apply below_drew1) | exact HB.out)⟩⟩
                            · rw [if_neg c20] at H
                              have c20b0 : decide (x13_3 < 0) = false := decide_eq_false c20
                              clear c20
                              replace H := Option.bind_eq_some_iff.mp H
                              obtain ⟨t286, A210, H⟩ := H
                              replace H : (rowlockref15_Brackets.j2 kj3 l0 a1 y280 y283 x10_1 x11_1 x12_1 x13_3 ((rd_T35 l0 x12_1).f0) (decide (t286 ≥ 4))) = some (r1, r2, r3, r4) := H
                              have A21 := Aside0.mk A210
                              clear A210
                              have H' := Aside0.mk H
                              clear H
                              go_wp2_with (first | (go_at_call 82; (with_reducible refine (rowlockref15_arms.calls kj3 _ _ l0 _ _ x10_1 t286 _ ?side1 ?side2 ?side3 ?side4 A21.out).mono ?_); (case side1 => repeat (first | exact (Kd.C_below HR0.out HB.out) | (with_reducible refine Kd.C_alloc ?_ _) | (with_reducible refine Kd.C_drewN ?_ _) | (with_reducible refine Kd.C_drew ?_))); (case side2 => exact HC0.out); (case side3 => repeat (first | exact (Kd.R_reads' HO_10.out).2.2 | (with_reducible refine Kd.C_alloc ?_ _) | (with_reducible refine Kd.C_drewN ?_ _) | (with_reducible refine Kd.C_drew ?_))); (case side4 => exact (Kd.R_reads' HO_10.out).2.1); rintro e w' ⟨rfl, ⟨nd, rfl⟩⟩))
                              go_meet
                              case rel => exact ⟨_, (decide (t286 ≥ 4)), (by first | rfl | (simp; done) | (simp [*]; done)), H', ⟨by have := HK1.out; have := HJ3.out; first | omega | exact Nat.le_refl _⟩, ⟨by (with_reducible repeat (first | apply Kd.R_alloc | apply Kd.R_drewN | apply Kd.R_drew)); exact Kd.R_mono HO282.out (fun _ hk => ⟨hk.2, hk.1⟩)⟩, ⟨by (with_reducible repeat (first | apply Kd.R_alloc | apply Kd.R_drewN | apply Kd.R_drew)); exact Kd.R_mono HO285.out (fun _ hk => ⟨hk.2, hk.1⟩)⟩, ⟨by (with_reducible repeat (first | apply Kd.R_alloc | apply Kd.R_drewN | apply Kd.R_drew)); exact HO_10.out⟩, ⟨by repeat (first | (with_reducible first | exact HB.out | apply below_alloc | apply pw_below_drewN | apply below_drew1) | exact HB.out)⟩⟩
                          · rw [if_neg c19] at H
                            have c19b0 : (((rd_T35 l0 x12_1).f0) == 23) = false := beq_eq_false_iff_ne.mpr c19
                            have c19b1 : (((rd_T35 l0 x12_1).f0) != 23) = true := bne_iff_ne.mpr c19
                            have H' := Aside0.mk H
                            clear H
                            go_wp2
                            go_meet
                            case rel => exact ⟨_, (false), (by first | rfl | (simp; done) | (simp [*]; done)), H', ⟨by have := HK1.out; have := HJ3.out; first | omega | exact Nat.le_refl _⟩, ⟨by (with_reducible repeat (first | apply Kd.R_alloc | apply Kd.R_drewN | apply Kd.R_drew)); exact Kd.R_mono HO282.out (fun _ hk => ⟨hk.2, hk.1⟩)⟩, ⟨by (with_reducible repeat (first | apply Kd.R_alloc | apply Kd.R_drewN | apply Kd.R_drew)); exact Kd.R_mono HO285.out (fun _ hk => ⟨hk.2, hk.1⟩)⟩, ⟨by (with_reducible repeat (first | apply Kd.R_alloc | apply Kd.R_drewN | apply Kd.R_drew)); exact HO_10.out⟩, ⟨by repeat (first | (with_reducible first | exact HB.out | apply below_alloc | apply pw_below_drewN | apply below_drew1) | exact HB.out)⟩⟩
                      · rw [if_neg c17] at H
                        have c17b0 : (((rd_T35 l0 x12_1).f0) == 21) = false := beq_eq_false_iff_ne.mpr c17
                        have c17b1 : (((rd_T35 l0 x12_1).f0) != 21) = true := bne_iff_ne.mpr c17
                        (first | rw [c17b0] | (simp only [i64_w, i32_w]; rw [c17b0]) | skip)
                        by_cases c22 : ((rd_T35 l0 x12_1).f0) = 23
                        · rw [if_pos c22] at H
                          have c22b0 : (((rd_T35 l0 x12_1).f0) == 23) = true := beq_iff_eq.mpr c22
                          have c22b1 : (((rd_T35 l0 x12_1).f0) != 23) = false := bne_eq_false_iff_eq.mpr c22
                          clear c22
                          by_cases c23 : x13_3 < 0
                          · rw [if_pos c23] at H
                            have c23b0 : decide (x13_3 < 0) = true := decide_eq_true c23
                            clear c23
                            have H' := Aside0.mk H
                            clear H
                            go_wp2
                            go_meet
                            case rel => exact ⟨_, (true), (by first | rfl | (simp; done) | (simp [*]; done)), H', ⟨by have := HK1.out; have := HJ3.out; first | omega | exact Nat.le_refl _⟩, ⟨by (with_reducible repeat (first | apply Kd.R_alloc | apply Kd.R_drewN | apply Kd.R_drew)); exact Kd.R_mono HO282.out (fun _ hk => ⟨hk.2, hk.1⟩)⟩, ⟨by (with_reducible repeat (first | apply Kd.R_alloc | apply Kd.R_drewN | apply Kd.R_drew)); exact Kd.R_mono HO285.out (fun _ hk => ⟨hk.2, hk.1⟩)⟩, ⟨by (with_reducible repeat (first | apply Kd.R_alloc | apply Kd.R_drewN | apply Kd.R_drew)); exact HO_10.out⟩, ⟨by repeat (first | (with_reducible first | exact HB.out | apply below_alloc | apply pw_below_drewN | apply below_drew1) | exact HB.out)⟩⟩
                          · rw [if_neg c23] at H
                            have c23b0 : decide (x13_3 < 0) = false := decide_eq_false c23
                            clear c23
                            replace H := Option.bind_eq_some_iff.mp H
                            obtain ⟨t287, A240, H⟩ := H
                            replace H : (rowlockref15_Brackets.j2 kj3 l0 a1 y280 y283 x10_1 x11_1 x12_1 x13_3 ((rd_T35 l0 x12_1).f0) (decide (t287 ≥ 4))) = some (r1, r2, r3, r4) := H
                            have A24 := Aside0.mk A240
                            clear A240
                            have H' := Aside0.mk H
                            clear H
                            go_wp2_with (first | (go_at_call 82; (with_reducible refine (rowlockref15_arms.calls kj3 _ _ l0 _ _ x10_1 t287 _ ?side1 ?side2 ?side3 ?side4 A24.out).mono ?_); (case side1 => repeat (first | exact (Kd.C_below HR0.out HB.out) | (with_reducible refine Kd.C_alloc ?_ _) | (with_reducible refine Kd.C_drewN ?_ _) | (with_reducible refine Kd.C_drew ?_))); (case side2 => exact HC0.out); (case side3 => repeat (first | exact (Kd.R_reads' HO_10.out).2.2 | (with_reducible refine Kd.C_alloc ?_ _) | (with_reducible refine Kd.C_drewN ?_ _) | (with_reducible refine Kd.C_drew ?_))); (case side4 => exact (Kd.R_reads' HO_10.out).2.1); rintro e w' ⟨rfl, ⟨nd, rfl⟩⟩))
                            go_meet
                            case rel => exact ⟨_, (decide (t287 ≥ 4)), (by first | rfl | (simp; done) | (simp [*]; done)), H', ⟨by have := HK1.out; have := HJ3.out; first | omega | exact Nat.le_refl _⟩, ⟨by (with_reducible repeat (first | apply Kd.R_alloc | apply Kd.R_drewN | apply Kd.R_drew)); exact Kd.R_mono HO282.out (fun _ hk => ⟨hk.2, hk.1⟩)⟩, ⟨by (with_reducible repeat (first | apply Kd.R_alloc | apply Kd.R_drewN | apply Kd.R_drew)); exact Kd.R_mono HO285.out (fun _ hk => ⟨hk.2, hk.1⟩)⟩, ⟨by (with_reducible repeat (first | apply Kd.R_alloc | apply Kd.R_drewN | apply Kd.R_drew)); exact HO_10.out⟩, ⟨by repeat (first | (with_reducible first | exact HB.out | apply below_alloc | apply pw_below_drewN | apply below_drew1) | exact HB.out)⟩⟩
                        · rw [if_neg c22] at H
                          have c22b0 : (((rd_T35 l0 x12_1).f0) == 23) = false := beq_eq_false_iff_ne.mpr c22
                          have c22b1 : (((rd_T35 l0 x12_1).f0) != 23) = true := bne_iff_ne.mpr c22
                          have H' := Aside0.mk H
                          clear H
                          go_wp2
                          go_meet
                          case rel => exact ⟨_, (false), (by first | rfl | (simp; done) | (simp [*]; done)), H', ⟨by have := HK1.out; have := HJ3.out; first | omega | exact Nat.le_refl _⟩, ⟨by (with_reducible repeat (first | apply Kd.R_alloc | apply Kd.R_drewN | apply Kd.R_drew)); exact Kd.R_mono HO282.out (fun _ hk => ⟨hk.2, hk.1⟩)⟩, ⟨by (with_reducible repeat (first | apply Kd.R_alloc | apply Kd.R_drewN | apply Kd.R_drew)); exact Kd.R_mono HO285.out (fun _ hk => ⟨hk.2, hk.1⟩)⟩, ⟨by (with_reducible repeat (first | apply Kd.R_alloc | apply Kd.R_drewN | apply Kd.R_drew)); exact HO_10.out⟩, ⟨by repeat (first | (with_reducible first | exact HB.out | apply below_alloc | apply pw_below_drewN | apply below_drew1) | exact HB.out)⟩⟩
                    case rest =>
                      clear HC14
                      try clear c1
                      try clear c2
                      try clear p2
                      try clear q2
                      try clear hx2
                      try clear c3
                      try clear c3b0
                      try clear c6
                      try clear c6b0
                      try clear c6b1
                      try clear p6
                      try clear c8
                      try clear c8b0
                      try clear c9
                      try clear c9b0
                      try clear c10
                      try clear c10b0
                      try clear c11
                      try clear c11b0
                      try clear c12
                      try clear c13
                      try clear c17
                      try clear c17b0
                      try clear c17b1
                      try clear c18
                      try clear c18b0
                      try clear c19
                      try clear c19b0
                      try clear c19b1
                      try clear c20
                      try clear c20b0
                      try clear c22
                      try clear c22b0
                      try clear c22b1
                      try clear c23
                      try clear c23b0
                      try clear hx278_0
                      try clear hx279_0
                      try clear hx279_1
                      try clear hx279_2
                      try clear p2
                      try clear p278
                      try clear p279
                      try clear p6
                      try clear q2
                      try clear q278
                      try clear q279
                      obtain ⟨kq, x15_13, rfl, HA, HJ13, HO_8, HO_9, HO_10, HB⟩ := hcut
                      cases kq with
                      | zero => exact absurd HA.out (by simp [rowlockref15_Brackets.j2])
                      | succ kj13 =>
                        have H := HA.out
                        clear HA
                        simp only [rowlockref15_Brackets.j2] at H
                        replace H := Option.bind_eq_some_iff.mp H
                        obtain ⟨t288, A250, H⟩ := H
                        replace H : (if t288 = 0 then (rowlockref15_Brackets.j4 kj13 l0 a1 y280 y283 x10_1 x11_1 x12_1 ((rd_T35 l0 x12_1).f0) x15_13) else (if x13_3 < 0 then (rowlockref15_Brackets.j3 kj13 l0 a1 y280 y283 x10_1 x11_1 x12_1 x13_3 ((rd_T35 l0 x12_1).f0) x15_13 true) else (if 0 ≤ x13_3 then (if x13_3 < (l0.length : Int) then (rowlockref15_Brackets.j3 kj13 l0 a1 y280 y283 x10_1 x11_1 x12_1 x13_3 ((rd_T35 l0 x12_1).f0) x15_13 (((rd_T35 l0 x13_3).f0) != t288)) else (none)) else (none)))) = some (r1, r2, r3, r4) := H
                        have A25 := Aside0.mk A250
                        clear A250
                        have HC26 := Aside0.mk H
                        clear H
                        go_upto_if 67 with (first | ((with_reducible refine gate_callee (f := 83) rfl ?_); refine goesL_ (some 65) rfl rfl Try.func83 (by kernel_rfl) rfl #[.int .u8 ((rd_T35 l0 x12_1).f0)] rfl (by (try simp only [List.map_toArray, List.map_cons, List.map_nil]); first | done | rfl | (simp only [List.length_drop, List.length_take]; rfl)) ?_; (with_reducible refine (rowlockref15_closes.calls ((rd_T35 l0 x12_1).f0) t288 _ A25.out).mono ?_); rintro e w' ⟨rfl, ⟨nd, rfl⟩⟩; refine ⟨_, rfl, ?_⟩))
                        (try simp only [Act.put, List.setIfInBounds_toArray, List.set_cons_zero, List.set_cons_succ])
                        go_cut [10, 11, 15] (fun v10 v11 v15 wc => ∃ (kq : Nat) (x9_25 : List Int) (x10_25 : List Int) (x11_25 : Int) (x15_25 : Bool), v11 = .int .i64 x11_25 ∧ v15 = .bool x15_25 ∧ Aside0 (rowlockref15_Brackets.j4 kq l0 a1 y280 x9_25 x10_25 x11_25 x12_1 ((rd_T35 l0 x12_1).f0) x15_25 = some (r1, r2, r3, r4)) ∧ Aside0 (kq ≤ kj13) ∧ Aside0 (Kd.R (Kd.int .i64) 3 wc w.heap.size (fun k_ => some k_ ≠ (v284 : Value).ownBlock ∧ some k_ ≠ (v10 : Value).ownBlock) v281 y280) ∧ Aside0 (Kd.R (Kd.int .i64) 3 wc w.heap.size (fun k_ => some k_ ≠ (v281 : Value).ownBlock ∧ some k_ ≠ (v10 : Value).ownBlock) v284 x9_25) ∧ Aside0 (Kd.R (Kd.int .i64) 3 wc w.heap.size (fun k_ => some k_ ≠ (v281 : Value).ownBlock ∧ some k_ ≠ (v284 : Value).ownBlock) v10 x10_25) ∧ Aside0 (Below w.heap.size w wc))
                        case first =>
                          have H := HC26.out
                          clear HC26
                          by_cases c27 : t288 = 0
                          · rw [if_pos c27] at H
                            have c27b0 : (t288 == 0) = true := beq_iff_eq.mpr c27
                            have c27b1 : (t288 != 0) = false := bne_eq_false_iff_eq.mpr c27
                            clear c27
                            (first | rw [c27b0] | (simp only [i64_w, i32_w]; rw [c27b0]) | skip)
                            have H' := Aside0.mk H
                            clear H
                            go_wp2
                            go_meet
                            case rel => exact ⟨_, (y283), (x10_1), (x11_1), (x15_13), (by first | rfl | (simp; done) | (simp [*]; done)), (by first | rfl | (simp; done) | (simp [*]; done)), H', ⟨by have := HK1.out; have := HJ3.out; have := HJ13.out; first | omega | exact Nat.le_refl _⟩, ⟨by (with_reducible repeat (first | apply Kd.R_alloc | apply Kd.R_drewN | apply Kd.R_drew)); exact HO_8.out⟩, ⟨by (with_reducible repeat (first | apply Kd.R_alloc | apply Kd.R_drewN | apply Kd.R_drew)); exact HO_9.out⟩, ⟨by (with_reducible repeat (first | apply Kd.R_alloc | apply Kd.R_drewN | apply Kd.R_drew)); exact HO_10.out⟩, ⟨by repeat (first | (with_reducible first | exact HB.out | apply below_alloc | apply pw_below_drewN | apply below_drew1) | exact HB.out)⟩⟩
                          · rw [if_neg c27] at H
                            have c27b0 : (t288 == 0) = false := beq_eq_false_iff_ne.mpr c27
                            have c27b1 : (t288 != 0) = true := bne_iff_ne.mpr c27
                            (first | rw [c27b0] | (simp only [i64_w, i32_w]; rw [c27b0]) | skip)
                            have HC28 := Aside0.mk H
                            clear H
                            go_upto_region 14 with (fail)
                            go_cut [78] (fun v78 wc => ∃ (kq : Nat) (x78_27 : Bool), v78 = .bool x78_27 ∧ Aside0 (rowlockref15_Brackets.j3 kq l0 a1 y280 y283 x10_1 x11_1 x12_1 x13_3 ((rd_T35 l0 x12_1).f0) x15_13 x78_27 = some (r1, r2, r3, r4)) ∧ Aside0 (kq ≤ kj13) ∧ Aside0 (Kd.R (Kd.int .i64) 3 wc w.heap.size (fun k_ => some k_ ≠ (v284 : Value).ownBlock ∧ some k_ ≠ ((.slice Ao5 x10_1.length co5) : Value).ownBlock) v281 y280) ∧ Aside0 (Kd.R (Kd.int .i64) 3 wc w.heap.size (fun k_ => some k_ ≠ (v281 : Value).ownBlock ∧ some k_ ≠ ((.slice Ao5 x10_1.length co5) : Value).ownBlock) v284 y283) ∧ Aside0 (Kd.R (Kd.int .i64) 3 wc w.heap.size (fun k_ => some k_ ≠ (v281 : Value).ownBlock ∧ some k_ ≠ (v284 : Value).ownBlock) (.slice Ao5 x10_1.length co5) x10_1) ∧ Aside0 (Below w.heap.size w wc))
                            case first =>
                              have H := HC28.out
                              clear HC28
                              by_cases c29 : x13_3 < 0
                              · rw [if_pos c29] at H
                                have c29b0 : decide (x13_3 < 0) = true := decide_eq_true c29
                                clear c29
                                (first | rw [c29b0] | (simp only [i64_w, i32_w]; rw [c29b0]) | skip)
                                have H' := Aside0.mk H
                                clear H
                                go_wp2
                                go_meet
                                case rel => exact ⟨_, (true), (by first | rfl | (simp; done) | (simp [*]; done)), H', ⟨by have := HK1.out; have := HJ3.out; have := HJ13.out; first | omega | exact Nat.le_refl _⟩, ⟨by (with_reducible repeat (first | apply Kd.R_alloc | apply Kd.R_drewN | apply Kd.R_drew)); exact HO_8.out⟩, ⟨by (with_reducible repeat (first | apply Kd.R_alloc | apply Kd.R_drewN | apply Kd.R_drew)); exact HO_9.out⟩, ⟨by (with_reducible repeat (first | apply Kd.R_alloc | apply Kd.R_drewN | apply Kd.R_drew)); exact HO_10.out⟩, ⟨by repeat (first | (with_reducible first | exact HB.out | apply below_alloc | apply pw_below_drewN | apply below_drew1) | exact HB.out)⟩⟩
                              · rw [if_neg c29] at H
                                have c29b0 : decide (x13_3 < 0) = false := decide_eq_false c29
                                clear c29
                                (first | rw [c29b0] | (simp only [i64_w, i32_w]; rw [c29b0]) | skip)
                                by_cases c30 : 0 ≤ x13_3
                                · rw [if_pos c30] at H
                                  have c30b0 : decide (0 ≤ x13_3) = true := decide_eq_true c30
                                  clear c30
                                  by_cases c31 : x13_3 < (l0.length : Int)
                                  · rw [if_pos c31] at H
                                    have c31b0 : decide (x13_3 < (l0.length : Int)) = true := decide_eq_true c31
                                    clear c31
                                    have H' := Aside0.mk H
                                    clear H
                                    have p289 : 0 ≤ (x13_3 : Int) := of_decide_eq_true (by first | (with_reducible assumption) | assumption)
                                    have q289 : x13_3 < (l0.length : Int) := of_decide_eq_true (by first | (with_reducible assumption) | assumption)
                                    obtain ⟨ad289, e289, hx289_0, hx289_1, hx289_2⟩ := at_T35 HR0.out x13_3 p289 q289
                                    obtain rfl : ad279 = ad289 := (by injection e289)
                                    replace hx289_0 := (HB.out.cell (World.block_lt_of_cell? w _ hx289_0)).trans hx289_0
                                    replace hx289_1 := (HB.out.cell (World.block_lt_of_cell? w _ hx289_1)).trans hx289_1
                                    replace hx289_2 := (HB.out.cell (World.block_lt_of_cell? w _ hx289_2)).trans hx289_2
                                    replace p289 := eq_true p289
                                    replace q289 := eq_true q289
                                    go_wp2
                                    go_meet
                                    case rel => exact ⟨_, ((((rd_T35 l0 x13_3).f0) != t288)), (by first | rfl | (simp; done) | (simp [*]; done)), H', ⟨by have := HK1.out; have := HJ3.out; have := HJ13.out; first | omega | exact Nat.le_refl _⟩, ⟨by (with_reducible repeat (first | apply Kd.R_alloc | apply Kd.R_drewN | apply Kd.R_drew)); exact HO_8.out⟩, ⟨by (with_reducible repeat (first | apply Kd.R_alloc | apply Kd.R_drewN | apply Kd.R_drew)); exact HO_9.out⟩, ⟨by (with_reducible repeat (first | apply Kd.R_alloc | apply Kd.R_drewN | apply Kd.R_drew)); exact HO_10.out⟩, ⟨by repeat (first | (with_reducible first | exact HB.out | apply below_alloc | apply pw_below_drewN | apply below_drew1) | exact HB.out)⟩⟩
                                  · rw [if_neg c31] at H
                                    exact absurd H (by simp)
                                · rw [if_neg c30] at H
                                  exact absurd H (by simp)
                            case rest =>
                              clear HC28
                              try clear c1
                              try clear c2
                              try clear p2
                              try clear q2
                              try clear hx2
                              try clear c3
                              try clear c3b0
                              try clear c6
                              try clear c6b0
                              try clear c6b1
                              try clear p6
                              try clear c8
                              try clear c8b0
                              try clear c9
                              try clear c9b0
                              try clear c10
                              try clear c10b0
                              try clear c11
                              try clear c11b0
                              try clear c12
                              try clear c13
                              try clear c17
                              try clear c17b0
                              try clear c17b1
                              try clear c18
                              try clear c18b0
                              try clear c19
                              try clear c19b0
                              try clear c19b1
                              try clear c20
                              try clear c20b0
                              try clear c22
                              try clear c22b0
                              try clear c22b1
                              try clear c23
                              try clear c23b0
                              try clear c27
                              try clear c27b0
                              try clear c27b1
                              try clear p27
                              try clear q27
                              try clear hx27
                              try clear p28
                              try clear q28
                              try clear hx28
                              try clear c29
                              try clear c29b0
                              try clear c30
                              try clear c30b0
                              try clear c31
                              try clear c31b0
                              try clear hx278_0
                              try clear hx279_0
                              try clear hx279_1
                              try clear hx279_2
                              try clear hx289_0
                              try clear hx289_1
                              try clear hx289_2
                              try clear p2
                              try clear p278
                              try clear p279
                              try clear p289
                              try clear p6
                              try clear q2
                              try clear q278
                              try clear q279
                              try clear q289
                              obtain ⟨kq, x78_27, rfl, HA, HJ27, HO_8, HO_9, HO_10, HB⟩ := hcut
                              cases kq with
                              | zero => exact absurd HA.out (by simp [rowlockref15_Brackets.j3])
                              | succ kj27 =>
                                have H := HA.out
                                clear HA
                                simp only [rowlockref15_Brackets.j3] at H
                                by_cases c32 : x78_27 = true
                                · subst c32
                                  have H1 : (rowlockref15_Brackets.j4 kj27 l0 a1 y280 y283 x10_1 x11_1 x12_1 ((rd_T35 l0 x12_1).f0) true) = some (r1, r2, r3, r4) := by rw [if_pos rfl] at H; exact H
                                  clear H
                                  have H := H1
                                  clear H1
                                  have H' := Aside0.mk H
                                  clear H
                                  go_wp2
                                  go_meet
                                  case rel => exact ⟨_, (y283), (x10_1), (x11_1), (true), (by first | rfl | (simp; done) | (simp [*]; done)), (by first | rfl | (simp; done) | (simp [*]; done)), H', ⟨by have := HK1.out; have := HJ3.out; have := HJ13.out; have := HJ27.out; first | omega | exact Nat.le_refl _⟩, ⟨by (with_reducible repeat (first | apply Kd.R_alloc | apply Kd.R_drewN | apply Kd.R_drew)); exact HO_8.out⟩, ⟨by (with_reducible repeat (first | apply Kd.R_alloc | apply Kd.R_drewN | apply Kd.R_drew)); exact HO_9.out⟩, ⟨by (with_reducible repeat (first | apply Kd.R_alloc | apply Kd.R_drewN | apply Kd.R_drew)); exact HO_10.out⟩, ⟨by repeat (first | (with_reducible first | exact HB.out | apply below_alloc | apply pw_below_drewN | apply below_drew1) | exact HB.out)⟩⟩
                                · replace c32 := Bool.eq_false_iff.mpr c32
                                  subst c32
                                  have H1 : (if 0 ≤ x13_3 then (if x13_3 < (y283.length : Int) then ((some (y283.set (x13_3 : Int).toNat x12_1 : List Int)).bind fun y290 => ((some (([] : List Int) : List Int)).bind fun y291 => (if 0 ≤ (wrap64 ((x10_1.length : Int) - 1)) then (if (wrap64 ((x10_1.length : Int) - 1)) ≤ (x10_1.length : Int) then ((some (x10_1.take ((wrap64 ((x10_1.length : Int) - 1)) : Int).toNat : List Int)).bind fun y294 => (if y291.length + y294.length < 17592186044416 then ((some (y291 ++ y294 : List Int)).bind fun y298 => (if a1 = true then (if x13_3 < (l0.length : Int) then (if ((rd_T35 l0 x13_3).f1) = x12_1 then (rowlockref15_Brackets.j4 kj27 l0 a1 y280 y290 y298 x11_1 x12_1 ((rd_T35 l0 x12_1).f0) x15_13) else (if x11_1 < 0 then (rowlockref15_Brackets.j4 kj27 l0 a1 y280 y290 y298 x13_3 x12_1 ((rd_T35 l0 x12_1).f0) x15_13) else (if x13_3 < x11_1 then (rowlockref15_Brackets.j4 kj27 l0 a1 y280 y290 y298 x13_3 x12_1 ((rd_T35 l0 x12_1).f0) x15_13) else (rowlockref15_Brackets.j4 kj27 l0 a1 y280 y290 y298 x11_1 x12_1 ((rd_T35 l0 x12_1).f0) x15_13)))) else (none)) else (rowlockref15_Brackets.j4 kj27 l0 a1 y280 y290 y298 x11_1 x12_1 ((rd_T35 l0 x12_1).f0) x15_13))) else (none))) else (none)) else (none)))) else (none)) else (none)) = some (r1, r2, r3, r4) := by rw [if_neg (show ¬ (false = true) by decide)] at H; exact H
                                  clear H
                                  have H := H1
                                  clear H1
                                  by_cases c33 : 0 ≤ x13_3
                                  · rw [if_pos c33] at H
                                    have c33b0 : decide (0 ≤ x13_3) = true := decide_eq_true c33
                                    clear c33
                                    by_cases c34 : x13_3 < (y283.length : Int)
                                    · rw [if_pos c34] at H
                                      have c34b0 : decide (x13_3 < (y283.length : Int)) = true := decide_eq_true c34
                                      clear c34
                                      obtain ⟨y290, hy290⟩ : ∃ y_ : List Int, y_ = (y283.set (x13_3 : Int).toNat x12_1) := ⟨_, rfl⟩
                                      replace H : ((some (([] : List Int) : List Int)).bind fun y291 => (if 0 ≤ (wrap64 ((x10_1.length : Int) - 1)) then (if (wrap64 ((x10_1.length : Int) - 1)) ≤ (x10_1.length : Int) then ((some (x10_1.take ((wrap64 ((x10_1.length : Int) - 1)) : Int).toNat : List Int)).bind fun y294 => (if y291.length + y294.length < 17592186044416 then ((some (y291 ++ y294 : List Int)).bind fun y298 => (if a1 = true then (if x13_3 < (l0.length : Int) then (if ((rd_T35 l0 x13_3).f1) = x12_1 then (rowlockref15_Brackets.j4 kj27 l0 a1 y280 y290 y298 x11_1 x12_1 ((rd_T35 l0 x12_1).f0) x15_13) else (if x11_1 < 0 then (rowlockref15_Brackets.j4 kj27 l0 a1 y280 y290 y298 x13_3 x12_1 ((rd_T35 l0 x12_1).f0) x15_13) else (if x13_3 < x11_1 then (rowlockref15_Brackets.j4 kj27 l0 a1 y280 y290 y298 x13_3 x12_1 ((rd_T35 l0 x12_1).f0) x15_13) else (rowlockref15_Brackets.j4 kj27 l0 a1 y280 y290 y298 x11_1 x12_1 ((rd_T35 l0 x12_1).f0) x15_13)))) else (none)) else (rowlockref15_Brackets.j4 kj27 l0 a1 y280 y290 y298 x11_1 x12_1 ((rd_T35 l0 x12_1).f0) x15_13))) else (none))) else (none)) else (none))) = some (r1, r2, r3, r4) := by first | (rw [hy290]; with_reducible exact H) | (have H2_ := (Option.bind_some _ _).symm.trans H; rw [hy290]; with_reducible exact H2_) | (have H2_ := (Option.bind_some _ _).symm.trans H; with_reducible exact H2_) | with_reducible exact H | (rw [hy290]; exact H) | exact H
                                      have Ny290 := Aside0.mk hy290
                                      clear hy290
                                      obtain ⟨y291, hy291⟩ : ∃ y_ : List Int, y_ = (([] : List Int)) := ⟨_, rfl⟩
                                      replace H : (if 0 ≤ (wrap64 ((x10_1.length : Int) - 1)) then (if (wrap64 ((x10_1.length : Int) - 1)) ≤ (x10_1.length : Int) then ((some (x10_1.take ((wrap64 ((x10_1.length : Int) - 1)) : Int).toNat : List Int)).bind fun y294 => (if y291.length + y294.length < 17592186044416 then ((some (y291 ++ y294 : List Int)).bind fun y298 => (if a1 = true then (if x13_3 < (l0.length : Int) then (if ((rd_T35 l0 x13_3).f1) = x12_1 then (rowlockref15_Brackets.j4 kj27 l0 a1 y280 y290 y298 x11_1 x12_1 ((rd_T35 l0 x12_1).f0) x15_13) else (if x11_1 < 0 then (rowlockref15_Brackets.j4 kj27 l0 a1 y280 y290 y298 x13_3 x12_1 ((rd_T35 l0 x12_1).f0) x15_13) else (if x13_3 < x11_1 then (rowlockref15_Brackets.j4 kj27 l0 a1 y280 y290 y298 x13_3 x12_1 ((rd_T35 l0 x12_1).f0) x15_13) else (rowlockref15_Brackets.j4 kj27 l0 a1 y280 y290 y298 x11_1 x12_1 ((rd_T35 l0 x12_1).f0) x15_13)))) else (none)) else (rowlockref15_Brackets.j4 kj27 l0 a1 y280 y290 y298 x11_1 x12_1 ((rd_T35 l0 x12_1).f0) x15_13))) else (none))) else (none)) else (none)) = some (r1, r2, r3, r4) := by first | (rw [hy291]; with_reducible exact H) | (have H2_ := (Option.bind_some _ _).symm.trans H; rw [hy291]; with_reducible exact H2_) | (have H2_ := (Option.bind_some _ _).symm.trans H; with_reducible exact H2_) | with_reducible exact H | (rw [hy291]; exact H) | exact H
                                      have Ny291 := Aside0.mk hy291
                                      clear hy291
                                      obtain ⟨ji36, hji36⟩ : ∃ j_ : Int, (wrap64 ((x10_1.length : Int) - 1)) = j_ := ⟨_, rfl⟩
                                      replace H : (if 0 ≤ (ji36) then (if (ji36) ≤ (x10_1.length : Int) then ((some (x10_1.take ((ji36) : Int).toNat : List Int)).bind fun y294 => (if y291.length + y294.length < 17592186044416 then ((some (y291 ++ y294 : List Int)).bind fun y298 => (if a1 = true then (if x13_3 < (l0.length : Int) then (if ((rd_T35 l0 x13_3).f1) = x12_1 then (rowlockref15_Brackets.j4 kj27 l0 a1 y280 y290 y298 x11_1 x12_1 ((rd_T35 l0 x12_1).f0) x15_13) else (if x11_1 < 0 then (rowlockref15_Brackets.j4 kj27 l0 a1 y280 y290 y298 x13_3 x12_1 ((rd_T35 l0 x12_1).f0) x15_13) else (if x13_3 < x11_1 then (rowlockref15_Brackets.j4 kj27 l0 a1 y280 y290 y298 x13_3 x12_1 ((rd_T35 l0 x12_1).f0) x15_13) else (rowlockref15_Brackets.j4 kj27 l0 a1 y280 y290 y298 x11_1 x12_1 ((rd_T35 l0 x12_1).f0) x15_13)))) else (none)) else (rowlockref15_Brackets.j4 kj27 l0 a1 y280 y290 y298 x11_1 x12_1 ((rd_T35 l0 x12_1).f0) x15_13))) else (none))) else (none)) else (none)) = some (r1, r2, r3, r4) := by first | (rw [hji36] at H; exact H) | (simp only [hji36] at H ⊢; exact H)
                                      have hji36w : (IntKind.i64.wrap ((x10_1.length : Int) - 1)) = ji36 := (i64_w _).trans hji36
                                      by_cases c37 : 0 ≤ (ji36)
                                      · rw [if_pos c37] at H
                                        have c37b0 := eq_true c37
                                        have c37b1 : decide (0 ≤ (ji36)) = true := decide_eq_true c37
                                        clear c37
                                        by_cases c38 : (ji36) ≤ (x10_1.length : Int)
                                        · rw [if_pos c38] at H
                                          have c38b0 := eq_true c38
                                          have c38b1 : decide ((ji36) ≤ (x10_1.length : Int)) = true := decide_eq_true c38
                                          clear c38
                                          obtain ⟨y294, hy294⟩ : ∃ y_ : List Int, y_ = (x10_1.take ((ji36) : Int).toNat) := ⟨_, rfl⟩
                                          replace H : (if y291.length + y294.length < 17592186044416 then ((some (y291 ++ y294 : List Int)).bind fun y298 => (if a1 = true then (if x13_3 < (l0.length : Int) then (if ((rd_T35 l0 x13_3).f1) = x12_1 then (rowlockref15_Brackets.j4 kj27 l0 a1 y280 y290 y298 x11_1 x12_1 ((rd_T35 l0 x12_1).f0) x15_13) else (if x11_1 < 0 then (rowlockref15_Brackets.j4 kj27 l0 a1 y280 y290 y298 x13_3 x12_1 ((rd_T35 l0 x12_1).f0) x15_13) else (if x13_3 < x11_1 then (rowlockref15_Brackets.j4 kj27 l0 a1 y280 y290 y298 x13_3 x12_1 ((rd_T35 l0 x12_1).f0) x15_13) else (rowlockref15_Brackets.j4 kj27 l0 a1 y280 y290 y298 x11_1 x12_1 ((rd_T35 l0 x12_1).f0) x15_13)))) else (none)) else (rowlockref15_Brackets.j4 kj27 l0 a1 y280 y290 y298 x11_1 x12_1 ((rd_T35 l0 x12_1).f0) x15_13))) else (none)) = some (r1, r2, r3, r4) := by first | (rw [hy294]; with_reducible exact H) | (have H2_ := (Option.bind_some _ _).symm.trans H; rw [hy294]; with_reducible exact H2_) | (have H2_ := (Option.bind_some _ _).symm.trans H; with_reducible exact H2_) | with_reducible exact H | (rw [hy294]; exact H) | exact H
                                          have Ny294 := Aside0.mk hy294
                                          clear hy294
                                          by_cases c39 : y291.length + y294.length < 17592186044416
                                          · rw [if_pos c39] at H
                                            have LMc39 := Aside0.mk c39
                                            clear c39
                                            obtain ⟨y298, hy298⟩ : ∃ y_ : List Int, y_ = (y291 ++ y294) := ⟨_, rfl⟩
                                            replace H : (if a1 = true then (if x13_3 < (l0.length : Int) then (if ((rd_T35 l0 x13_3).f1) = x12_1 then (rowlockref15_Brackets.j4 kj27 l0 a1 y280 y290 y298 x11_1 x12_1 ((rd_T35 l0 x12_1).f0) x15_13) else (if x11_1 < 0 then (rowlockref15_Brackets.j4 kj27 l0 a1 y280 y290 y298 x13_3 x12_1 ((rd_T35 l0 x12_1).f0) x15_13) else (if x13_3 < x11_1 then (rowlockref15_Brackets.j4 kj27 l0 a1 y280 y290 y298 x13_3 x12_1 ((rd_T35 l0 x12_1).f0) x15_13) else (rowlockref15_Brackets.j4 kj27 l0 a1 y280 y290 y298 x11_1 x12_1 ((rd_T35 l0 x12_1).f0) x15_13)))) else (none)) else (rowlockref15_Brackets.j4 kj27 l0 a1 y280 y290 y298 x11_1 x12_1 ((rd_T35 l0 x12_1).f0) x15_13)) = some (r1, r2, r3, r4) := by first | (rw [hy298]; with_reducible exact H) | (have H2_ := (Option.bind_some _ _).symm.trans H; rw [hy298]; with_reducible exact H2_) | (have H2_ := (Option.bind_some _ _).symm.trans H; with_reducible exact H2_) | with_reducible exact H | (rw [hy298]; exact H) | exact H
                                            have Ny298 := Aside0.mk hy298
                                            clear hy298
                                            by_cases c40 : a1 = true
                                            · subst c40
                                              have H1 : (if x13_3 < (l0.length : Int) then (if ((rd_T35 l0 x13_3).f1) = x12_1 then (rowlockref15_Brackets.j4 kj27 l0 true y280 y290 y298 x11_1 x12_1 ((rd_T35 l0 x12_1).f0) x15_13) else (if x11_1 < 0 then (rowlockref15_Brackets.j4 kj27 l0 true y280 y290 y298 x13_3 x12_1 ((rd_T35 l0 x12_1).f0) x15_13) else (if x13_3 < x11_1 then (rowlockref15_Brackets.j4 kj27 l0 true y280 y290 y298 x13_3 x12_1 ((rd_T35 l0 x12_1).f0) x15_13) else (rowlockref15_Brackets.j4 kj27 l0 true y280 y290 y298 x11_1 x12_1 ((rd_T35 l0 x12_1).f0) x15_13)))) else (none)) = some (r1, r2, r3, r4) := by rw [if_pos rfl] at H; exact H
                                              clear H
                                              have H := H1
                                              clear H1
                                              by_cases c41 : x13_3 < (l0.length : Int)
                                              · rw [if_pos c41] at H
                                                have c41b0 : decide (x13_3 < (l0.length : Int)) = true := decide_eq_true c41
                                                clear c41
                                                by_cases c42 : ((rd_T35 l0 x13_3).f1) = x12_1
                                                · rw [if_pos c42] at H
                                                  have c42b0 : (((rd_T35 l0 x13_3).f1) == x12_1) = true := beq_iff_eq.mpr c42
                                                  have c42b1 : (((rd_T35 l0 x13_3).f1) != x12_1) = false := bne_eq_false_iff_eq.mpr c42
                                                  clear c42
                                                  have H' := Aside0.mk H
                                                  clear H
                                                  have p35 : 0 ≤ (x13_3 : Int) := of_decide_eq_true (by first | (with_reducible assumption) | assumption)
                                                  have q35 : (x13_3 : Int) < ((y283.length : Int) : Int) := of_decide_eq_true (by first | (with_reducible assumption) | assumption)
                                                  obtain ⟨go35, co35, eo35, gb35, gl35, cl35, HG35⟩ := Kd.R_form HO_9.out (by omega)
                                                  (first | cases eo35 | (injection eo35 with ea_ en_ ec_; (first | subst ea_ | (injection ea_ with ea_; subst ea_)); subst ec_; clear en_))
                                                  have GB35 := Aside0.mk gb35
                                                  have GG35 := Aside0.mk HG35
                                                  clear gb35 gl35 HG35
                                                  obtain ⟨hx35_0, hf35_0⟩ := Kd.R_celln 0 HO_9.out (x13_3 : Int) p35 q35
                                                  replace p35 := eq_true p35
                                                  replace q35 := eq_true q35
                                                  have HP43 := Kd.R_putg HO_9.out (x13_3 : Int) x12_1
                                                  go_wp2_with (first | ((with_reducible refine gate_store (t := 3) (p := 82) rfl ?_); refine store_event (t := 3) (p := 82) (v := ?vo_w44) (w1 := (wc.setCell ⟨go35, (x13_3 : Int).toNat, none⟩ (.int .i64 x12_1))) ?hg ?ho ?hn ?hr ?_; (case ho => rfl); (case hg => rfl); (case hn => rfl); (case hr => first | (go_simp; done) | (go_simp; rfl)); intro w44 hw; have hg : wc.grownBy w44 (some go35) := (by rw [hw]; exact HP43.2); have hp_ : Kd.R (Kd.int .i64) 3 w44 w.heap.size (fun k_ => some k_ ≠ (v281 : Value).ownBlock ∧ some k_ ≠ (.slice Ao5 x10_1.length co5 : Value).ownBlock) (.slice (some ⟨go35, 0, none⟩) y283.length co35) y290 := (by rw [hw, Ny290.out]; exact HP43.1); clear HP43; have n0_ := Aside0.mk (Kd.R_after (v := (.slice (some ⟨go35, 0, none⟩) y283.length co35)) (v1 := (.slice (some ⟨go35, 0, none⟩) y283.length co35)) (ok := (fun k_ => some k_ ≠ (.slice Ao5 x10_1.length co5 : Value).ownBlock)) (by (with_reducible repeat (first | apply Kd.R_alloc | apply Kd.R_drewN | apply Kd.R_drew)); exact Kd.R_mono HO_8.out (fun _ hk => ⟨hk.2, hk.1⟩)) hg (.inl rfl)); have n1_ := Aside0.mk (hp_); have n2_ := Aside0.mk (Kd.R_after (v := (.slice (some ⟨go35, 0, none⟩) y283.length co35)) (v1 := (.slice (some ⟨go35, 0, none⟩) y283.length co35)) (ok := (fun k_ => some k_ ≠ (v281 : Value).ownBlock)) (by (with_reducible repeat (first | apply Kd.R_alloc | apply Kd.R_drewN | apply Kd.R_drew)); exact HO_10.out) hg (.inl rfl)); have n3_ := Aside0.mk ((by rw [hw]; exact below_set (HB.out) GB35.out : Below w.heap.size w w44)); clear HO_8; clear HO_9; clear HO_10; clear HB; have HO_8 := n0_; have HO_9 := n1_; have HO_10 := n2_; have HB := n3_; clear n0_ n1_ n2_ n3_; clear hg hw hp_) | ((with_reducible refine gate_dst (N := 83) rfl ?_); (try (refine gate_guard (by rfl) ?_; dsimp only)); refine Kd.R_lit (Kd.int .i64) _ 3 ?hg (N := 83) ?hd (xs := ([] : List Int)) (inner := []) (ok := fun _ => True) (okp := fun _ => True) ?hr ?hp (fun _ hk => hk) trivial (Below.refl _ _) (Nat.le_refl _) (by simp) ?_; (case hd => rfl); (case hg => rfl); (case hr => first | (go_simp; done) | (go_simp; rfl)); (case hp => exact (Reps.none _ _)); intro v292 w45 ho46 hb hg_ hnew_; clear hg_ hnew_; (first | rw [← Ny291.out] at ho46 | (simp only [Int.reduceToNat] at ho46; rw [← Ny291.out] at ho46)); have n0_ := Aside0.mk (Kd.R_elder' (by (with_reducible repeat (first | apply Kd.R_alloc | apply Kd.R_drewN | apply Kd.R_drew)); exact HO_8.out) (Kd.R_base ho46) hb); have n1_ := Aside0.mk (Kd.R_elder' (by (with_reducible repeat (first | apply Kd.R_alloc | apply Kd.R_drewN | apply Kd.R_drew)); exact HO_9.out) (Kd.R_base ho46) hb); have n2_ := Aside0.mk (Kd.R_elder' (by (with_reducible repeat (first | apply Kd.R_alloc | apply Kd.R_drewN | apply Kd.R_drew)); exact HO_10.out) (Kd.R_base ho46) hb); have n3_ := Aside0.mk (Kd.R_lower (Kd.R_new' (Kd.R_new' (Kd.R_new' ho46 (Kd.R_lt (by (with_reducible repeat (first | apply Kd.R_alloc | apply Kd.R_drewN | apply Kd.R_drew)); exact HO_8.out))) (Kd.R_lt (by (with_reducible repeat (first | apply Kd.R_alloc | apply Kd.R_drewN | apply Kd.R_drew)); exact HO_9.out))) (Kd.R_lt (by (with_reducible repeat (first | apply Kd.R_alloc | apply Kd.R_drewN | apply Kd.R_drew)); exact HO_10.out))) (below_size (by repeat (first | (with_reducible first | exact HB.out | apply below_alloc | apply pw_below_drewN | apply below_drew1) | exact HB.out)))); have n4_ := Aside0.mk (below_step (by repeat (first | (with_reducible first | exact HB.out | apply below_alloc | apply pw_below_drewN | apply below_drew1) | exact HB.out)) hb); clear HO_8; clear HO_9; clear HO_10; clear HB; have HO_8 := n0_; have HO_9 := n1_; have HO_10 := n2_; have HO293 := n3_; have HB := n4_; clear n0_ n1_ n2_ n3_ n4_; clear hb ho46; have q47 : ((ji36) : Int) ≤ ((x10_1.length : Int) : Int) := of_decide_eq_true (by first | (with_reducible assumption) | assumption); obtain ⟨i047, hi047, _, hsz47, _⟩ := info_parts info3; have hroom47 : x10_1.length ≤ co5 := (Kd.R_reads' HO_10.out).2.1; have hC47 : Kd.C (Kd.int .i64) _ Ao5 x10_1.length x10_1 := (Kd.R_reads' HO_10.out).2.2; have hcut47 := cut_to (P := Try.prog) 73 3 .i64 Try.underlying73 hi047 Ao5 x10_1.length co5 (ji36) (of_decide_eq_true (by first | (with_reducible assumption) | assumption)) q47 hroom47; have hr47 := Kd.C_take (m := ((ji36) : Int).toNat) hC47 (by omega); have hy47 : y294.length = ((ji36) : Int).toNat := (by rw [Ny294.out, List.length_take]; omega); rw [← Ny294.out] at hr47; rw [← hy47] at hcut47; have HR297 := Aside0.mk hr47; have HC297 := Aside0.mk (show y294.length ≤ co5 from by omega); clear hr47 hC47 hroom47 hi047 hsz47; have KY47 := Aside0.mk hy47; clear hy47; have KL47 := Aside0.mk (show ((ji36) : Int).toNat ≤ x10_1.length from by omega); replace q47 := eq_true q47) | ((with_reducible refine gate_builtin (b := .append) (xs := #[.tmp 83, .tmp 88]) rfl ?_); (try (refine gate_guard (by rfl) ?_; dsimp only)); at_builtin; refine Kd.R_append_rows (Kd.int .i64) (w0 := w) w.heap.size rfl (.tmp 83) (.tmp 88) 73 3 (.int .i64 0) 8 rfl Try.underlying73 info3 rfl (by decide) (by omega) v292 y291 y294 _ _ _ (fun k_ => some k_ ≠ (v281 : Value).ownBlock ∧ some k_ ≠ (.slice (some ⟨go35, 0, none⟩) y283.length co35 : Value).ownBlock ∧ some k_ ≠ (.slice Ao5 x10_1.length co5 : Value).ownBlock) (fun _ => False) rfl rfl ?aO ?aR (fun _ _ h => h) (fun _ h => h.elim) ?aF ?aB ?aS ?aL ?_; (case aR => repeat (first | exact (by repeat (first | (with_reducible exact HR297.out) | (with_reducible refine Kd.C_alloc ?_ _) | (with_reducible refine Kd.C_drewN ?_ _) | (with_reducible refine Kd.C_drew ?_) | exact HR297.out)) | (with_reducible refine Kd.C_alloc ?_ _) | (with_reducible refine Kd.C_drewN ?_ _) | (with_reducible refine Kd.C_drew ?_))); (case aB => exact (by repeat (first | (with_reducible first | exact HB.out | apply below_alloc | apply pw_below_drewN | apply below_drew1) | exact HB.out))); (case aF => exact (fun k_ hk => ⟨Kd.fresh' (Kd.R_lt (by (with_reducible repeat (first | apply Kd.R_alloc | apply Kd.R_drewN | apply Kd.R_drew)); exact HO_8.out)) k_ hk, Kd.fresh' (Kd.R_lt (by (with_reducible repeat (first | apply Kd.R_alloc | apply Kd.R_drewN | apply Kd.R_drew)); exact HO_9.out)) k_ hk, Kd.fresh' (Kd.R_lt (by (with_reducible repeat (first | apply Kd.R_alloc | apply Kd.R_drewN | apply Kd.R_drew)); exact HO_10.out)) k_ hk⟩)); (case aO => exact (by (with_reducible repeat (first | apply Kd.R_alloc | apply Kd.R_drewN | apply Kd.R_drew)); exact Kd.R_mono HO293.out (fun _ hk => ⟨hk.1.1.2, ⟨hk.1.2, hk.2⟩⟩))); (case aS => exact (below_size (by repeat (first | (with_reducible first | exact HB.out | apply below_alloc | apply pw_below_drewN | apply below_drew1) | exact HB.out)))); (case aL => have := LMc39.out; omega); intro v299 w48 ho hb hg hat; rw [← Ny298.out] at ho; have n0_ := Aside0.mk (Kd.R_after (ok := (fun k_ => some k_ ≠ (.slice (some ⟨go35, 0, none⟩) y283.length co35 : Value).ownBlock ∧ some k_ ≠ (.slice Ao5 x10_1.length co5 : Value).ownBlock)) (by (with_reducible repeat (first | apply Kd.R_alloc | apply Kd.R_drewN | apply Kd.R_drew)); exact Kd.R_mono HO_8.out (fun _ hk => ⟨⟨hk.1.2, hk.1.1⟩, hk.2⟩)) hg hat); have n1_ := Aside0.mk (Kd.R_after (ok := (fun k_ => some k_ ≠ (v281 : Value).ownBlock ∧ some k_ ≠ (.slice Ao5 x10_1.length co5 : Value).ownBlock)) (by (with_reducible repeat (first | apply Kd.R_alloc | apply Kd.R_drewN | apply Kd.R_drew)); exact HO_9.out) hg hat); have n2_ := Aside0.mk (Kd.R_after (ok := (fun k_ => some k_ ≠ (v281 : Value).ownBlock ∧ some k_ ≠ (.slice (some ⟨go35, 0, none⟩) y283.length co35 : Value).ownBlock)) (by (with_reducible repeat (first | apply Kd.R_alloc | apply Kd.R_drewN | apply Kd.R_drew)); exact HO_10.out) hg hat); have n3_ := Aside0.mk (hb); have n4_ := Aside0.mk ((show Kd.C (Kd.int .i64) w48 Ao5 y294.length y294 from by rw [Ny294.out]; exact Kd.C_take (m := ((ji36) : Int).toNat) ((Kd.R_reads' (Kd.R_after (ok := (fun k_ => some k_ ≠ (v281 : Value).ownBlock ∧ some k_ ≠ (.slice (some ⟨go35, 0, none⟩) y283.length co35 : Value).ownBlock)) (by (with_reducible repeat (first | apply Kd.R_alloc | apply Kd.R_drewN | apply Kd.R_drew)); exact HO_10.out) hg hat)).2.2) KL47.out)); have n5_ := Aside0.mk (ho); clear HO_8; clear HO_9; clear HO_10; clear HB; clear HR297; clear HO293; have HO_8 := n0_; have HO_9 := n1_; have HO_10 := n2_; have HB := n3_; have HR297 := n4_; have HO300 := n5_; clear n0_ n1_ n2_ n3_ n4_ n5_; clear ho hb hg hat; have p301 : 0 ≤ (x13_3 : Int) := of_decide_eq_true (by first | (with_reducible assumption) | assumption); have q301 : x13_3 < (l0.length : Int) := of_decide_eq_true (by first | (with_reducible assumption) | assumption); obtain ⟨ad301, e301, hx301_0, hx301_1, hx301_2⟩ := at_T35 HR0.out x13_3 p301 q301; obtain rfl : ad279 = ad301 := (by injection e301); replace hx301_0 := (HB.out.cell (World.block_lt_of_cell? w _ hx301_0)).trans hx301_0; replace hx301_1 := (HB.out.cell (World.block_lt_of_cell? w _ hx301_1)).trans hx301_1; replace hx301_2 := (HB.out.cell (World.block_lt_of_cell? w _ hx301_2)).trans hx301_2; replace p301 := eq_true p301; replace q301 := eq_true q301))
                                                  go_meet
                                                  case rel => exact ⟨_, (y290), (y298), (x11_1), (x15_13), (by first | rfl | (simp; done) | (simp [*]; done)), (by first | rfl | (simp; done) | (simp [*]; done)), H', ⟨by have := HK1.out; have := HJ3.out; have := HJ13.out; have := HJ27.out; first | omega | exact Nat.le_refl _⟩, ⟨by (with_reducible repeat (first | apply Kd.R_alloc | apply Kd.R_drewN | apply Kd.R_drew)); exact Kd.R_mono HO_8.out (fun _ hk => ⟨hk.1.1, hk.2⟩)⟩, ⟨by (with_reducible repeat (first | apply Kd.R_alloc | apply Kd.R_drewN | apply Kd.R_drew)); exact Kd.R_mono HO_9.out (fun _ hk => ⟨hk.1.1, hk.2⟩)⟩, ⟨by (with_reducible repeat (first | apply Kd.R_alloc | apply Kd.R_drewN | apply Kd.R_drew)); exact Kd.R_mono HO300.out (fun _ hk => ⟨hk.1, hk.2.1⟩)⟩, ⟨by repeat (first | (with_reducible first | exact HB.out | apply below_alloc | apply pw_below_drewN | apply below_drew1) | exact HB.out)⟩⟩
                                                · rw [if_neg c42] at H
                                                  have c42b0 : (((rd_T35 l0 x13_3).f1) == x12_1) = false := beq_eq_false_iff_ne.mpr c42
                                                  have c42b1 : (((rd_T35 l0 x13_3).f1) != x12_1) = true := bne_iff_ne.mpr c42
                                                  by_cases c49 : x11_1 < 0
                                                  · rw [if_pos c49] at H
                                                    have c49b0 : decide (x11_1 < 0) = true := decide_eq_true c49
                                                    clear c49
                                                    have H' := Aside0.mk H
                                                    clear H
                                                    have p35 : 0 ≤ (x13_3 : Int) := of_decide_eq_true (by first | (with_reducible assumption) | assumption)
                                                    have q35 : (x13_3 : Int) < ((y283.length : Int) : Int) := of_decide_eq_true (by first | (with_reducible assumption) | assumption)
                                                    obtain ⟨go35, co35, eo35, gb35, gl35, cl35, HG35⟩ := Kd.R_form HO_9.out (by omega)
                                                    (first | cases eo35 | (injection eo35 with ea_ en_ ec_; (first | subst ea_ | (injection ea_ with ea_; subst ea_)); subst ec_; clear en_))
                                                    have GB35 := Aside0.mk gb35
                                                    have GG35 := Aside0.mk HG35
                                                    clear gb35 gl35 HG35
                                                    obtain ⟨hx35_0, hf35_0⟩ := Kd.R_celln 0 HO_9.out (x13_3 : Int) p35 q35
                                                    replace p35 := eq_true p35
                                                    replace q35 := eq_true q35
                                                    have HP50 := Kd.R_putg HO_9.out (x13_3 : Int) x12_1
                                                    go_wp2_with (first | ((with_reducible refine gate_store (t := 3) (p := 82) rfl ?_); refine store_event (t := 3) (p := 82) (v := ?vo_w51) (w1 := (wc.setCell ⟨go35, (x13_3 : Int).toNat, none⟩ (.int .i64 x12_1))) ?hg ?ho ?hn ?hr ?_; (case ho => rfl); (case hg => rfl); (case hn => rfl); (case hr => first | (go_simp; done) | (go_simp; rfl)); intro w51 hw; have hg : wc.grownBy w51 (some go35) := (by rw [hw]; exact HP50.2); have hp_ : Kd.R (Kd.int .i64) 3 w51 w.heap.size (fun k_ => some k_ ≠ (v281 : Value).ownBlock ∧ some k_ ≠ (.slice Ao5 x10_1.length co5 : Value).ownBlock) (.slice (some ⟨go35, 0, none⟩) y283.length co35) y290 := (by rw [hw, Ny290.out]; exact HP50.1); clear HP50; have n0_ := Aside0.mk (Kd.R_after (v := (.slice (some ⟨go35, 0, none⟩) y283.length co35)) (v1 := (.slice (some ⟨go35, 0, none⟩) y283.length co35)) (ok := (fun k_ => some k_ ≠ (.slice Ao5 x10_1.length co5 : Value).ownBlock)) (by (with_reducible repeat (first | apply Kd.R_alloc | apply Kd.R_drewN | apply Kd.R_drew)); exact Kd.R_mono HO_8.out (fun _ hk => ⟨hk.2, hk.1⟩)) hg (.inl rfl)); have n1_ := Aside0.mk (hp_); have n2_ := Aside0.mk (Kd.R_after (v := (.slice (some ⟨go35, 0, none⟩) y283.length co35)) (v1 := (.slice (some ⟨go35, 0, none⟩) y283.length co35)) (ok := (fun k_ => some k_ ≠ (v281 : Value).ownBlock)) (by (with_reducible repeat (first | apply Kd.R_alloc | apply Kd.R_drewN | apply Kd.R_drew)); exact HO_10.out) hg (.inl rfl)); have n3_ := Aside0.mk ((by rw [hw]; exact below_set (HB.out) GB35.out : Below w.heap.size w w51)); clear HO_8; clear HO_9; clear HO_10; clear HB; have HO_8 := n0_; have HO_9 := n1_; have HO_10 := n2_; have HB := n3_; clear n0_ n1_ n2_ n3_; clear hg hw hp_) | ((with_reducible refine gate_dst (N := 83) rfl ?_); (try (refine gate_guard (by rfl) ?_; dsimp only)); refine Kd.R_lit (Kd.int .i64) _ 3 ?hg (N := 83) ?hd (xs := ([] : List Int)) (inner := []) (ok := fun _ => True) (okp := fun _ => True) ?hr ?hp (fun _ hk => hk) trivial (Below.refl _ _) (Nat.le_refl _) (by simp) ?_; (case hd => rfl); (case hg => rfl); (case hr => first | (go_simp; done) | (go_simp; rfl)); (case hp => exact (Reps.none _ _)); intro v292 w52 ho53 hb hg_ hnew_; clear hg_ hnew_; (first | rw [← Ny291.out] at ho53 | (simp only [Int.reduceToNat] at ho53; rw [← Ny291.out] at ho53)); have n0_ := Aside0.mk (Kd.R_elder' (by (with_reducible repeat (first | apply Kd.R_alloc | apply Kd.R_drewN | apply Kd.R_drew)); exact HO_8.out) (Kd.R_base ho53) hb); have n1_ := Aside0.mk (Kd.R_elder' (by (with_reducible repeat (first | apply Kd.R_alloc | apply Kd.R_drewN | apply Kd.R_drew)); exact HO_9.out) (Kd.R_base ho53) hb); have n2_ := Aside0.mk (Kd.R_elder' (by (with_reducible repeat (first | apply Kd.R_alloc | apply Kd.R_drewN | apply Kd.R_drew)); exact HO_10.out) (Kd.R_base ho53) hb); have n3_ := Aside0.mk (Kd.R_lower (Kd.R_new' (Kd.R_new' (Kd.R_new' ho53 (Kd.R_lt (by (with_reducible repeat (first | apply Kd.R_alloc | apply Kd.R_drewN | apply Kd.R_drew)); exact HO_8.out))) (Kd.R_lt (by (with_reducible repeat (first | apply Kd.R_alloc | apply Kd.R_drewN | apply Kd.R_drew)); exact HO_9.out))) (Kd.R_lt (by (with_reducible repeat (first | apply Kd.R_alloc | apply Kd.R_drewN | apply Kd.R_drew)); exact HO_10.out))) (below_size (by repeat (first | (with_reducible first | exact HB.out | apply below_alloc | apply pw_below_drewN | apply below_drew1) | exact HB.out)))); have n4_ := Aside0.mk (below_step (by repeat (first | (with_reducible first | exact HB.out | apply below_alloc | apply pw_below_drewN | apply below_drew1) | exact HB.out)) hb); clear HO_8; clear HO_9; clear HO_10; clear HB; have HO_8 := n0_; have HO_9 := n1_; have HO_10 := n2_; have HO293 := n3_; have HB := n4_; clear n0_ n1_ n2_ n3_ n4_; clear hb ho53; have q54 : ((ji36) : Int) ≤ ((x10_1.length : Int) : Int) := of_decide_eq_true (by first | (with_reducible assumption) | assumption); obtain ⟨i054, hi054, _, hsz54, _⟩ := info_parts info3; have hroom54 : x10_1.length ≤ co5 := (Kd.R_reads' HO_10.out).2.1; have hC54 : Kd.C (Kd.int .i64) _ Ao5 x10_1.length x10_1 := (Kd.R_reads' HO_10.out).2.2; have hcut54 := cut_to (P := Try.prog) 73 3 .i64 Try.underlying73 hi054 Ao5 x10_1.length co5 (ji36) (of_decide_eq_true (by first | (with_reducible assumption) | assumption)) q54 hroom54; have hr54 := Kd.C_take (m := ((ji36) : Int).toNat) hC54 (by omega); have hy54 : y294.length = ((ji36) : Int).toNat := (by rw [Ny294.out, List.length_take]; omega); rw [← Ny294.out] at hr54; rw [← hy54] at hcut54; have HR297 := Aside0.mk hr54; have HC297 := Aside0.mk (show y294.length ≤ co5 from by omega); clear hr54 hC54 hroom54 hi054 hsz54; have KY54 := Aside0.mk hy54; clear hy54; have KL54 := Aside0.mk (show ((ji36) : Int).toNat ≤ x10_1.length from by omega); replace q54 := eq_true q54) | ((with_reducible refine gate_builtin (b := .append) (xs := #[.tmp 83, .tmp 88]) rfl ?_); (try (refine gate_guard (by rfl) ?_; dsimp only)); at_builtin; refine Kd.R_append_rows (Kd.int .i64) (w0 := w) w.heap.size rfl (.tmp 83) (.tmp 88) 73 3 (.int .i64 0) 8 rfl Try.underlying73 info3 rfl (by decide) (by omega) v292 y291 y294 _ _ _ (fun k_ => some k_ ≠ (v281 : Value).ownBlock ∧ some k_ ≠ (.slice (some ⟨go35, 0, none⟩) y283.length co35 : Value).ownBlock ∧ some k_ ≠ (.slice Ao5 x10_1.length co5 : Value).ownBlock) (fun _ => False) rfl rfl ?aO ?aR (fun _ _ h => h) (fun _ h => h.elim) ?aF ?aB ?aS ?aL ?_; (case aR => repeat (first | exact (by repeat (first | (with_reducible exact HR297.out) | (with_reducible refine Kd.C_alloc ?_ _) | (with_reducible refine Kd.C_drewN ?_ _) | (with_reducible refine Kd.C_drew ?_) | exact HR297.out)) | (with_reducible refine Kd.C_alloc ?_ _) | (with_reducible refine Kd.C_drewN ?_ _) | (with_reducible refine Kd.C_drew ?_))); (case aB => exact (by repeat (first | (with_reducible first | exact HB.out | apply below_alloc | apply pw_below_drewN | apply below_drew1) | exact HB.out))); (case aF => exact (fun k_ hk => ⟨Kd.fresh' (Kd.R_lt (by (with_reducible repeat (first | apply Kd.R_alloc | apply Kd.R_drewN | apply Kd.R_drew)); exact HO_8.out)) k_ hk, Kd.fresh' (Kd.R_lt (by (with_reducible repeat (first | apply Kd.R_alloc | apply Kd.R_drewN | apply Kd.R_drew)); exact HO_9.out)) k_ hk, Kd.fresh' (Kd.R_lt (by (with_reducible repeat (first | apply Kd.R_alloc | apply Kd.R_drewN | apply Kd.R_drew)); exact HO_10.out)) k_ hk⟩)); (case aO => exact (by (with_reducible repeat (first | apply Kd.R_alloc | apply Kd.R_drewN | apply Kd.R_drew)); exact Kd.R_mono HO293.out (fun _ hk => ⟨hk.1.1.2, ⟨hk.1.2, hk.2⟩⟩))); (case aS => exact (below_size (by repeat (first | (with_reducible first | exact HB.out | apply below_alloc | apply pw_below_drewN | apply below_drew1) | exact HB.out)))); (case aL => have := LMc39.out; omega); intro v299 w55 ho hb hg hat; rw [← Ny298.out] at ho; have n0_ := Aside0.mk (Kd.R_after (ok := (fun k_ => some k_ ≠ (.slice (some ⟨go35, 0, none⟩) y283.length co35 : Value).ownBlock ∧ some k_ ≠ (.slice Ao5 x10_1.length co5 : Value).ownBlock)) (by (with_reducible repeat (first | apply Kd.R_alloc | apply Kd.R_drewN | apply Kd.R_drew)); exact Kd.R_mono HO_8.out (fun _ hk => ⟨⟨hk.1.2, hk.1.1⟩, hk.2⟩)) hg hat); have n1_ := Aside0.mk (Kd.R_after (ok := (fun k_ => some k_ ≠ (v281 : Value).ownBlock ∧ some k_ ≠ (.slice Ao5 x10_1.length co5 : Value).ownBlock)) (by (with_reducible repeat (first | apply Kd.R_alloc | apply Kd.R_drewN | apply Kd.R_drew)); exact HO_9.out) hg hat); have n2_ := Aside0.mk (Kd.R_after (ok := (fun k_ => some k_ ≠ (v281 : Value).ownBlock ∧ some k_ ≠ (.slice (some ⟨go35, 0, none⟩) y283.length co35 : Value).ownBlock)) (by (with_reducible repeat (first | apply Kd.R_alloc | apply Kd.R_drewN | apply Kd.R_drew)); exact HO_10.out) hg hat); have n3_ := Aside0.mk (hb); have n4_ := Aside0.mk ((show Kd.C (Kd.int .i64) w55 Ao5 y294.length y294 from by rw [Ny294.out]; exact Kd.C_take (m := ((ji36) : Int).toNat) ((Kd.R_reads' (Kd.R_after (ok := (fun k_ => some k_ ≠ (v281 : Value).ownBlock ∧ some k_ ≠ (.slice (some ⟨go35, 0, none⟩) y283.length co35 : Value).ownBlock)) (by (with_reducible repeat (first | apply Kd.R_alloc | apply Kd.R_drewN | apply Kd.R_drew)); exact HO_10.out) hg hat)).2.2) KL54.out)); have n5_ := Aside0.mk (ho); clear HO_8; clear HO_9; clear HO_10; clear HB; clear HR297; clear HO293; have HO_8 := n0_; have HO_9 := n1_; have HO_10 := n2_; have HB := n3_; have HR297 := n4_; have HO300 := n5_; clear n0_ n1_ n2_ n3_ n4_ n5_; clear ho hb hg hat; have p301 : 0 ≤ (x13_3 : Int) := of_decide_eq_true (by first | (with_reducible assumption) | assumption); have q301 : x13_3 < (l0.length : Int) := of_decide_eq_true (by first | (with_reducible assumption) | assumption); obtain ⟨ad301, e301, hx301_0, hx301_1, hx301_2⟩ := at_T35 HR0.out x13_3 p301 q301; obtain rfl : ad279 = ad301 := (by injection e301); replace hx301_0 := (HB.out.cell (World.block_lt_of_cell? w _ hx301_0)).trans hx301_0; replace hx301_1 := (HB.out.cell (World.block_lt_of_cell? w _ hx301_1)).trans hx301_1; replace hx301_2 := (HB.out.cell (World.block_lt_of_cell? w _ hx301_2)).trans hx301_2; replace p301 := eq_true p301; replace q301 := eq_true q301))
                                                    go_meet
                                                    case rel => exact ⟨_, (y290), (y298), (x13_3), (x15_13), (by first | rfl | (simp; done) | (simp [*]; done)), (by first | rfl | (simp; done) | (simp [*]; done)), H', ⟨by have := HK1.out; have := HJ3.out; have := HJ13.out; have := HJ27.out; first | omega | exact Nat.le_refl _⟩, ⟨by (with_reducible repeat (first | apply Kd.R_alloc | apply Kd.R_drewN | apply Kd.R_drew)); exact Kd.R_mono HO_8.out (fun _ hk => ⟨hk.1.1, hk.2⟩)⟩, ⟨by (with_reducible repeat (first | apply Kd.R_alloc | apply Kd.R_drewN | apply Kd.R_drew)); exact Kd.R_mono HO_9.out (fun _ hk => ⟨hk.1.1, hk.2⟩)⟩, ⟨by (with_reducible repeat (first | apply Kd.R_alloc | apply Kd.R_drewN | apply Kd.R_drew)); exact Kd.R_mono HO300.out (fun _ hk => ⟨hk.1, hk.2.1⟩)⟩, ⟨by repeat (first | (with_reducible first | exact HB.out | apply below_alloc | apply pw_below_drewN | apply below_drew1) | exact HB.out)⟩⟩
                                                  · rw [if_neg c49] at H
                                                    have c49b0 : decide (x11_1 < 0) = false := decide_eq_false c49
                                                    clear c49
                                                    by_cases c56 : x13_3 < x11_1
                                                    · rw [if_pos c56] at H
                                                      have c56b0 : decide (x13_3 < x11_1) = true := decide_eq_true c56
                                                      clear c56
                                                      have H' := Aside0.mk H
                                                      clear H
                                                      have p35 : 0 ≤ (x13_3 : Int) := of_decide_eq_true (by first | (with_reducible assumption) | assumption)
                                                      have q35 : (x13_3 : Int) < ((y283.length : Int) : Int) := of_decide_eq_true (by first | (with_reducible assumption) | assumption)
                                                      obtain ⟨go35, co35, eo35, gb35, gl35, cl35, HG35⟩ := Kd.R_form HO_9.out (by omega)
                                                      (first | cases eo35 | (injection eo35 with ea_ en_ ec_; (first | subst ea_ | (injection ea_ with ea_; subst ea_)); subst ec_; clear en_))
                                                      have GB35 := Aside0.mk gb35
                                                      have GG35 := Aside0.mk HG35
                                                      clear gb35 gl35 HG35
                                                      obtain ⟨hx35_0, hf35_0⟩ := Kd.R_celln 0 HO_9.out (x13_3 : Int) p35 q35
                                                      replace p35 := eq_true p35
                                                      replace q35 := eq_true q35
                                                      have HP57 := Kd.R_putg HO_9.out (x13_3 : Int) x12_1
                                                      go_wp2_with (first | ((with_reducible refine gate_store (t := 3) (p := 82) rfl ?_); refine store_event (t := 3) (p := 82) (v := ?vo_w58) (w1 := (wc.setCell ⟨go35, (x13_3 : Int).toNat, none⟩ (.int .i64 x12_1))) ?hg ?ho ?hn ?hr ?_; (case ho => rfl); (case hg => rfl); (case hn => rfl); (case hr => first | (go_simp; done) | (go_simp; rfl)); intro w58 hw; have hg : wc.grownBy w58 (some go35) := (by rw [hw]; exact HP57.2); have hp_ : Kd.R (Kd.int .i64) 3 w58 w.heap.size (fun k_ => some k_ ≠ (v281 : Value).ownBlock ∧ some k_ ≠ (.slice Ao5 x10_1.length co5 : Value).ownBlock) (.slice (some ⟨go35, 0, none⟩) y283.length co35) y290 := (by rw [hw, Ny290.out]; exact HP57.1); clear HP57; have n0_ := Aside0.mk (Kd.R_after (v := (.slice (some ⟨go35, 0, none⟩) y283.length co35)) (v1 := (.slice (some ⟨go35, 0, none⟩) y283.length co35)) (ok := (fun k_ => some k_ ≠ (.slice Ao5 x10_1.length co5 : Value).ownBlock)) (by (with_reducible repeat (first | apply Kd.R_alloc | apply Kd.R_drewN | apply Kd.R_drew)); exact Kd.R_mono HO_8.out (fun _ hk => ⟨hk.2, hk.1⟩)) hg (.inl rfl)); have n1_ := Aside0.mk (hp_); have n2_ := Aside0.mk (Kd.R_after (v := (.slice (some ⟨go35, 0, none⟩) y283.length co35)) (v1 := (.slice (some ⟨go35, 0, none⟩) y283.length co35)) (ok := (fun k_ => some k_ ≠ (v281 : Value).ownBlock)) (by (with_reducible repeat (first | apply Kd.R_alloc | apply Kd.R_drewN | apply Kd.R_drew)); exact HO_10.out) hg (.inl rfl)); have n3_ := Aside0.mk ((by rw [hw]; exact below_set (HB.out) GB35.out : Below w.heap.size w w58)); clear HO_8; clear HO_9; clear HO_10; clear HB; have HO_8 := n0_; have HO_9 := n1_; have HO_10 := n2_; have HB := n3_; clear n0_ n1_ n2_ n3_; clear hg hw hp_) | ((with_reducible refine gate_dst (N := 83) rfl ?_); (try (refine gate_guard (by rfl) ?_; dsimp only)); refine Kd.R_lit (Kd.int .i64) _ 3 ?hg (N := 83) ?hd (xs := ([] : List Int)) (inner := []) (ok := fun _ => True) (okp := fun _ => True) ?hr ?hp (fun _ hk => hk) trivial (Below.refl _ _) (Nat.le_refl _) (by simp) ?_; (case hd => rfl); (case hg => rfl); (case hr => first | (go_simp; done) | (go_simp; rfl)); (case hp => exact (Reps.none _ _)); intro v292 w59 ho60 hb hg_ hnew_; clear hg_ hnew_; (first | rw [← Ny291.out] at ho60 | (simp only [Int.reduceToNat] at ho60; rw [← Ny291.out] at ho60)); have n0_ := Aside0.mk (Kd.R_elder' (by (with_reducible repeat (first | apply Kd.R_alloc | apply Kd.R_drewN | apply Kd.R_drew)); exact HO_8.out) (Kd.R_base ho60) hb); have n1_ := Aside0.mk (Kd.R_elder' (by (with_reducible repeat (first | apply Kd.R_alloc | apply Kd.R_drewN | apply Kd.R_drew)); exact HO_9.out) (Kd.R_base ho60) hb); have n2_ := Aside0.mk (Kd.R_elder' (by (with_reducible repeat (first | apply Kd.R_alloc | apply Kd.R_drewN | apply Kd.R_drew)); exact HO_10.out) (Kd.R_base ho60) hb); have n3_ := Aside0.mk (Kd.R_lower (Kd.R_new' (Kd.R_new' (Kd.R_new' ho60 (Kd.R_lt (by (with_reducible repeat (first | apply Kd.R_alloc | apply Kd.R_drewN | apply Kd.R_drew)); exact HO_8.out))) (Kd.R_lt (by (with_reducible repeat (first | apply Kd.R_alloc | apply Kd.R_drewN | apply Kd.R_drew)); exact HO_9.out))) (Kd.R_lt (by (with_reducible repeat (first | apply Kd.R_alloc | apply Kd.R_drewN | apply Kd.R_drew)); exact HO_10.out))) (below_size (by repeat (first | (with_reducible first | exact HB.out | apply below_alloc | apply pw_below_drewN | apply below_drew1) | exact HB.out)))); have n4_ := Aside0.mk (below_step (by repeat (first | (with_reducible first | exact HB.out | apply below_alloc | apply pw_below_drewN | apply below_drew1) | exact HB.out)) hb); clear HO_8; clear HO_9; clear HO_10; clear HB; have HO_8 := n0_; have HO_9 := n1_; have HO_10 := n2_; have HO293 := n3_; have HB := n4_; clear n0_ n1_ n2_ n3_ n4_; clear hb ho60; have q61 : ((ji36) : Int) ≤ ((x10_1.length : Int) : Int) := of_decide_eq_true (by first | (with_reducible assumption) | assumption); obtain ⟨i061, hi061, _, hsz61, _⟩ := info_parts info3; have hroom61 : x10_1.length ≤ co5 := (Kd.R_reads' HO_10.out).2.1; have hC61 : Kd.C (Kd.int .i64) _ Ao5 x10_1.length x10_1 := (Kd.R_reads' HO_10.out).2.2; have hcut61 := cut_to (P := Try.prog) 73 3 .i64 Try.underlying73 hi061 Ao5 x10_1.length co5 (ji36) (of_decide_eq_true (by first | (with_reducible assumption) | assumption)) q61 hroom61; have hr61 := Kd.C_take (m := ((ji36) : Int).toNat) hC61 (by omega); have hy61 : y294.length = ((ji36) : Int).toNat := (by rw [Ny294.out, List.length_take]; omega); rw [← Ny294.out] at hr61; rw [← hy61] at hcut61; have HR297 := Aside0.mk hr61; have HC297 := Aside0.mk (show y294.length ≤ co5 from by omega); clear hr61 hC61 hroom61 hi061 hsz61; have KY61 := Aside0.mk hy61; clear hy61; have KL61 := Aside0.mk (show ((ji36) : Int).toNat ≤ x10_1.length from by omega); replace q61 := eq_true q61) | ((with_reducible refine gate_builtin (b := .append) (xs := #[.tmp 83, .tmp 88]) rfl ?_); (try (refine gate_guard (by rfl) ?_; dsimp only)); at_builtin; refine Kd.R_append_rows (Kd.int .i64) (w0 := w) w.heap.size rfl (.tmp 83) (.tmp 88) 73 3 (.int .i64 0) 8 rfl Try.underlying73 info3 rfl (by decide) (by omega) v292 y291 y294 _ _ _ (fun k_ => some k_ ≠ (v281 : Value).ownBlock ∧ some k_ ≠ (.slice (some ⟨go35, 0, none⟩) y283.length co35 : Value).ownBlock ∧ some k_ ≠ (.slice Ao5 x10_1.length co5 : Value).ownBlock) (fun _ => False) rfl rfl ?aO ?aR (fun _ _ h => h) (fun _ h => h.elim) ?aF ?aB ?aS ?aL ?_; (case aR => repeat (first | exact (by repeat (first | (with_reducible exact HR297.out) | (with_reducible refine Kd.C_alloc ?_ _) | (with_reducible refine Kd.C_drewN ?_ _) | (with_reducible refine Kd.C_drew ?_) | exact HR297.out)) | (with_reducible refine Kd.C_alloc ?_ _) | (with_reducible refine Kd.C_drewN ?_ _) | (with_reducible refine Kd.C_drew ?_))); (case aB => exact (by repeat (first | (with_reducible first | exact HB.out | apply below_alloc | apply pw_below_drewN | apply below_drew1) | exact HB.out))); (case aF => exact (fun k_ hk => ⟨Kd.fresh' (Kd.R_lt (by (with_reducible repeat (first | apply Kd.R_alloc | apply Kd.R_drewN | apply Kd.R_drew)); exact HO_8.out)) k_ hk, Kd.fresh' (Kd.R_lt (by (with_reducible repeat (first | apply Kd.R_alloc | apply Kd.R_drewN | apply Kd.R_drew)); exact HO_9.out)) k_ hk, Kd.fresh' (Kd.R_lt (by (with_reducible repeat (first | apply Kd.R_alloc | apply Kd.R_drewN | apply Kd.R_drew)); exact HO_10.out)) k_ hk⟩)); (case aO => exact (by (with_reducible repeat (first | apply Kd.R_alloc | apply Kd.R_drewN | apply Kd.R_drew)); exact Kd.R_mono HO293.out (fun _ hk => ⟨hk.1.1.2, ⟨hk.1.2, hk.2⟩⟩))); (case aS => exact (below_size (by repeat (first | (with_reducible first | exact HB.out | apply below_alloc | apply pw_below_drewN | apply below_drew1) | exact HB.out)))); (case aL => have := LMc39.out; omega); intro v299 w62 ho hb hg hat; rw [← Ny298.out] at ho; have n0_ := Aside0.mk (Kd.R_after (ok := (fun k_ => some k_ ≠ (.slice (some ⟨go35, 0, none⟩) y283.length co35 : Value).ownBlock ∧ some k_ ≠ (.slice Ao5 x10_1.length co5 : Value).ownBlock)) (by (with_reducible repeat (first | apply Kd.R_alloc | apply Kd.R_drewN | apply Kd.R_drew)); exact Kd.R_mono HO_8.out (fun _ hk => ⟨⟨hk.1.2, hk.1.1⟩, hk.2⟩)) hg hat); have n1_ := Aside0.mk (Kd.R_after (ok := (fun k_ => some k_ ≠ (v281 : Value).ownBlock ∧ some k_ ≠ (.slice Ao5 x10_1.length co5 : Value).ownBlock)) (by (with_reducible repeat (first | apply Kd.R_alloc | apply Kd.R_drewN | apply Kd.R_drew)); exact HO_9.out) hg hat); have n2_ := Aside0.mk (Kd.R_after (ok := (fun k_ => some k_ ≠ (v281 : Value).ownBlock ∧ some k_ ≠ (.slice (some ⟨go35, 0, none⟩) y283.length co35 : Value).ownBlock)) (by (with_reducible repeat (first | apply Kd.R_alloc | apply Kd.R_drewN | apply Kd.R_drew)); exact HO_10.out) hg hat); have n3_ := Aside0.mk (hb); have n4_ := Aside0.mk ((show Kd.C (Kd.int .i64) w62 Ao5 y294.length y294 from by rw [Ny294.out]; exact Kd.C_take (m := ((ji36) : Int).toNat) ((Kd.R_reads' (Kd.R_after (ok := (fun k_ => some k_ ≠ (v281 : Value).ownBlock ∧ some k_ ≠ (.slice (some ⟨go35, 0, none⟩) y283.length co35 : Value).ownBlock)) (by (with_reducible repeat (first | apply Kd.R_alloc | apply Kd.R_drewN | apply Kd.R_drew)); exact HO_10.out) hg hat)).2.2) KL61.out)); have n5_ := Aside0.mk (ho); clear HO_8; clear HO_9; clear HO_10; clear HB; clear HR297; clear HO293; have HO_8 := n0_; have HO_9 := n1_; have HO_10 := n2_; have HB := n3_; have HR297 := n4_; have HO300 := n5_; clear n0_ n1_ n2_ n3_ n4_ n5_; clear ho hb hg hat; have p301 : 0 ≤ (x13_3 : Int) := of_decide_eq_true (by first | (with_reducible assumption) | assumption); have q301 : x13_3 < (l0.length : Int) := of_decide_eq_true (by first | (with_reducible assumption) | assumption); obtain ⟨ad301, e301, hx301_0, hx301_1, hx301_2⟩ := at_T35 HR0.out x13_3 p301 q301; obtain rfl : ad279 = ad301 := (by injection e301); replace hx301_0 := (HB.out.cell (World.block_lt_of_cell? w _ hx301_0)).trans hx301_0; replace hx301_1 := (HB.out.cell (World.block_lt_of_cell? w _ hx301_1)).trans hx301_1; replace hx301_2 := (HB.out.cell (World.block_lt_of_cell? w _ hx301_2)).trans hx301_2; replace p301 := eq_true p301; replace q301 := eq_true q301))
                                                      go_meet
                                                      case rel => exact ⟨_, (y290), (y298), (x13_3), (x15_13), (by first | rfl | (simp; done) | (simp [*]; done)), (by first | rfl | (simp; done) | (simp [*]; done)), H', ⟨by have := HK1.out; have := HJ3.out; have := HJ13.out; have := HJ27.out; first | omega | exact Nat.le_refl _⟩, ⟨by (with_reducible repeat (first | apply Kd.R_alloc | apply Kd.R_drewN | apply Kd.R_drew)); exact Kd.R_mono HO_8.out (fun _ hk => ⟨hk.1.1, hk.2⟩)⟩, ⟨by (with_reducible repeat (first | apply Kd.R_alloc | apply Kd.R_drewN | apply Kd.R_drew)); exact Kd.R_mono HO_9.out (fun _ hk => ⟨hk.1.1, hk.2⟩)⟩, ⟨by (with_reducible repeat (first | apply Kd.R_alloc | apply Kd.R_drewN | apply Kd.R_drew)); exact Kd.R_mono HO300.out (fun _ hk => ⟨hk.1, hk.2.1⟩)⟩, ⟨by repeat (first | (with_reducible first | exact HB.out | apply below_alloc | apply pw_below_drewN | apply below_drew1) | exact HB.out)⟩⟩
                                                    · rw [if_neg c56] at H
                                                      have c56b0 : decide (x13_3 < x11_1) = false := decide_eq_false c56
                                                      clear c56
                                                      have H' := Aside0.mk H
                                                      clear H
                                                      have p35 : 0 ≤ (x13_3 : Int) := of_decide_eq_true (by first | (with_reducible assumption) | assumption)
                                                      have q35 : (x13_3 : Int) < ((y283.length : Int) : Int) := of_decide_eq_true (by first | (with_reducible assumption) | assumption)
                                                      obtain ⟨go35, co35, eo35, gb35, gl35, cl35, HG35⟩ := Kd.R_form HO_9.out (by omega)
                                                      (first | cases eo35 | (injection eo35 with ea_ en_ ec_; (first | subst ea_ | (injection ea_ with ea_; subst ea_)); subst ec_; clear en_))
                                                      have GB35 := Aside0.mk gb35
                                                      have GG35 := Aside0.mk HG35
                                                      clear gb35 gl35 HG35
                                                      obtain ⟨hx35_0, hf35_0⟩ := Kd.R_celln 0 HO_9.out (x13_3 : Int) p35 q35
                                                      replace p35 := eq_true p35
                                                      replace q35 := eq_true q35
                                                      have HP63 := Kd.R_putg HO_9.out (x13_3 : Int) x12_1
                                                      go_wp2_with (first | ((with_reducible refine gate_store (t := 3) (p := 82) rfl ?_); refine store_event (t := 3) (p := 82) (v := ?vo_w64) (w1 := (wc.setCell ⟨go35, (x13_3 : Int).toNat, none⟩ (.int .i64 x12_1))) ?hg ?ho ?hn ?hr ?_; (case ho => rfl); (case hg => rfl); (case hn => rfl); (case hr => first | (go_simp; done) | (go_simp; rfl)); intro w64 hw; have hg : wc.grownBy w64 (some go35) := (by rw [hw]; exact HP63.2); have hp_ : Kd.R (Kd.int .i64) 3 w64 w.heap.size (fun k_ => some k_ ≠ (v281 : Value).ownBlock ∧ some k_ ≠ (.slice Ao5 x10_1.length co5 : Value).ownBlock) (.slice (some ⟨go35, 0, none⟩) y283.length co35) y290 := (by rw [hw, Ny290.out]; exact HP63.1); clear HP63; have n0_ := Aside0.mk (Kd.R_after (v := (.slice (some ⟨go35, 0, none⟩) y283.length co35)) (v1 := (.slice (some ⟨go35, 0, none⟩) y283.length co35)) (ok := (fun k_ => some k_ ≠ (.slice Ao5 x10_1.length co5 : Value).ownBlock)) (by (with_reducible repeat (first | apply Kd.R_alloc | apply Kd.R_drewN | apply Kd.R_drew)); exact Kd.R_mono HO_8.out (fun _ hk => ⟨hk.2, hk.1⟩)) hg (.inl rfl)); have n1_ := Aside0.mk (hp_); have n2_ := Aside0.mk (Kd.R_after (v := (.slice (some ⟨go35, 0, none⟩) y283.length co35)) (v1 := (.slice (some ⟨go35, 0, none⟩) y283.length co35)) (ok := (fun k_ => some k_ ≠ (v281 : Value).ownBlock)) (by (with_reducible repeat (first | apply Kd.R_alloc | apply Kd.R_drewN | apply Kd.R_drew)); exact HO_10.out) hg (.inl rfl)); have n3_ := Aside0.mk ((by rw [hw]; exact below_set (HB.out) GB35.out : Below w.heap.size w w64)); clear HO_8; clear HO_9; clear HO_10; clear HB; have HO_8 := n0_; have HO_9 := n1_; have HO_10 := n2_; have HB := n3_; clear n0_ n1_ n2_ n3_; clear hg hw hp_) | ((with_reducible refine gate_dst (N := 83) rfl ?_); (try (refine gate_guard (by rfl) ?_; dsimp only)); refine Kd.R_lit (Kd.int .i64) _ 3 ?hg (N := 83) ?hd (xs := ([] : List Int)) (inner := []) (ok := fun _ => True) (okp := fun _ => True) ?hr ?hp (fun _ hk => hk) trivial (Below.refl _ _) (Nat.le_refl _) (by simp) ?_; (case hd => rfl); (case hg => rfl); (case hr => first | (go_simp; done) | (go_simp; rfl)); (case hp => exact (Reps.none _ _)); intro v292 w65 ho66 hb hg_ hnew_; clear hg_ hnew_; (first | rw [← Ny291.out] at ho66 | (simp only [Int.reduceToNat] at ho66; rw [← Ny291.out] at ho66)); have n0_ := Aside0.mk (Kd.R_elder' (by (with_reducible repeat (first | apply Kd.R_alloc | apply Kd.R_drewN | apply Kd.R_drew)); exact HO_8.out) (Kd.R_base ho66) hb); have n1_ := Aside0.mk (Kd.R_elder' (by (with_reducible repeat (first | apply Kd.R_alloc | apply Kd.R_drewN | apply Kd.R_drew)); exact HO_9.out) (Kd.R_base ho66) hb); have n2_ := Aside0.mk (Kd.R_elder' (by (with_reducible repeat (first | apply Kd.R_alloc | apply Kd.R_drewN | apply Kd.R_drew)); exact HO_10.out) (Kd.R_base ho66) hb); have n3_ := Aside0.mk (Kd.R_lower (Kd.R_new' (Kd.R_new' (Kd.R_new' ho66 (Kd.R_lt (by (with_reducible repeat (first | apply Kd.R_alloc | apply Kd.R_drewN | apply Kd.R_drew)); exact HO_8.out))) (Kd.R_lt (by (with_reducible repeat (first | apply Kd.R_alloc | apply Kd.R_drewN | apply Kd.R_drew)); exact HO_9.out))) (Kd.R_lt (by (with_reducible repeat (first | apply Kd.R_alloc | apply Kd.R_drewN | apply Kd.R_drew)); exact HO_10.out))) (below_size (by repeat (first | (with_reducible first | exact HB.out | apply below_alloc | apply pw_below_drewN | apply below_drew1) | exact HB.out)))); have n4_ := Aside0.mk (below_step (by repeat (first | (with_reducible first | exact HB.out | apply below_alloc | apply pw_below_drewN | apply below_drew1) | exact HB.out)) hb); clear HO_8; clear HO_9; clear HO_10; clear HB; have HO_8 := n0_; have HO_9 := n1_; have HO_10 := n2_; have HO293 := n3_; have HB := n4_; clear n0_ n1_ n2_ n3_ n4_; clear hb ho66; have q67 : ((ji36) : Int) ≤ ((x10_1.length : Int) : Int) := of_decide_eq_true (by first | (with_reducible assumption) | assumption); obtain ⟨i067, hi067, _, hsz67, _⟩ := info_parts info3; have hroom67 : x10_1.length ≤ co5 := (Kd.R_reads' HO_10.out).2.1; have hC67 : Kd.C (Kd.int .i64) _ Ao5 x10_1.length x10_1 := (Kd.R_reads' HO_10.out).2.2; have hcut67 := cut_to (P := Try.prog) 73 3 .i64 Try.underlying73 hi067 Ao5 x10_1.length co5 (ji36) (of_decide_eq_true (by first | (with_reducible assumption) | assumption)) q67 hroom67; have hr67 := Kd.C_take (m := ((ji36) : Int).toNat) hC67 (by omega); have hy67 : y294.length = ((ji36) : Int).toNat := (by rw [Ny294.out, List.length_take]; omega); rw [← Ny294.out] at hr67; rw [← hy67] at hcut67; have HR297 := Aside0.mk hr67; have HC297 := Aside0.mk (show y294.length ≤ co5 from by omega); clear hr67 hC67 hroom67 hi067 hsz67; have KY67 := Aside0.mk hy67; clear hy67; have KL67 := Aside0.mk (show ((ji36) : Int).toNat ≤ x10_1.length from by omega); replace q67 := eq_true q67) | ((with_reducible refine gate_builtin (b := .append) (xs := #[.tmp 83, .tmp 88]) rfl ?_); (try (refine gate_guard (by rfl) ?_; dsimp only)); at_builtin; refine Kd.R_append_rows (Kd.int .i64) (w0 := w) w.heap.size rfl (.tmp 83) (.tmp 88) 73 3 (.int .i64 0) 8 rfl Try.underlying73 info3 rfl (by decide) (by omega) v292 y291 y294 _ _ _ (fun k_ => some k_ ≠ (v281 : Value).ownBlock ∧ some k_ ≠ (.slice (some ⟨go35, 0, none⟩) y283.length co35 : Value).ownBlock ∧ some k_ ≠ (.slice Ao5 x10_1.length co5 : Value).ownBlock) (fun _ => False) rfl rfl ?aO ?aR (fun _ _ h => h) (fun _ h => h.elim) ?aF ?aB ?aS ?aL ?_; (case aR => repeat (first | exact (by repeat (first | (with_reducible exact HR297.out) | (with_reducible refine Kd.C_alloc ?_ _) | (with_reducible refine Kd.C_drewN ?_ _) | (with_reducible refine Kd.C_drew ?_) | exact HR297.out)) | (with_reducible refine Kd.C_alloc ?_ _) | (with_reducible refine Kd.C_drewN ?_ _) | (with_reducible refine Kd.C_drew ?_))); (case aB => exact (by repeat (first | (with_reducible first | exact HB.out | apply below_alloc | apply pw_below_drewN | apply below_drew1) | exact HB.out))); (case aF => exact (fun k_ hk => ⟨Kd.fresh' (Kd.R_lt (by (with_reducible repeat (first | apply Kd.R_alloc | apply Kd.R_drewN | apply Kd.R_drew)); exact HO_8.out)) k_ hk, Kd.fresh' (Kd.R_lt (by (with_reducible repeat (first | apply Kd.R_alloc | apply Kd.R_drewN | apply Kd.R_drew)); exact HO_9.out)) k_ hk, Kd.fresh' (Kd.R_lt (by (with_reducible repeat (first | apply Kd.R_alloc | apply Kd.R_drewN | apply Kd.R_drew)); exact HO_10.out)) k_ hk⟩)); (case aO => exact (by (with_reducible repeat (first | apply Kd.R_alloc | apply Kd.R_drewN | apply Kd.R_drew)); exact Kd.R_mono HO293.out (fun _ hk => ⟨hk.1.1.2, ⟨hk.1.2, hk.2⟩⟩))); (case aS => exact (below_size (by repeat (first | (with_reducible first | exact HB.out | apply below_alloc | apply pw_below_drewN | apply below_drew1) | exact HB.out)))); (case aL => have := LMc39.out; omega); intro v299 w68 ho hb hg hat; rw [← Ny298.out] at ho; have n0_ := Aside0.mk (Kd.R_after (ok := (fun k_ => some k_ ≠ (.slice (some ⟨go35, 0, none⟩) y283.length co35 : Value).ownBlock ∧ some k_ ≠ (.slice Ao5 x10_1.length co5 : Value).ownBlock)) (by (with_reducible repeat (first | apply Kd.R_alloc | apply Kd.R_drewN | apply Kd.R_drew)); exact Kd.R_mono HO_8.out (fun _ hk => ⟨⟨hk.1.2, hk.1.1⟩, hk.2⟩)) hg hat); have n1_ := Aside0.mk (Kd.R_after (ok := (fun k_ => some k_ ≠ (v281 : Value).ownBlock ∧ some k_ ≠ (.slice Ao5 x10_1.length co5 : Value).ownBlock)) (by (with_reducible repeat (first | apply Kd.R_alloc | apply Kd.R_drewN | apply Kd.R_drew)); exact HO_9.out) hg hat); have n2_ := Aside0.mk (Kd.R_after (ok := (fun k_ => some k_ ≠ (v281 : Value).ownBlock ∧ some k_ ≠ (.slice (some ⟨go35, 0, none⟩) y283.length co35 : Value).ownBlock)) (by (with_reducible repeat (first | apply Kd.R_alloc | apply Kd.R_drewN | apply Kd.R_drew)); exact HO_10.out) hg hat); have n3_ := Aside0.mk (hb); have n4_ := Aside0.mk ((show Kd.C (Kd.int .i64) w68 Ao5 y294.length y294 from by rw [Ny294.out]; exact Kd.C_take (m := ((ji36) : Int).toNat) ((Kd.R_reads' (Kd.R_after (ok := (fun k_ => some k_ ≠ (v281 : Value).ownBlock ∧ some k_ ≠ (.slice (some ⟨go35, 0, none⟩) y283.length co35 : Value).ownBlock)) (by (with_reducible repeat (first | apply Kd.R_alloc | apply Kd.R_drewN | apply Kd.R_drew)); exact HO_10.out) hg hat)).2.2) KL67.out)); have n5_ := Aside0.mk (ho); clear HO_8; clear HO_9; clear HO_10; clear HB; clear HR297; clear HO293; have HO_8 := n0_; have HO_9 := n1_; have HO_10 := n2_; have HB := n3_; have HR297 := n4_; have HO300 := n5_; clear n0_ n1_ n2_ n3_ n4_ n5_; clear ho hb hg hat; have p301 : 0 ≤ (x13_3 : Int) := of_decide_eq_true (by first | (with_reducible assumption) | assumption); have q301 : x13_3 < (l0.length : Int) := of_decide_eq_true (by first | (with_reducible assumption) | assumption); obtain ⟨ad301, e301, hx301_0, hx301_1, hx301_2⟩ := at_T35 HR0.out x13_3 p301 q301; obtain rfl : ad279 = ad301 := (by injection e301); replace hx301_0 := (HB.out.cell (World.block_lt_of_cell? w _ hx301_0)).trans hx301_0; replace hx301_1 := (HB.out.cell (World.block_lt_of_cell? w _ hx301_1)).trans hx301_1; replace hx301_2 := (HB.out.cell (World.block_lt_of_cell? w _ hx301_2)).trans hx301_2; replace p301 := eq_true p301; replace q301 := eq_true q301))
                                                      go_meet
                                                      case rel => exact ⟨_, (y290), (y298), (x11_1), (x15_13), (by first | rfl | (simp; done) | (simp [*]; done)), (by first | rfl | (simp; done) | (simp [*]; done)), H', ⟨by have := HK1.out; have := HJ3.out; have := HJ13.out; have := HJ27.out; first | omega | exact Nat.le_refl _⟩, ⟨by (with_reducible repeat (first | apply Kd.R_alloc | apply Kd.R_drewN | apply Kd.R_drew)); exact Kd.R_mono HO_8.out (fun _ hk => ⟨hk.1.1, hk.2⟩)⟩, ⟨by (with_reducible repeat (first | apply Kd.R_alloc | apply Kd.R_drewN | apply Kd.R_drew)); exact Kd.R_mono HO_9.out (fun _ hk => ⟨hk.1.1, hk.2⟩)⟩, ⟨by (with_reducible repeat (first | apply Kd.R_alloc | apply Kd.R_drewN | apply Kd.R_drew)); exact Kd.R_mono HO300.out (fun _ hk => ⟨hk.1, hk.2.1⟩)⟩, ⟨by repeat (first | (with_reducible first | exact HB.out | apply below_alloc | apply pw_below_drewN | apply below_drew1) | exact HB.out)⟩⟩
                                              · rw [if_neg c41] at H
                                                exact absurd H (by simp)
                                            · replace c40 := Bool.eq_false_iff.mpr c40
                                              subst c40
                                              have H1 : (rowlockref15_Brackets.j4 kj27 l0 false y280 y290 y298 x11_1 x12_1 ((rd_T35 l0 x12_1).f0) x15_13) = some (r1, r2, r3, r4) := by rw [if_neg (show ¬ (false = true) by decide)] at H; exact H
                                              clear H
                                              have H := H1
                                              clear H1
                                              have H' := Aside0.mk H
                                              clear H
                                              have p35 : 0 ≤ (x13_3 : Int) := of_decide_eq_true (by first | (with_reducible assumption) | assumption)
                                              have q35 : (x13_3 : Int) < ((y283.length : Int) : Int) := of_decide_eq_true (by first | (with_reducible assumption) | assumption)
                                              obtain ⟨go35, co35, eo35, gb35, gl35, cl35, HG35⟩ := Kd.R_form HO_9.out (by omega)
                                              (first | cases eo35 | (injection eo35 with ea_ en_ ec_; (first | subst ea_ | (injection ea_ with ea_; subst ea_)); subst ec_; clear en_))
                                              have GB35 := Aside0.mk gb35
                                              have GG35 := Aside0.mk HG35
                                              clear gb35 gl35 HG35
                                              obtain ⟨hx35_0, hf35_0⟩ := Kd.R_celln 0 HO_9.out (x13_3 : Int) p35 q35
                                              replace p35 := eq_true p35
                                              replace q35 := eq_true q35
                                              have HP69 := Kd.R_putg HO_9.out (x13_3 : Int) x12_1
                                              go_wp2_with (first | ((with_reducible refine gate_store (t := 3) (p := 82) rfl ?_); refine store_event (t := 3) (p := 82) (v := ?vo_w70) (w1 := (wc.setCell ⟨go35, (x13_3 : Int).toNat, none⟩ (.int .i64 x12_1))) ?hg ?ho ?hn ?hr ?_; (case ho => rfl); (case hg => rfl); (case hn => rfl); (case hr => first | (go_simp; done) | (go_simp; rfl)); intro w70 hw; have hg : wc.grownBy w70 (some go35) := (by rw [hw]; exact HP69.2); have hp_ : Kd.R (Kd.int .i64) 3 w70 w.heap.size (fun k_ => some k_ ≠ (v281 : Value).ownBlock ∧ some k_ ≠ (.slice Ao5 x10_1.length co5 : Value).ownBlock) (.slice (some ⟨go35, 0, none⟩) y283.length co35) y290 := (by rw [hw, Ny290.out]; exact HP69.1); clear HP69; have n0_ := Aside0.mk (Kd.R_after (v := (.slice (some ⟨go35, 0, none⟩) y283.length co35)) (v1 := (.slice (some ⟨go35, 0, none⟩) y283.length co35)) (ok := (fun k_ => some k_ ≠ (.slice Ao5 x10_1.length co5 : Value).ownBlock)) (by (with_reducible repeat (first | apply Kd.R_alloc | apply Kd.R_drewN | apply Kd.R_drew)); exact Kd.R_mono HO_8.out (fun _ hk => ⟨hk.2, hk.1⟩)) hg (.inl rfl)); have n1_ := Aside0.mk (hp_); have n2_ := Aside0.mk (Kd.R_after (v := (.slice (some ⟨go35, 0, none⟩) y283.length co35)) (v1 := (.slice (some ⟨go35, 0, none⟩) y283.length co35)) (ok := (fun k_ => some k_ ≠ (v281 : Value).ownBlock)) (by (with_reducible repeat (first | apply Kd.R_alloc | apply Kd.R_drewN | apply Kd.R_drew)); exact HO_10.out) hg (.inl rfl)); have n3_ := Aside0.mk ((by rw [hw]; exact below_set (HB.out) GB35.out : Below w.heap.size w w70)); clear HO_8; clear HO_9; clear HO_10; clear HB; have HO_8 := n0_; have HO_9 := n1_; have HO_10 := n2_; have HB := n3_; clear n0_ n1_ n2_ n3_; clear hg hw hp_) | ((with_reducible refine gate_dst (N := 83) rfl ?_); (try (refine gate_guard (by rfl) ?_; dsimp only)); refine Kd.R_lit (Kd.int .i64) _ 3 ?hg (N := 83) ?hd (xs := ([] : List Int)) (inner := []) (ok := fun _ => True) (okp := fun _ => True) ?hr ?hp (fun _ hk => hk) trivial (Below.refl _ _) (Nat.le_refl _) (by simp) ?_; (case hd => rfl); (case hg => rfl); (case hr => first | (go_simp; done) | (go_simp; rfl)); (case hp => exact (Reps.none _ _)); intro v292 w71 ho72 hb hg_ hnew_; clear hg_ hnew_; (first | rw [← Ny291.out] at ho72 | (simp only [Int.reduceToNat] at ho72; rw [← Ny291.out] at ho72)); have n0_ := Aside0.mk (Kd.R_elder' (by (with_reducible repeat (first | apply Kd.R_alloc | apply Kd.R_drewN | apply Kd.R_drew)); exact HO_8.out) (Kd.R_base ho72) hb); have n1_ := Aside0.mk (Kd.R_elder' (by (with_reducible repeat (first | apply Kd.R_alloc | apply Kd.R_drewN | apply Kd.R_drew)); exact HO_9.out) (Kd.R_base ho72) hb); have n2_ := Aside0.mk (Kd.R_elder' (by (with_reducible repeat (first | apply Kd.R_alloc | apply Kd.R_drewN | apply Kd.R_drew)); exact HO_10.out) (Kd.R_base ho72) hb); have n3_ := Aside0.mk (Kd.R_lower (Kd.R_new' (Kd.R_new' (Kd.R_new' ho72 (Kd.R_lt (by (with_reducible repeat (first | apply Kd.R_alloc | apply Kd.R_drewN | apply Kd.R_drew)); exact HO_8.out))) (Kd.R_lt (by (with_reducible repeat (first | apply Kd.R_alloc | apply Kd.R_drewN | apply Kd.R_drew)); exact HO_9.out))) (Kd.R_lt (by (with_reducible repeat (first | apply Kd.R_alloc | apply Kd.R_drewN | apply Kd.R_drew)); exact HO_10.out))) (below_size (by repeat (first | (with_reducible first | exact HB.out | apply below_alloc | apply pw_below_drewN | apply below_drew1) | exact HB.out)))); have n4_ := Aside0.mk (below_step (by repeat (first | (with_reducible first | exact HB.out | apply below_alloc | apply pw_below_drewN | apply below_drew1) | exact HB.out)) hb); clear HO_8; clear HO_9; clear HO_10; clear HB; have HO_8 := n0_; have HO_9 := n1_; have HO_10 := n2_; have HO293 := n3_; have HB := n4_; clear n0_ n1_ n2_ n3_ n4_; clear hb ho72; have q73 : ((ji36) : Int) ≤ ((x10_1.length : Int) : Int) := of_decide_eq_true (by first | (with_reducible assumption) | assumption); obtain ⟨i073, hi073, _, hsz73, _⟩ := info_parts info3; have hroom73 : x10_1.length ≤ co5 := (Kd.R_reads' HO_10.out).2.1; have hC73 : Kd.C (Kd.int .i64) _ Ao5 x10_1.length x10_1 := (Kd.R_reads' HO_10.out).2.2; have hcut73 := cut_to (P := Try.prog) 73 3 .i64 Try.underlying73 hi073 Ao5 x10_1.length co5 (ji36) (of_decide_eq_true (by first | (with_reducible assumption) | assumption)) q73 hroom73; have hr73 := Kd.C_take (m := ((ji36) : Int).toNat) hC73 (by omega); have hy73 : y294.length = ((ji36) : Int).toNat := (by rw [Ny294.out, List.length_take]; omega); rw [← Ny294.out] at hr73; rw [← hy73] at hcut73; have HR297 := Aside0.mk hr73; have HC297 := Aside0.mk (show y294.length ≤ co5 from by omega); clear hr73 hC73 hroom73 hi073 hsz73; have KY73 := Aside0.mk hy73; clear hy73; have KL73 := Aside0.mk (show ((ji36) : Int).toNat ≤ x10_1.length from by omega); replace q73 := eq_true q73) | ((with_reducible refine gate_builtin (b := .append) (xs := #[.tmp 83, .tmp 88]) rfl ?_); (try (refine gate_guard (by rfl) ?_; dsimp only)); at_builtin; refine Kd.R_append_rows (Kd.int .i64) (w0 := w) w.heap.size rfl (.tmp 83) (.tmp 88) 73 3 (.int .i64 0) 8 rfl Try.underlying73 info3 rfl (by decide) (by omega) v292 y291 y294 _ _ _ (fun k_ => some k_ ≠ (v281 : Value).ownBlock ∧ some k_ ≠ (.slice (some ⟨go35, 0, none⟩) y283.length co35 : Value).ownBlock ∧ some k_ ≠ (.slice Ao5 x10_1.length co5 : Value).ownBlock) (fun _ => False) rfl rfl ?aO ?aR (fun _ _ h => h) (fun _ h => h.elim) ?aF ?aB ?aS ?aL ?_; (case aR => repeat (first | exact (by repeat (first | (with_reducible exact HR297.out) | (with_reducible refine Kd.C_alloc ?_ _) | (with_reducible refine Kd.C_drewN ?_ _) | (with_reducible refine Kd.C_drew ?_) | exact HR297.out)) | (with_reducible refine Kd.C_alloc ?_ _) | (with_reducible refine Kd.C_drewN ?_ _) | (with_reducible refine Kd.C_drew ?_))); (case aB => exact (by repeat (first | (with_reducible first | exact HB.out | apply below_alloc | apply pw_below_drewN | apply below_drew1) | exact HB.out))); (case aF => exact (fun k_ hk => ⟨Kd.fresh' (Kd.R_lt (by (with_reducible repeat (first | apply Kd.R_alloc | apply Kd.R_drewN | apply Kd.R_drew)); exact HO_8.out)) k_ hk, Kd.fresh' (Kd.R_lt (by (with_reducible repeat (first | apply Kd.R_alloc | apply Kd.R_drewN | apply Kd.R_drew)); exact HO_9.out)) k_ hk, Kd.fresh' (Kd.R_lt (by (with_reducible repeat (first | apply Kd.R_alloc | apply Kd.R_drewN | apply Kd.R_drew)); exact HO_10.out)) k_ hk⟩)); (case aO => exact (by (with_reducible repeat (first | apply Kd.R_alloc | apply Kd.R_drewN | apply Kd.R_drew)); exact Kd.R_mono HO293.out (fun _ hk => ⟨hk.1.1.2, ⟨hk.1.2, hk.2⟩⟩))); (case aS => exact (below_size (by repeat (first | (with_reducible first | exact HB.out | apply below_alloc | apply pw_below_drewN | apply below_drew1) | exact HB.out)))); (case aL => have := LMc39.out; omega); intro v299 w74 ho hb hg hat; rw [← Ny298.out] at ho; have n0_ := Aside0.mk (Kd.R_after (ok := (fun k_ => some k_ ≠ (.slice (some ⟨go35, 0, none⟩) y283.length co35 : Value).ownBlock ∧ some k_ ≠ (.slice Ao5 x10_1.length co5 : Value).ownBlock)) (by (with_reducible repeat (first | apply Kd.R_alloc | apply Kd.R_drewN | apply Kd.R_drew)); exact Kd.R_mono HO_8.out (fun _ hk => ⟨⟨hk.1.2, hk.1.1⟩, hk.2⟩)) hg hat); have n1_ := Aside0.mk (Kd.R_after (ok := (fun k_ => some k_ ≠ (v281 : Value).ownBlock ∧ some k_ ≠ (.slice Ao5 x10_1.length co5 : Value).ownBlock)) (by (with_reducible repeat (first | apply Kd.R_alloc | apply Kd.R_drewN | apply Kd.R_drew)); exact HO_9.out) hg hat); have n2_ := Aside0.mk (Kd.R_after (ok := (fun k_ => some k_ ≠ (v281 : Value).ownBlock ∧ some k_ ≠ (.slice (some ⟨go35, 0, none⟩) y283.length co35 : Value).ownBlock)) (by (with_reducible repeat (first | apply Kd.R_alloc | apply Kd.R_drewN | apply Kd.R_drew)); exact HO_10.out) hg hat); have n3_ := Aside0.mk (hb); have n4_ := Aside0.mk ((show Kd.C (Kd.int .i64) w74 Ao5 y294.length y294 from by rw [Ny294.out]; exact Kd.C_take (m := ((ji36) : Int).toNat) ((Kd.R_reads' (Kd.R_after (ok := (fun k_ => some k_ ≠ (v281 : Value).ownBlock ∧ some k_ ≠ (.slice (some ⟨go35, 0, none⟩) y283.length co35 : Value).ownBlock)) (by (with_reducible repeat (first | apply Kd.R_alloc | apply Kd.R_drewN | apply Kd.R_drew)); exact HO_10.out) hg hat)).2.2) KL73.out)); have n5_ := Aside0.mk (ho); clear HO_8; clear HO_9; clear HO_10; clear HB; clear HR297; clear HO293; have HO_8 := n0_; have HO_9 := n1_; have HO_10 := n2_; have HB := n3_; have HR297 := n4_; have HO300 := n5_; clear n0_ n1_ n2_ n3_ n4_ n5_; clear ho hb hg hat))
                                              go_meet
                                              case rel => exact ⟨_, (y290), (y298), (x11_1), (x15_13), (by first | rfl | (simp; done) | (simp [*]; done)), (by first | rfl | (simp; done) | (simp [*]; done)), H', ⟨by have := HK1.out; have := HJ3.out; have := HJ13.out; have := HJ27.out; first | omega | exact Nat.le_refl _⟩, ⟨by (with_reducible repeat (first | apply Kd.R_alloc | apply Kd.R_drewN | apply Kd.R_drew)); exact Kd.R_mono HO_8.out (fun _ hk => ⟨hk.1.1, hk.2⟩)⟩, ⟨by (with_reducible repeat (first | apply Kd.R_alloc | apply Kd.R_drewN | apply Kd.R_drew)); exact Kd.R_mono HO_9.out (fun _ hk => ⟨hk.1.1, hk.2⟩)⟩, ⟨by (with_reducible repeat (first | apply Kd.R_alloc | apply Kd.R_drewN | apply Kd.R_drew)); exact Kd.R_mono HO300.out (fun _ hk => ⟨hk.1, hk.2.1⟩)⟩, ⟨by repeat (first | (with_reducible first | exact HB.out | apply below_alloc | apply pw_below_drewN | apply below_drew1) | exact HB.out)⟩⟩
                                          · rw [if_neg c39] at H
                                            exact absurd H (by simp)
                                        · rw [if_neg c38] at H
                                          exact absurd H (by simp)
                                      · rw [if_neg c37] at H
                                        exact absurd H (by simp)
                                    · rw [if_neg c34] at H
                                      exact absurd H (by simp)
                                  · rw [if_neg c33] at H
                                    exact absurd H (by simp)
                        case rest =>
                          clear HC26
                          try clear c1
                          try clear c2
                          try clear p2
                          try clear q2
                          try clear hx2
                          try clear c3
                          try clear c3b0
                          try clear p3
                          try clear q3
                          try clear hx3
                          try clear hf3
                          try clear c4
                          try clear q4
                          try clear c5
                          try clear q5
                          try clear c6
                          try clear c6b0
                          try clear c6b1
                          try clear p6
                          try clear q6
                          try clear q7
                          try clear c8
                          try clear c8b0
                          try clear c9
                          try clear c9b0
                          try clear c10
                          try clear c10b0
                          try clear c11
                          try clear c11b0
                          try clear c12
                          try clear c13
                          try clear c17
                          try clear c17b0
                          try clear c17b1
                          try clear c18
                          try clear c18b0
                          try clear c19
                          try clear c19b0
                          try clear c19b1
                          try clear c20
                          try clear c20b0
                          try clear c22
                          try clear c22b0
                          try clear c22b1
                          try clear c23
                          try clear c23b0
                          try clear c27
                          try clear c27b0
                          try clear c27b1
                          try clear p27
                          try clear q27
                          try clear hx27
                          try clear p28
                          try clear q28
                          try clear hx28
                          try clear c29
                          try clear c29b0
                          try clear c30
                          try clear c30b0
                          try clear p30
                          try clear q30
                          try clear hx30
                          try clear c31
                          try clear c31b0
                          try clear c32
                          try clear c33
                          try clear c33b0
                          try clear c34
                          try clear c34b0
                          try clear p35
                          try clear q35
                          try clear hx35
                          try clear hf35
                          try clear c37
                          try clear c37b0
                          try clear c37b1
                          try clear c38
                          try clear c38b0
                          try clear c38b1
                          try clear c39
                          try clear c40
                          try clear c41
                          try clear c41b0
                          try clear c42
                          try clear c42b0
                          try clear c42b1
                          try clear q47
                          try clear c49
                          try clear c49b0
                          try clear q54
                          try clear c56
                          try clear c56b0
                          try clear q61
                          try clear p64
                          try clear q67
                          try clear q73
                          try clear hx278_0
                          try clear hx279_0
                          try clear hx279_1
                          try clear hx279_2
                          try clear hx289_0
                          try clear hx289_1
                          try clear hx289_2
                          try clear hx301_0
                          try clear hx301_1
                          try clear hx301_2
                          try clear hx35_0
                          try clear p2
                          try clear p27
                          try clear p278
                          try clear p279
                          try clear p28
                          try clear p289
                          try clear p301
                          try clear p35
                          try clear p6
                          try clear q2
                          try clear q27
                          try clear q278
                          try clear q279
                          try clear q28
                          try clear q289
                          try clear q301
                          try clear q35
                          try clear q47
                          try clear q54
                          try clear q61
                          try clear q67
                          try clear q73
                          obtain ⟨kq, x9_25, x10_25, x11_25, x15_25, rfl, rfl, HA, HJ25, HO_8, HO_9, HO_10, HB⟩ := hcut
                          cases kq with
                          | zero => exact absurd HA.out (by simp [rowlockref15_Brackets.j4])
                          | succ kj25 =>
                            have H := HA.out
                            clear HA
                            simp only [rowlockref15_Brackets.j4] at H
                            have HC75 := Aside0.mk H
                            clear H
                            go_upto_region 20 with (fail)
                            go_cut [119] (fun v119 wc => ∃ (kq : Nat) (x119_74 : Bool), v119 = .bool x119_74 ∧ Aside0 (rowlockref15_Brackets.j5 kq l0 a1 y280 x9_25 x10_25 x11_25 x12_1 ((rd_T35 l0 x12_1).f0) x119_74 = some (r1, r2, r3, r4)) ∧ Aside0 (kq ≤ kj25) ∧ Aside0 (Kd.R (Kd.int .i64) 3 wc w.heap.size (fun k_ => some k_ ≠ (v284 : Value).ownBlock ∧ some k_ ≠ (u10 : Value).ownBlock) v281 y280) ∧ Aside0 (Kd.R (Kd.int .i64) 3 wc w.heap.size (fun k_ => some k_ ≠ (v281 : Value).ownBlock ∧ some k_ ≠ (u10 : Value).ownBlock) v284 x9_25) ∧ Aside0 (Kd.R (Kd.int .i64) 3 wc w.heap.size (fun k_ => some k_ ≠ (v281 : Value).ownBlock ∧ some k_ ≠ (v284 : Value).ownBlock) u10 x10_25) ∧ Aside0 (Below w.heap.size w wc))
                            case first =>
                              have H := HC75.out
                              clear HC75
                              by_cases c76 : x15_25 = true
                              · subst c76
                                have H1 : (if x11_25 < 0 then (rowlockref15_Brackets.j5 kj25 l0 a1 y280 x9_25 x10_25 x11_25 x12_1 ((rd_T35 l0 x12_1).f0) true) else (rowlockref15_Brackets.j5 kj25 l0 a1 y280 x9_25 x10_25 x11_25 x12_1 ((rd_T35 l0 x12_1).f0) (decide (x12_1 < x11_25)))) = some (r1, r2, r3, r4) := by rw [if_pos rfl] at H; exact H
                                clear H
                                have H := H1
                                clear H1
                                by_cases c77 : x11_25 < 0
                                · rw [if_pos c77] at H
                                  have c77b0 : decide (x11_25 < 0) = true := decide_eq_true c77
                                  clear c77
                                  (first | rw [c77b0] | (simp only [i64_w, i32_w]; rw [c77b0]) | skip)
                                  have H' := Aside0.mk H
                                  clear H
                                  go_wp2
                                  go_meet
                                  case rel => exact ⟨_, (true), (by first | rfl | (simp; done) | (simp [*]; done)), H', ⟨by have := HK1.out; have := HJ3.out; have := HJ13.out; have := HJ25.out; first | omega | exact Nat.le_refl _⟩, ⟨by (with_reducible repeat (first | apply Kd.R_alloc | apply Kd.R_drewN | apply Kd.R_drew)); exact HO_8.out⟩, ⟨by (with_reducible repeat (first | apply Kd.R_alloc | apply Kd.R_drewN | apply Kd.R_drew)); exact HO_9.out⟩, ⟨by (with_reducible repeat (first | apply Kd.R_alloc | apply Kd.R_drewN | apply Kd.R_drew)); exact HO_10.out⟩, ⟨by repeat (first | (with_reducible first | exact HB.out | apply below_alloc | apply pw_below_drewN | apply below_drew1) | exact HB.out)⟩⟩
                                · rw [if_neg c77] at H
                                  have c77b0 : decide (x11_25 < 0) = false := decide_eq_false c77
                                  clear c77
                                  (first | rw [c77b0] | (simp only [i64_w, i32_w]; rw [c77b0]) | skip)
                                  have H' := Aside0.mk H
                                  clear H
                                  go_wp2
                                  go_meet
                                  case rel => exact ⟨_, (decide (x12_1 < x11_25)), (by first | rfl | (simp; done) | (simp [*]; done)), H', ⟨by have := HK1.out; have := HJ3.out; have := HJ13.out; have := HJ25.out; first | omega | exact Nat.le_refl _⟩, ⟨by (with_reducible repeat (first | apply Kd.R_alloc | apply Kd.R_drewN | apply Kd.R_drew)); exact HO_8.out⟩, ⟨by (with_reducible repeat (first | apply Kd.R_alloc | apply Kd.R_drewN | apply Kd.R_drew)); exact HO_9.out⟩, ⟨by (with_reducible repeat (first | apply Kd.R_alloc | apply Kd.R_drewN | apply Kd.R_drew)); exact HO_10.out⟩, ⟨by repeat (first | (with_reducible first | exact HB.out | apply below_alloc | apply pw_below_drewN | apply below_drew1) | exact HB.out)⟩⟩
                              · replace c76 := Bool.eq_false_iff.mpr c76
                                subst c76
                                have H1 : (rowlockref15_Brackets.j5 kj25 l0 a1 y280 x9_25 x10_25 x11_25 x12_1 ((rd_T35 l0 x12_1).f0) false) = some (r1, r2, r3, r4) := by rw [if_neg (show ¬ (false = true) by decide)] at H; exact H
                                clear H
                                have H := H1
                                clear H1
                                have H' := Aside0.mk H
                                clear H
                                go_wp2
                                go_meet
                                case rel => exact ⟨_, (false), (by first | rfl | (simp; done) | (simp [*]; done)), H', ⟨by have := HK1.out; have := HJ3.out; have := HJ13.out; have := HJ25.out; first | omega | exact Nat.le_refl _⟩, ⟨by (with_reducible repeat (first | apply Kd.R_alloc | apply Kd.R_drewN | apply Kd.R_drew)); exact HO_8.out⟩, ⟨by (with_reducible repeat (first | apply Kd.R_alloc | apply Kd.R_drewN | apply Kd.R_drew)); exact HO_9.out⟩, ⟨by (with_reducible repeat (first | apply Kd.R_alloc | apply Kd.R_drewN | apply Kd.R_drew)); exact HO_10.out⟩, ⟨by repeat (first | (with_reducible first | exact HB.out | apply below_alloc | apply pw_below_drewN | apply below_drew1) | exact HB.out)⟩⟩
                            case rest =>
                              clear HC75
                              try clear c1
                              try clear c2
                              try clear p2
                              try clear q2
                              try clear hx2
                              try clear c3
                              try clear c3b0
                              try clear p3
                              try clear q3
                              try clear hx3
                              try clear hf3
                              try clear c4
                              try clear q4
                              try clear c5
                              try clear q5
                              try clear c6
                              try clear c6b0
                              try clear c6b1
                              try clear p6
                              try clear q6
                              try clear c7
                              try clear q7
                              try clear c8
                              try clear c8b0
                              try clear c9
                              try clear c9b0
                              try clear c10
                              try clear c10b0
                              try clear c11
                              try clear c11b0
                              try clear c12
                              try clear c13
                              try clear c17
                              try clear c17b0
                              try clear c17b1
                              try clear c18
                              try clear c18b0
                              try clear c19
                              try clear c19b0
                              try clear c19b1
                              try clear c20
                              try clear c20b0
                              try clear c22
                              try clear c22b0
                              try clear c22b1
                              try clear c23
                              try clear c23b0
                              try clear c27
                              try clear c27b0
                              try clear c27b1
                              try clear p27
                              try clear q27
                              try clear hx27
                              try clear p28
                              try clear q28
                              try clear hx28
                              try clear c29
                              try clear c29b0
                              try clear c30
                              try clear c30b0
                              try clear p30
                              try clear q30
                              try clear hx30
                              try clear c31
                              try clear c31b0
                              try clear c32
                              try clear c33
                              try clear c33b0
                              try clear c34
                              try clear c34b0
                              try clear p35
                              try clear q35
                              try clear hx35
                              try clear hf35
                              try clear c37
                              try clear c37b0
                              try clear c37b1
                              try clear c38
                              try clear c38b0
                              try clear c38b1
                              try clear c39
                              try clear c40
                              try clear c41
                              try clear c41b0
                              try clear c42
                              try clear c42b0
                              try clear c42b1
                              try clear q47
                              try clear c49
                              try clear c49b0
                              try clear q54
                              try clear c56
                              try clear c56b0
                              try clear q61
                              try clear p64
                              try clear q67
                              try clear q73
                              try clear c76
                              try clear c77
                              try clear c77b0
                              try clear hx278_0
                              try clear hx279_0
                              try clear hx279_1
                              try clear hx279_2
                              try clear hx289_0
                              try clear hx289_1
                              try clear hx289_2
                              try clear hx301_0
                              try clear hx301_1
                              try clear hx301_2
                              try clear hx35_0
                              try clear p2
                              try clear p27
                              try clear p278
                              try clear p279
                              try clear p28
                              try clear p289
                              try clear p3
                              try clear p30
                              try clear p301
                              try clear p35
                              try clear p6
                              try clear p64
                              try clear q2
                              try clear q27
                              try clear q278
                              try clear q279
                              try clear q28
                              try clear q289
                              try clear q3
                              try clear q30
                              try clear q301
                              try clear q35
                              try clear q4
                              try clear q47
                              try clear q5
                              try clear q54
                              try clear q6
                              try clear q61
                              try clear q67
                              try clear q7
                              try clear q73
                              obtain ⟨kq, x119_74, rfl, HA, HJ74, HO_8, HO_9, HO_10, HB⟩ := hcut
                              cases kq with
                              | zero => exact absurd HA.out (by simp [rowlockref15_Brackets.j5])
                              | succ kj74 =>
                                have H := HA.out
                                clear HA
                                simp only [rowlockref15_Brackets.j5] at H
                                by_cases c78 : x119_74 = true
                                · subst c78
                                  have H1 : ((rowlockref15_opens.f ((rd_T35 l0 x12_1).f0)).bind fun t302 => (if t302 = true then ((some (([] : List Int) : List Int)).bind fun y303 => (if y303.length + x10_25.length < 17592186044416 then ((some (y303 ++ x10_25 : List Int)).bind fun y306 => (if y306.length < 17592186044416 then (rowlockref15_Brackets.l0 kj74 l0 a1 y280 x9_25 (y306 ++ [x12_1]) x12_1 (wrap64 (x12_1 + 1))) else (none))) else (none))) else (rowlockref15_Brackets.l0 kj74 l0 a1 y280 x9_25 x10_25 x12_1 (wrap64 (x12_1 + 1))))) = some (r1, r2, r3, r4) := by rw [if_pos rfl] at H; exact H
                                  clear H
                                  have H := H1
                                  clear H1
                                  replace H := Option.bind_eq_some_iff.mp H
                                  obtain ⟨t302, A790, H⟩ := H
                                  replace H : (if t302 = true then ((some (([] : List Int) : List Int)).bind fun y303 => (if y303.length + x10_25.length < 17592186044416 then ((some (y303 ++ x10_25 : List Int)).bind fun y306 => (if y306.length < 17592186044416 then (rowlockref15_Brackets.l0 kj74 l0 a1 y280 x9_25 (y306 ++ [x12_1]) x12_1 (wrap64 (x12_1 + 1))) else (none))) else (none))) else (rowlockref15_Brackets.l0 kj74 l0 a1 y280 x9_25 x10_25 x12_1 (wrap64 (x12_1 + 1)))) = some (r1, r2, r3, r4) := H
                                  have A79 := Aside0.mk A790
                                  clear A790
                                  by_cases c80 : t302 = true
                                  · subst c80
                                    have H1 : ((some (([] : List Int) : List Int)).bind fun y303 => (if y303.length + x10_25.length < 17592186044416 then ((some (y303 ++ x10_25 : List Int)).bind fun y306 => (if y306.length < 17592186044416 then (rowlockref15_Brackets.l0 kj74 l0 a1 y280 x9_25 (y306 ++ [x12_1]) x12_1 (wrap64 (x12_1 + 1))) else (none))) else (none))) = some (r1, r2, r3, r4) := by rw [if_pos rfl] at H; exact H
                                    clear H
                                    have H := H1
                                    clear H1
                                    obtain ⟨y303, hy303⟩ : ∃ y_ : List Int, y_ = (([] : List Int)) := ⟨_, rfl⟩
                                    replace H : (if y303.length + x10_25.length < 17592186044416 then ((some (y303 ++ x10_25 : List Int)).bind fun y306 => (if y306.length < 17592186044416 then (rowlockref15_Brackets.l0 kj74 l0 a1 y280 x9_25 (y306 ++ [x12_1]) x12_1 (wrap64 (x12_1 + 1))) else (none))) else (none)) = some (r1, r2, r3, r4) := by first | (rw [hy303]; with_reducible exact H) | (have H2_ := (Option.bind_some _ _).symm.trans H; rw [hy303]; with_reducible exact H2_) | (have H2_ := (Option.bind_some _ _).symm.trans H; with_reducible exact H2_) | with_reducible exact H | (rw [hy303]; exact H) | exact H
                                    have Ny303 := Aside0.mk hy303
                                    clear hy303
                                    by_cases c81 : y303.length + x10_25.length < 17592186044416
                                    · rw [if_pos c81] at H
                                      have LMc81 := Aside0.mk c81
                                      clear c81
                                      obtain ⟨y306, hy306⟩ : ∃ y_ : List Int, y_ = (y303 ++ x10_25) := ⟨_, rfl⟩
                                      replace H : (if y306.length < 17592186044416 then (rowlockref15_Brackets.l0 kj74 l0 a1 y280 x9_25 (y306 ++ [x12_1]) x12_1 (wrap64 (x12_1 + 1))) else (none)) = some (r1, r2, r3, r4) := by first | (rw [hy306]; with_reducible exact H) | (have H2_ := (Option.bind_some _ _).symm.trans H; rw [hy306]; with_reducible exact H2_) | (have H2_ := (Option.bind_some _ _).symm.trans H; with_reducible exact H2_) | with_reducible exact H | (rw [hy306]; exact H) | exact H
                                      have Ny306 := Aside0.mk hy306
                                      clear hy306
                                      by_cases c82 : y306.length < 17592186044416
                                      · rw [if_pos c82] at H
                                        have LMc82 := Aside0.mk c82
                                        clear c82
                                        obtain ⟨y309, hy309⟩ : ∃ y_ : List Int, y_ = (y306 ++ [x12_1]) := ⟨_, rfl⟩
                                        replace H : (rowlockref15_Brackets.l0 kj74 l0 a1 y280 x9_25 y309 x12_1 (wrap64 (x12_1 + 1))) = some (r1, r2, r3, r4) := by first | (rw [hy309]; with_reducible exact H) | (have H2_ := (Option.bind_some _ _).symm.trans H; rw [hy309]; with_reducible exact H2_) | (have H2_ := (Option.bind_some _ _).symm.trans H; with_reducible exact H2_) | with_reducible exact H | (rw [hy309]; exact H) | exact H
                                        have Ny309 := Aside0.mk hy309
                                        clear hy309
                                        have H' := Aside0.mk H
                                        clear H
                                        go_wp2_with (first | ((with_reducible refine gate_callee (f := 84) rfl ?_); refine goesL_ (some 122) rfl rfl Try.func84 (by kernel_rfl) rfl #[.int .u8 ((rd_T35 l0 x12_1).f0)] rfl (by (try simp only [List.map_toArray, List.map_cons, List.map_nil]); first | done | rfl | (simp only [List.length_drop, List.length_take]; rfl)) ?_; (with_reducible refine (rowlockref15_opens.calls ((rd_T35 l0 x12_1).f0) true _ A79.out).mono ?_); rintro e w' ⟨rfl, ⟨nd, rfl⟩⟩; refine ⟨_, rfl, ?_⟩) | ((with_reducible refine gate_dst (N := 123) rfl ?_); (try (refine gate_guard (by rfl) ?_; dsimp only)); refine Kd.R_lit (Kd.int .i64) _ 3 ?hg (N := 123) ?hd (xs := ([] : List Int)) (inner := []) (ok := fun _ => True) (okp := fun _ => True) ?hr ?hp (fun _ hk => hk) trivial (Below.refl _ _) (Nat.le_refl _) (by simp) ?_; (case hd => rfl); (case hg => rfl); (case hr => first | (go_simp; done) | (go_simp; rfl)); (case hp => exact (Reps.none _ _)); intro v304 w83 ho84 hb hg_ hnew_; clear hg_ hnew_; (first | rw [← Ny303.out] at ho84 | (simp only [Int.reduceToNat] at ho84; rw [← Ny303.out] at ho84)); have n0_ := Aside0.mk (Kd.R_elder' (by (with_reducible repeat (first | apply Kd.R_alloc | apply Kd.R_drewN | apply Kd.R_drew)); exact HO_8.out) (Kd.R_base ho84) hb); have n1_ := Aside0.mk (Kd.R_elder' (by (with_reducible repeat (first | apply Kd.R_alloc | apply Kd.R_drewN | apply Kd.R_drew)); exact HO_9.out) (Kd.R_base ho84) hb); have n2_ := Aside0.mk (Kd.R_elder' (by (with_reducible repeat (first | apply Kd.R_alloc | apply Kd.R_drewN | apply Kd.R_drew)); exact HO_10.out) (Kd.R_base ho84) hb); have n3_ := Aside0.mk (Kd.R_lower (Kd.R_new' (Kd.R_new' (Kd.R_new' ho84 (Kd.R_lt (by (with_reducible repeat (first | apply Kd.R_alloc | apply Kd.R_drewN | apply Kd.R_drew)); exact HO_8.out))) (Kd.R_lt (by (with_reducible repeat (first | apply Kd.R_alloc | apply Kd.R_drewN | apply Kd.R_drew)); exact HO_9.out))) (Kd.R_lt (by (with_reducible repeat (first | apply Kd.R_alloc | apply Kd.R_drewN | apply Kd.R_drew)); exact HO_10.out))) (below_size (by repeat (first | (with_reducible first | exact HB.out | apply below_alloc | apply pw_below_drewN | apply below_drew1) | exact HB.out)))); have n4_ := Aside0.mk (below_step (by repeat (first | (with_reducible first | exact HB.out | apply below_alloc | apply pw_below_drewN | apply below_drew1) | exact HB.out)) hb); clear HO_8; clear HO_9; clear HO_10; clear HB; have HO_8 := n0_; have HO_9 := n1_; have HO_10 := n2_; have HO305 := n3_; have HB := n4_; clear n0_ n1_ n2_ n3_ n4_; clear hb ho84; obtain ⟨Ao86, co86, eo86⟩ := Kd.R_slice HO_10.out; subst eo86) | ((with_reducible refine gate_builtin (b := .append) (xs := #[.tmp 123, .tmp 124]) rfl ?_); (try (refine gate_guard (by rfl) ?_; dsimp only)); at_builtin; refine Kd.R_append_rows (Kd.int .i64) (w0 := w) w.heap.size rfl (.tmp 123) (.tmp 124) 73 3 (.int .i64 0) 8 rfl Try.underlying73 info3 rfl (by decide) (by omega) v304 y303 x10_25 _ _ _ (fun k_ => some k_ ≠ (v281 : Value).ownBlock ∧ some k_ ≠ (v284 : Value).ownBlock ∧ some k_ ≠ (.slice Ao86 x10_25.length co86 : Value).ownBlock) (fun _ => False) rfl rfl ?aO ?aR (fun _ _ h => h) (fun _ h => h.elim) ?aF ?aB ?aS ?aL ?_; (case aR => repeat (first | exact (Kd.R_reads' HO_10.out).2.2 | (with_reducible refine Kd.C_alloc ?_ _) | (with_reducible refine Kd.C_drewN ?_ _) | (with_reducible refine Kd.C_drew ?_))); (case aB => exact (by repeat (first | (with_reducible first | exact HB.out | apply below_alloc | apply pw_below_drewN | apply below_drew1) | exact HB.out))); (case aF => exact (fun k_ hk => ⟨Kd.fresh' (Kd.R_lt (by (with_reducible repeat (first | apply Kd.R_alloc | apply Kd.R_drewN | apply Kd.R_drew)); exact HO_8.out)) k_ hk, Kd.fresh' (Kd.R_lt (by (with_reducible repeat (first | apply Kd.R_alloc | apply Kd.R_drewN | apply Kd.R_drew)); exact HO_9.out)) k_ hk, Kd.fresh' (Kd.R_lt (by (with_reducible repeat (first | apply Kd.R_alloc | apply Kd.R_drewN | apply Kd.R_drew)); exact HO_10.out)) k_ hk⟩)); (case aO => exact (by (with_reducible repeat (first | apply Kd.R_alloc | apply Kd.R_drewN | apply Kd.R_drew)); exact Kd.R_mono HO305.out (fun _ hk => ⟨hk.1.1.2, ⟨hk.1.2, hk.2⟩⟩))); (case aS => exact (below_size (by repeat (first | (with_reducible first | exact HB.out | apply below_alloc | apply pw_below_drewN | apply below_drew1) | exact HB.out)))); (case aL => have := LMc81.out; omega); intro v307 w85 ho hb hg hat; rw [← Ny306.out] at ho; have n0_ := Aside0.mk (Kd.R_after (ok := (fun k_ => some k_ ≠ (v284 : Value).ownBlock ∧ some k_ ≠ (.slice Ao86 x10_25.length co86 : Value).ownBlock)) (by (with_reducible repeat (first | apply Kd.R_alloc | apply Kd.R_drewN | apply Kd.R_drew)); exact HO_8.out) hg hat); have n1_ := Aside0.mk (Kd.R_after (ok := (fun k_ => some k_ ≠ (v281 : Value).ownBlock ∧ some k_ ≠ (.slice Ao86 x10_25.length co86 : Value).ownBlock)) (by (with_reducible repeat (first | apply Kd.R_alloc | apply Kd.R_drewN | apply Kd.R_drew)); exact HO_9.out) hg hat); have n2_ := Aside0.mk (Kd.R_after (ok := (fun k_ => some k_ ≠ (v281 : Value).ownBlock ∧ some k_ ≠ (v284 : Value).ownBlock)) (by (with_reducible repeat (first | apply Kd.R_alloc | apply Kd.R_drewN | apply Kd.R_drew)); exact HO_10.out) hg hat); have n3_ := Aside0.mk (hb); have n4_ := Aside0.mk (ho); clear HO_8; clear HO_9; clear HO_10; clear HB; clear HO305; have HO_8 := n0_; have HO_9 := n1_; have HO_10 := n2_; have HB := n3_; have HO308 := n4_; clear n0_ n1_ n2_ n3_ n4_; clear ho hb hg hat) | ((with_reducible refine gate_builtin (b := .append) (xs := #[.tmp 125, .tmp 127]) rfl ?_); (try (refine gate_guard (by rfl) ?_; dsimp only)); at_builtin; refine Kd.R_append (Kd.int .i64) (w0 := w) w.heap.size rfl (.tmp 125) (.tmp 127) 73 3 (.int .i64 0) 8 rfl Try.underlying73 info3 rfl (by decide) (by omega) v307 y306 x12_1 [.int .i64 x12_1] (fun k_ => some k_ ≠ (v281 : Value).ownBlock ∧ some k_ ≠ (v284 : Value).ownBlock ∧ some k_ ≠ (.slice Ao86 x10_25.length co86 : Value).ownBlock) (fun _ => False) rfl rfl ?aP (fun _ hk => hk.elim) ?aF ?aO ?aB ?aS ?aL ?_; (case aP => exact rfl); (case aB => exact (by repeat (first | (with_reducible first | exact HB.out | apply below_alloc | apply pw_below_drewN | apply below_drew1) | exact HB.out))); (case aF => exact (fun k_ hk => ⟨Kd.fresh' (Kd.R_lt (by (with_reducible repeat (first | apply Kd.R_alloc | apply Kd.R_drewN | apply Kd.R_drew)); exact HO_8.out)) k_ hk, Kd.fresh' (Kd.R_lt (by (with_reducible repeat (first | apply Kd.R_alloc | apply Kd.R_drewN | apply Kd.R_drew)); exact HO_9.out)) k_ hk, Kd.fresh' (Kd.R_lt (by (with_reducible repeat (first | apply Kd.R_alloc | apply Kd.R_drewN | apply Kd.R_drew)); exact HO_10.out)) k_ hk⟩)); (case aO => exact (by (with_reducible repeat (first | apply Kd.R_alloc | apply Kd.R_drewN | apply Kd.R_drew)); exact HO308.out)); (case aS => exact (below_size (by repeat (first | (with_reducible first | exact HB.out | apply below_alloc | apply pw_below_drewN | apply below_drew1) | exact HB.out)))); (case aL => have := LMc82.out; omega); intro v310 w87 ho hb hg hat; rw [← Ny309.out] at ho; have n0_ := Aside0.mk (Kd.R_after (ok := (fun k_ => some k_ ≠ (v284 : Value).ownBlock ∧ some k_ ≠ (.slice Ao86 x10_25.length co86 : Value).ownBlock)) (by (with_reducible repeat (first | apply Kd.R_alloc | apply Kd.R_drewN | apply Kd.R_drew)); exact HO_8.out) hg hat); have n1_ := Aside0.mk (Kd.R_after (ok := (fun k_ => some k_ ≠ (v281 : Value).ownBlock ∧ some k_ ≠ (.slice Ao86 x10_25.length co86 : Value).ownBlock)) (by (with_reducible repeat (first | apply Kd.R_alloc | apply Kd.R_drewN | apply Kd.R_drew)); exact HO_9.out) hg hat); have n2_ := Aside0.mk (Kd.R_after (ok := (fun k_ => some k_ ≠ (v281 : Value).ownBlock ∧ some k_ ≠ (v284 : Value).ownBlock)) (by (with_reducible repeat (first | apply Kd.R_alloc | apply Kd.R_drewN | apply Kd.R_drew)); exact HO_10.out) hg hat); have n3_ := Aside0.mk (hb); have n4_ := Aside0.mk (ho); clear HO_8; clear HO_9; clear HO_10; clear HB; clear HO308; have HO_8 := n0_; have HO_9 := n1_; have HO_10 := n2_; have HB := n3_; have HO311 := n4_; clear n0_ n1_ n2_ n3_ n4_; clear ho hb hg hat))
                                        go_roundg kj74
                                        case measure => have := HK1.out; have := HJ3.out; have := HJ13.out; have := HJ25.out; have := HJ74.out; omega
                                        case rel => exact ⟨(y280), (x9_25), (y309), (x12_1), (wrap64 (x12_1 + 1)), (by first | rfl | (simp; done) | (simp [*]; done)), (by first | rfl | (simp; done) | (simp [*]; done)), H', ⟨by have := HK1.out; have := HJ3.out; have := HJ13.out; have := HJ25.out; have := HJ74.out; omega⟩, ⟨by (with_reducible repeat (first | apply Kd.R_alloc | apply Kd.R_drewN | apply Kd.R_drew)); exact Kd.R_mono HO_8.out (fun _ hk => ⟨hk.1.1, hk.2⟩)⟩, ⟨by (with_reducible repeat (first | apply Kd.R_alloc | apply Kd.R_drewN | apply Kd.R_drew)); exact Kd.R_mono HO_9.out (fun _ hk => ⟨hk.1.1, hk.2⟩)⟩, ⟨by (with_reducible repeat (first | apply Kd.R_alloc | apply Kd.R_drewN | apply Kd.R_drew)); exact Kd.R_mono HO311.out (fun _ hk => ⟨hk.1, hk.2.1⟩)⟩, ⟨by repeat (first | (with_reducible first | exact HB.out | apply below_alloc | apply pw_below_drewN | apply below_drew1) | exact HB.out)⟩⟩
                                      · rw [if_neg c82] at H
                                        exact absurd H (by simp)
                                    · rw [if_neg c81] at H
                                      exact absurd H (by simp)
                                  · replace c80 := Bool.eq_false_iff.mpr c80
                                    subst c80
                                    have H1 : (rowlockref15_Brackets.l0 kj74 l0 a1 y280 x9_25 x10_25 x12_1 (wrap64 (x12_1 + 1))) = some (r1, r2, r3, r4) := by rw [if_neg (show ¬ (false = true) by decide)] at H; exact H
                                    clear H
                                    have H := H1
                                    clear H1
                                    have H' := Aside0.mk H
                                    clear H
                                    go_wp2_with (first | ((with_reducible refine gate_callee (f := 84) rfl ?_); refine goesL_ (some 122) rfl rfl Try.func84 (by kernel_rfl) rfl #[.int .u8 ((rd_T35 l0 x12_1).f0)] rfl (by (try simp only [List.map_toArray, List.map_cons, List.map_nil]); first | done | rfl | (simp only [List.length_drop, List.length_take]; rfl)) ?_; (with_reducible refine (rowlockref15_opens.calls ((rd_T35 l0 x12_1).f0) false _ A79.out).mono ?_); rintro e w' ⟨rfl, ⟨nd, rfl⟩⟩; refine ⟨_, rfl, ?_⟩))
                                    go_roundg kj74
                                    case measure => have := HK1.out; have := HJ3.out; have := HJ13.out; have := HJ25.out; have := HJ74.out; omega
                                    case rel => exact ⟨(y280), (x9_25), (x10_25), (x12_1), (wrap64 (x12_1 + 1)), (by first | rfl | (simp; done) | (simp [*]; done)), (by first | rfl | (simp; done) | (simp [*]; done)), H', ⟨by have := HK1.out; have := HJ3.out; have := HJ13.out; have := HJ25.out; have := HJ74.out; omega⟩, ⟨by (with_reducible repeat (first | apply Kd.R_alloc | apply Kd.R_drewN | apply Kd.R_drew)); exact HO_8.out⟩, ⟨by (with_reducible repeat (first | apply Kd.R_alloc | apply Kd.R_drewN | apply Kd.R_drew)); exact HO_9.out⟩, ⟨by (with_reducible repeat (first | apply Kd.R_alloc | apply Kd.R_drewN | apply Kd.R_drew)); exact HO_10.out⟩, ⟨by repeat (first | (with_reducible first | exact HB.out | apply below_alloc | apply pw_below_drewN | apply below_drew1) | exact HB.out)⟩⟩
                                · replace c78 := Bool.eq_false_iff.mpr c78
                                  subst c78
                                  have H1 : ((rowlockref15_opens.f ((rd_T35 l0 x12_1).f0)).bind fun t312 => (if t312 = true then ((some (([] : List Int) : List Int)).bind fun y313 => (if y313.length + x10_25.length < 17592186044416 then ((some (y313 ++ x10_25 : List Int)).bind fun y316 => (if y316.length < 17592186044416 then (rowlockref15_Brackets.l0 kj74 l0 a1 y280 x9_25 (y316 ++ [x12_1]) x11_25 (wrap64 (x12_1 + 1))) else (none))) else (none))) else (rowlockref15_Brackets.l0 kj74 l0 a1 y280 x9_25 x10_25 x11_25 (wrap64 (x12_1 + 1))))) = some (r1, r2, r3, r4) := by rw [if_neg (show ¬ (false = true) by decide)] at H; exact H
                                  clear H
                                  have H := H1
                                  clear H1
                                  replace H := Option.bind_eq_some_iff.mp H
                                  obtain ⟨t312, A880, H⟩ := H
                                  replace H : (if t312 = true then ((some (([] : List Int) : List Int)).bind fun y313 => (if y313.length + x10_25.length < 17592186044416 then ((some (y313 ++ x10_25 : List Int)).bind fun y316 => (if y316.length < 17592186044416 then (rowlockref15_Brackets.l0 kj74 l0 a1 y280 x9_25 (y316 ++ [x12_1]) x11_25 (wrap64 (x12_1 + 1))) else (none))) else (none))) else (rowlockref15_Brackets.l0 kj74 l0 a1 y280 x9_25 x10_25 x11_25 (wrap64 (x12_1 + 1)))) = some (r1, r2, r3, r4) := H
                                  have A88 := Aside0.mk A880
                                  clear A880
                                  by_cases c89 : t312 = true
                                  · subst c89
                                    have H1 : ((some (([] : List Int) : List Int)).bind fun y313 => (if y313.length + x10_25.length < 17592186044416 then ((some (y313 ++ x10_25 : List Int)).bind fun y316 => (if y316.length < 17592186044416 then (rowlockref15_Brackets.l0 kj74 l0 a1 y280 x9_25 (y316 ++ [x12_1]) x11_25 (wrap64 (x12_1 + 1))) else (none))) else (none))) = some (r1, r2, r3, r4) := by rw [if_pos rfl] at H; exact H
                                    clear H
                                    have H := H1
                                    clear H1
                                    obtain ⟨y313, hy313⟩ : ∃ y_ : List Int, y_ = (([] : List Int)) := ⟨_, rfl⟩
                                    replace H : (if y313.length + x10_25.length < 17592186044416 then ((some (y313 ++ x10_25 : List Int)).bind fun y316 => (if y316.length < 17592186044416 then (rowlockref15_Brackets.l0 kj74 l0 a1 y280 x9_25 (y316 ++ [x12_1]) x11_25 (wrap64 (x12_1 + 1))) else (none))) else (none)) = some (r1, r2, r3, r4) := by first | (rw [hy313]; with_reducible exact H) | (have H2_ := (Option.bind_some _ _).symm.trans H; rw [hy313]; with_reducible exact H2_) | (have H2_ := (Option.bind_some _ _).symm.trans H; with_reducible exact H2_) | with_reducible exact H | (rw [hy313]; exact H) | exact H
                                    have Ny313 := Aside0.mk hy313
                                    clear hy313
                                    by_cases c90 : y313.length + x10_25.length < 17592186044416
                                    · rw [if_pos c90] at H
                                      have LMc90 := Aside0.mk c90
                                      clear c90
                                      obtain ⟨y316, hy316⟩ : ∃ y_ : List Int, y_ = (y313 ++ x10_25) := ⟨_, rfl⟩
                                      replace H : (if y316.length < 17592186044416 then (rowlockref15_Brackets.l0 kj74 l0 a1 y280 x9_25 (y316 ++ [x12_1]) x11_25 (wrap64 (x12_1 + 1))) else (none)) = some (r1, r2, r3, r4) := by first | (rw [hy316]; with_reducible exact H) | (have H2_ := (Option.bind_some _ _).symm.trans H; rw [hy316]; with_reducible exact H2_) | (have H2_ := (Option.bind_some _ _).symm.trans H; with_reducible exact H2_) | with_reducible exact H | (rw [hy316]; exact H) | exact H
                                      have Ny316 := Aside0.mk hy316
                                      clear hy316
                                      by_cases c91 : y316.length < 17592186044416
                                      · rw [if_pos c91] at H
                                        have LMc91 := Aside0.mk c91
                                        clear c91
                                        obtain ⟨y319, hy319⟩ : ∃ y_ : List Int, y_ = (y316 ++ [x12_1]) := ⟨_, rfl⟩
                                        replace H : (rowlockref15_Brackets.l0 kj74 l0 a1 y280 x9_25 y319 x11_25 (wrap64 (x12_1 + 1))) = some (r1, r2, r3, r4) := by first | (rw [hy319]; with_reducible exact H) | (have H2_ := (Option.bind_some _ _).symm.trans H; rw [hy319]; with_reducible exact H2_) | (have H2_ := (Option.bind_some _ _).symm.trans H; with_reducible exact H2_) | with_reducible exact H | (rw [hy319]; exact H) | exact H
                                        have Ny319 := Aside0.mk hy319
                                        clear hy319
                                        have H' := Aside0.mk H
                                        clear H
                                        go_wp2_with (first | ((with_reducible refine gate_callee (f := 84) rfl ?_); refine goesL_ (some 122) rfl rfl Try.func84 (by kernel_rfl) rfl #[.int .u8 ((rd_T35 l0 x12_1).f0)] rfl (by (try simp only [List.map_toArray, List.map_cons, List.map_nil]); first | done | rfl | (simp only [List.length_drop, List.length_take]; rfl)) ?_; (with_reducible refine (rowlockref15_opens.calls ((rd_T35 l0 x12_1).f0) true _ A88.out).mono ?_); rintro e w' ⟨rfl, ⟨nd, rfl⟩⟩; refine ⟨_, rfl, ?_⟩) | ((with_reducible refine gate_dst (N := 123) rfl ?_); (try (refine gate_guard (by rfl) ?_; dsimp only)); refine Kd.R_lit (Kd.int .i64) _ 3 ?hg (N := 123) ?hd (xs := ([] : List Int)) (inner := []) (ok := fun _ => True) (okp := fun _ => True) ?hr ?hp (fun _ hk => hk) trivial (Below.refl _ _) (Nat.le_refl _) (by simp) ?_; (case hd => rfl); (case hg => rfl); (case hr => first | (go_simp; done) | (go_simp; rfl)); (case hp => exact (Reps.none _ _)); intro v314 w92 ho93 hb hg_ hnew_; clear hg_ hnew_; (first | rw [← Ny313.out] at ho93 | (simp only [Int.reduceToNat] at ho93; rw [← Ny313.out] at ho93)); have n0_ := Aside0.mk (Kd.R_elder' (by (with_reducible repeat (first | apply Kd.R_alloc | apply Kd.R_drewN | apply Kd.R_drew)); exact HO_8.out) (Kd.R_base ho93) hb); have n1_ := Aside0.mk (Kd.R_elder' (by (with_reducible repeat (first | apply Kd.R_alloc | apply Kd.R_drewN | apply Kd.R_drew)); exact HO_9.out) (Kd.R_base ho93) hb); have n2_ := Aside0.mk (Kd.R_elder' (by (with_reducible repeat (first | apply Kd.R_alloc | apply Kd.R_drewN | apply Kd.R_drew)); exact HO_10.out) (Kd.R_base ho93) hb); have n3_ := Aside0.mk (Kd.R_lower (Kd.R_new' (Kd.R_new' (Kd.R_new' ho93 (Kd.R_lt (by (with_reducible repeat (first | apply Kd.R_alloc | apply Kd.R_drewN | apply Kd.R_drew)); exact HO_8.out))) (Kd.R_lt (by (with_reducible repeat (first | apply Kd.R_alloc | apply Kd.R_drewN | apply Kd.R_drew)); exact HO_9.out))) (Kd.R_lt (by (with_reducible repeat (first | apply Kd.R_alloc | apply Kd.R_drewN | apply Kd.R_drew)); exact HO_10.out))) (below_size (by repeat (first | (with_reducible first | exact HB.out | apply below_alloc | apply pw_below_drewN | apply below_drew1) | exact HB.out)))); have n4_ := Aside0.mk (below_step (by repeat (first | (with_reducible first | exact HB.out | apply below_alloc | apply pw_below_drewN | apply below_drew1) | exact HB.out)) hb); clear HO_8; clear HO_9; clear HO_10; clear HB; have HO_8 := n0_; have HO_9 := n1_; have HO_10 := n2_; have HO315 := n3_; have HB := n4_; clear n0_ n1_ n2_ n3_ n4_; clear hb ho93; obtain ⟨Ao95, co95, eo95⟩ := Kd.R_slice HO_10.out; subst eo95) | ((with_reducible refine gate_builtin (b := .append) (xs := #[.tmp 123, .tmp 124]) rfl ?_); (try (refine gate_guard (by rfl) ?_; dsimp only)); at_builtin; refine Kd.R_append_rows (Kd.int .i64) (w0 := w) w.heap.size rfl (.tmp 123) (.tmp 124) 73 3 (.int .i64 0) 8 rfl Try.underlying73 info3 rfl (by decide) (by omega) v314 y313 x10_25 _ _ _ (fun k_ => some k_ ≠ (v281 : Value).ownBlock ∧ some k_ ≠ (v284 : Value).ownBlock ∧ some k_ ≠ (.slice Ao95 x10_25.length co95 : Value).ownBlock) (fun _ => False) rfl rfl ?aO ?aR (fun _ _ h => h) (fun _ h => h.elim) ?aF ?aB ?aS ?aL ?_; (case aR => repeat (first | exact (Kd.R_reads' HO_10.out).2.2 | (with_reducible refine Kd.C_alloc ?_ _) | (with_reducible refine Kd.C_drewN ?_ _) | (with_reducible refine Kd.C_drew ?_))); (case aB => exact (by repeat (first | (with_reducible first | exact HB.out | apply below_alloc | apply pw_below_drewN | apply below_drew1) | exact HB.out))); (case aF => exact (fun k_ hk => ⟨Kd.fresh' (Kd.R_lt (by (with_reducible repeat (first | apply Kd.R_alloc | apply Kd.R_drewN | apply Kd.R_drew)); exact HO_8.out)) k_ hk, Kd.fresh' (Kd.R_lt (by (with_reducible repeat (first | apply Kd.R_alloc | apply Kd.R_drewN | apply Kd.R_drew)); exact HO_9.out)) k_ hk, Kd.fresh' (Kd.R_lt (by (with_reducible repeat (first | apply Kd.R_alloc | apply Kd.R_drewN | apply Kd.R_drew)); exact HO_10.out)) k_ hk⟩)); (case aO => exact (by (with_reducible repeat (first | apply Kd.R_alloc | apply Kd.R_drewN | apply Kd.R_drew)); exact Kd.R_mono HO315.out (fun _ hk => ⟨hk.1.1.2, ⟨hk.1.2, hk.2⟩⟩))); (case aS => exact (below_size (by repeat (first | (with_reducible first | exact HB.out | apply below_alloc | apply pw_below_drewN | apply below_drew1) | exact HB.out)))); (case aL => have := LMc90.out; omega); intro v317 w94 ho hb hg hat; rw [← Ny316.out] at ho; have n0_ := Aside0.mk (Kd.R_after (ok := (fun k_ => some k_ ≠ (v284 : Value).ownBlock ∧ some k_ ≠ (.slice Ao95 x10_25.length co95 : Value).ownBlock)) (by (with_reducible repeat (first | apply Kd.R_alloc | apply Kd.R_drewN | apply Kd.R_drew)); exact HO_8.out) hg hat); have n1_ := Aside0.mk (Kd.R_after (ok := (fun k_ => some k_ ≠ (v281 : Value).ownBlock ∧ some k_ ≠ (.slice Ao95 x10_25.length co95 : Value).ownBlock)) (by (with_reducible repeat (first | apply Kd.R_alloc | apply Kd.R_drewN | apply Kd.R_drew)); exact HO_9.out) hg hat); have n2_ := Aside0.mk (Kd.R_after (ok := (fun k_ => some k_ ≠ (v281 : Value).ownBlock ∧ some k_ ≠ (v284 : Value).ownBlock)) (by (with_reducible repeat (first | apply Kd.R_alloc | apply Kd.R_drewN | apply Kd.R_drew)); exact HO_10.out) hg hat); have n3_ := Aside0.mk (hb); have n4_ := Aside0.mk (ho); clear HO_8; clear HO_9; clear HO_10; clear HB; clear HO315; have HO_8 := n0_; have HO_9 := n1_; have HO_10 := n2_; have HB := n3_; have HO318 := n4_; clear n0_ n1_ n2_ n3_ n4_; clear ho hb hg hat) | ((with_reducible refine gate_builtin (b := .append) (xs := #[.tmp 125, .tmp 127]) rfl ?_); (try (refine gate_guard (by rfl) ?_; dsimp only)); at_builtin; refine Kd.R_append (Kd.int .i64) (w0 := w) w.heap.size rfl (.tmp 125) (.tmp 127) 73 3 (.int .i64 0) 8 rfl Try.underlying73 info3 rfl (by decide) (by omega) v317 y316 x12_1 [.int .i64 x12_1] (fun k_ => some k_ ≠ (v281 : Value).ownBlock ∧ some k_ ≠ (v284 : Value).ownBlock ∧ some k_ ≠ (.slice Ao95 x10_25.length co95 : Value).ownBlock) (fun _ => False) rfl rfl ?aP (fun _ hk => hk.elim) ?aF ?aO ?aB ?aS ?aL ?_; (case aP => exact rfl); (case aB => exact (by repeat (first | (with_reducible first | exact HB.out | apply below_alloc | apply pw_below_drewN | apply below_drew1) | exact HB.out))); (case aF => exact (fun k_ hk => ⟨Kd.fresh' (Kd.R_lt (by (with_reducible repeat (first | apply Kd.R_alloc | apply Kd.R_drewN | apply Kd.R_drew)); exact HO_8.out)) k_ hk, Kd.fresh' (Kd.R_lt (by (with_reducible repeat (first | apply Kd.R_alloc | apply Kd.R_drewN | apply Kd.R_drew)); exact HO_9.out)) k_ hk, Kd.fresh' (Kd.R_lt (by (with_reducible repeat (first | apply Kd.R_alloc | apply Kd.R_drewN | apply Kd.R_drew)); exact HO_10.out)) k_ hk⟩)); (case aO => exact (by (with_reducible repeat (first | apply Kd.R_alloc | apply Kd.R_drewN | apply Kd.R_drew)); exact HO318.out)); (case aS => exact (below_size (by repeat (first | (with_reducible first | exact HB.out | apply below_alloc | apply pw_below_drewN | apply below_drew1) | exact HB.out)))); (case aL => have := LMc91.out; omega); intro v320 w96 ho hb hg hat; rw [← Ny319.out] at ho; have n0_ := Aside0.mk (Kd.R_after (ok := (fun k_ => some k_ ≠ (v284 : Value).ownBlock ∧ some k_ ≠ (.slice Ao95 x10_25.length co95 : Value).ownBlock)) (by (with_reducible repeat (first | apply Kd.R_alloc | apply Kd.R_drewN | apply Kd.R_drew)); exact HO_8.out) hg hat); have n1_ := Aside0.mk (Kd.R_after (ok := (fun k_ => some k_ ≠ (v281 : Value).ownBlock ∧ some k_ ≠ (.slice Ao95 x10_25.length co95 : Value).ownBlock)) (by (with_reducible repeat (first | apply Kd.R_alloc | apply Kd.R_drewN | apply Kd.R_drew)); exact HO_9.out) hg hat); have n2_ := Aside0.mk (Kd.R_after (ok := (fun k_ => some k_ ≠ (v281 : Value).ownBlock ∧ some k_ ≠ (v284 : Value).ownBlock)) (by (with_reducible repeat (first | apply Kd.R_alloc | apply Kd.R_drewN | apply Kd.R_drew)); exact HO_10.out) hg hat); have n3_ := Aside0.mk (hb); have n4_ := Aside0.mk (ho); clear HO_8; clear HO_9; clear HO_10; clear HB; clear HO318; have HO_8 := n0_; have HO_9 := n1_; have HO_10 := n2_; have HB := n3_; have HO321 := n4_; clear n0_ n1_ n2_ n3_ n4_; clear ho hb hg hat))
                                        go_roundg kj74
                                        case measure => have := HK1.out; have := HJ3.out; have := HJ13.out; have := HJ25.out; have := HJ74.out; omega
                                        case rel => exact ⟨(y280), (x9_25), (y319), (x11_25), (wrap64 (x12_1 + 1)), (by first | rfl | (simp; done) | (simp [*]; done)), (by first | rfl | (simp; done) | (simp [*]; done)), H', ⟨by have := HK1.out; have := HJ3.out; have := HJ13.out; have := HJ25.out; have := HJ74.out; omega⟩, ⟨by (with_reducible repeat (first | apply Kd.R_alloc | apply Kd.R_drewN | apply Kd.R_drew)); exact Kd.R_mono HO_8.out (fun _ hk => ⟨hk.1.1, hk.2⟩)⟩, ⟨by (with_reducible repeat (first | apply Kd.R_alloc | apply Kd.R_drewN | apply Kd.R_drew)); exact Kd.R_mono HO_9.out (fun _ hk => ⟨hk.1.1, hk.2⟩)⟩, ⟨by (with_reducible repeat (first | apply Kd.R_alloc | apply Kd.R_drewN | apply Kd.R_drew)); exact Kd.R_mono HO321.out (fun _ hk => ⟨hk.1, hk.2.1⟩)⟩, ⟨by repeat (first | (with_reducible first | exact HB.out | apply below_alloc | apply pw_below_drewN | apply below_drew1) | exact HB.out)⟩⟩
                                      · rw [if_neg c91] at H
                                        exact absurd H (by simp)
                                    · rw [if_neg c90] at H
                                      exact absurd H (by simp)
                                  · replace c89 := Bool.eq_false_iff.mpr c89
                                    subst c89
                                    have H1 : (rowlockref15_Brackets.l0 kj74 l0 a1 y280 x9_25 x10_25 x11_25 (wrap64 (x12_1 + 1))) = some (r1, r2, r3, r4) := by rw [if_neg (show ¬ (false = true) by decide)] at H; exact H
                                    clear H
                                    have H := H1
                                    clear H1
                                    have H' := Aside0.mk H
                                    clear H
                                    go_wp2_with (first | ((with_reducible refine gate_callee (f := 84) rfl ?_); refine goesL_ (some 122) rfl rfl Try.func84 (by kernel_rfl) rfl #[.int .u8 ((rd_T35 l0 x12_1).f0)] rfl (by (try simp only [List.map_toArray, List.map_cons, List.map_nil]); first | done | rfl | (simp only [List.length_drop, List.length_take]; rfl)) ?_; (with_reducible refine (rowlockref15_opens.calls ((rd_T35 l0 x12_1).f0) false _ A88.out).mono ?_); rintro e w' ⟨rfl, ⟨nd, rfl⟩⟩; refine ⟨_, rfl, ?_⟩))
                                    go_roundg kj74
                                    case measure => have := HK1.out; have := HJ3.out; have := HJ13.out; have := HJ25.out; have := HJ74.out; omega
                                    case rel => exact ⟨(y280), (x9_25), (x10_25), (x11_25), (wrap64 (x12_1 + 1)), (by first | rfl | (simp; done) | (simp [*]; done)), (by first | rfl | (simp; done) | (simp [*]; done)), H', ⟨by have := HK1.out; have := HJ3.out; have := HJ13.out; have := HJ25.out; have := HJ74.out; omega⟩, ⟨by (with_reducible repeat (first | apply Kd.R_alloc | apply Kd.R_drewN | apply Kd.R_drew)); exact HO_8.out⟩, ⟨by (with_reducible repeat (first | apply Kd.R_alloc | apply Kd.R_drewN | apply Kd.R_drew)); exact HO_9.out⟩, ⟨by (with_reducible repeat (first | apply Kd.R_alloc | apply Kd.R_drewN | apply Kd.R_drew)); exact HO_10.out⟩, ⟨by repeat (first | (with_reducible first | exact HB.out | apply below_alloc | apply pw_below_drewN | apply below_drew1) | exact HB.out)⟩⟩
                  · rw [if_neg c13] at H
                    exact absurd H (by simp)
                · rw [if_neg c12] at H
                  exact absurd H (by simp)
              · rw [if_neg c11] at H
                exact absurd H (by simp)
            · rw [if_neg c10] at H
              exact absurd H (by simp)
      · rw [if_neg c3] at H
        have c3b0 : decide (x12_1 < (l0.length : Int)) = false := decide_eq_false c3
        clear c3
        have HC97 := Aside0.mk H
        clear H
        go_upto_region 24 with (fail)
        go_cut [135] (fun v135 wc => ∃ (kq : Nat) (x135_96 : Bool), v135 = .bool x135_96 ∧ Aside0 (rowlockref15_Brackets.j6 kq x8_1 x9_1 x10_1 x11_1 x135_96 = some (r1, r2, r3, r4)) ∧ Aside0 (kq ≤ k1) ∧ Aside0 (Kd.R (Kd.int .i64) 3 wc w.heap.size (fun k_ => some k_ ≠ (u9 : Value).ownBlock ∧ some k_ ≠ (u10 : Value).ownBlock) u8 x8_1) ∧ Aside0 (Kd.R (Kd.int .i64) 3 wc w.heap.size (fun k_ => some k_ ≠ (u8 : Value).ownBlock ∧ some k_ ≠ (u10 : Value).ownBlock) u9 x9_1) ∧ Aside0 (Kd.R (Kd.int .i64) 3 wc w.heap.size (fun k_ => some k_ ≠ (u8 : Value).ownBlock ∧ some k_ ≠ (u9 : Value).ownBlock) u10 x10_1) ∧ Aside0 (Below w.heap.size w wc))
        case first =>
          have H := HC97.out
          clear HC97
          by_cases c98 : x11_1 < 0
          · rw [if_pos c98] at H
            have c98b0 : decide (x11_1 < 0) = true := decide_eq_true c98
            clear c98
            (first | rw [c98b0] | (simp only [i64_w, i32_w]; rw [c98b0]) | skip)
            have H' := Aside0.mk H
            clear H
            obtain ⟨Ao99, co99, eo99⟩ := Kd.R_slice HO_10.out
            subst eo99
            go_wp2
            go_meet
            case rel => exact ⟨_, (decide ((x10_1.length : Int) > 0)), (by first | rfl | (simp; done) | (simp [*]; done)), H', ⟨by have := HK1.out; first | omega | exact Nat.le_refl _⟩, ⟨by (with_reducible repeat (first | apply Kd.R_alloc | apply Kd.R_drewN | apply Kd.R_drew)); exact HO_8.out⟩, ⟨by (with_reducible repeat (first | apply Kd.R_alloc | apply Kd.R_drewN | apply Kd.R_drew)); exact HO_9.out⟩, ⟨by (with_reducible repeat (first | apply Kd.R_alloc | apply Kd.R_drewN | apply Kd.R_drew)); exact HO_10.out⟩, ⟨by repeat (first | (with_reducible first | exact HB.out | apply below_alloc | apply pw_below_drewN | apply below_drew1) | exact HB.out)⟩⟩
          · rw [if_neg c98] at H
            have c98b0 : decide (x11_1 < 0) = false := decide_eq_false c98
            clear c98
            (first | rw [c98b0] | (simp only [i64_w, i32_w]; rw [c98b0]) | skip)
            have H' := Aside0.mk H
            clear H
            go_wp2
            go_meet
            case rel => exact ⟨_, (false), (by first | rfl | (simp; done) | (simp [*]; done)), H', ⟨by have := HK1.out; first | omega | exact Nat.le_refl _⟩, ⟨by (with_reducible repeat (first | apply Kd.R_alloc | apply Kd.R_drewN | apply Kd.R_drew)); exact HO_8.out⟩, ⟨by (with_reducible repeat (first | apply Kd.R_alloc | apply Kd.R_drewN | apply Kd.R_drew)); exact HO_9.out⟩, ⟨by (with_reducible repeat (first | apply Kd.R_alloc | apply Kd.R_drewN | apply Kd.R_drew)); exact HO_10.out⟩, ⟨by repeat (first | (with_reducible first | exact HB.out | apply below_alloc | apply pw_below_drewN | apply below_drew1) | exact HB.out)⟩⟩
        case rest =>
          clear HC97
          try clear c1
          try clear c2
          try clear p2
          try clear q2
          try clear hx2
          try clear c3
          try clear c3b0
          try clear p3
          try clear q3
          try clear hx3
          try clear hf3
          try clear c4
          try clear q4
          try clear c5
          try clear q5
          try clear c6
          try clear c6b0
          try clear c6b1
          try clear p6
          try clear q6
          try clear c7
          try clear q7
          try clear c8
          try clear c8b0
          try clear c9
          try clear c9b0
          try clear c10
          try clear c10b0
          try clear c11
          try clear c11b0
          try clear c12
          try clear c13
          try clear c17
          try clear c17b0
          try clear c17b1
          try clear c18
          try clear c18b0
          try clear c19
          try clear c19b0
          try clear c19b1
          try clear c20
          try clear c20b0
          try clear c22
          try clear c22b0
          try clear c22b1
          try clear c23
          try clear c23b0
          try clear c27
          try clear c27b0
          try clear c27b1
          try clear p27
          try clear q27
          try clear hx27
          try clear p28
          try clear q28
          try clear hx28
          try clear c29
          try clear c29b0
          try clear c30
          try clear c30b0
          try clear p30
          try clear q30
          try clear hx30
          try clear c31
          try clear c31b0
          try clear c32
          try clear c33
          try clear c33b0
          try clear c34
          try clear c34b0
          try clear p35
          try clear q35
          try clear hx35
          try clear hf35
          try clear c37
          try clear c37b0
          try clear c37b1
          try clear c38
          try clear c38b0
          try clear c38b1
          try clear c39
          try clear c40
          try clear c41
          try clear c41b0
          try clear c42
          try clear c42b0
          try clear c42b1
          try clear q47
          try clear c49
          try clear c49b0
          try clear q54
          try clear c56
          try clear c56b0
          try clear q61
          try clear p64
          try clear q67
          try clear q73
          try clear c76
          try clear c77
          try clear c77b0
          try clear c78
          try clear c80
          try clear c81
          try clear c82
          try clear c84
          try clear c89
          try clear c90
          try clear c91
          try clear c98
          try clear c98b0
          try clear hx278_0
          try clear hx279_0
          try clear hx279_1
          try clear hx279_2
          try clear hx289_0
          try clear hx289_1
          try clear hx289_2
          try clear hx301_0
          try clear hx301_1
          try clear hx301_2
          try clear hx35_0
          try clear p2
          try clear p27
          try clear p278
          try clear p279
          try clear p28
          try clear p289
          try clear p3
          try clear p30
          try clear p301
          try clear p35
          try clear p6
          try clear p64
          try clear q2
          try clear q27
          try clear q278
          try clear q279
          try clear q28
          try clear q289
          try clear q3
          try clear q30
          try clear q301
          try clear q35
          try clear q4
          try clear q47
          try clear q5
          try clear q54
          try clear q6
          try clear q61
          try clear q67
          try clear q7
          try clear q73
          obtain ⟨kq, x135_96, rfl, HA, HJ96, HO_8, HO_9, HO_10, HB⟩ := hcut
          cases kq with
          | zero => exact absurd HA.out (by simp [rowlockref15_Brackets.j6])
          | succ kj96 =>
            have H := HA.out
            clear HA
            simp only [rowlockref15_Brackets.j6] at H
            by_cases c100 : x135_96 = true
            · subst c100
              have H1 : (if 0 ≤ (wrap64 ((x10_1.length : Int) - 1)) then (if (wrap64 ((x10_1.length : Int) - 1)) < (x10_1.length : Int) then (if (rd x10_1 (wrap64 ((x10_1.length : Int) - 1))) ≥ 0 then (some (([] : List Int), ([] : List Int), rd x10_1 (wrap64 ((x10_1.length : Int) - 1)), 8)) else (some (x8_1, x9_1, 0, 0))) else (none)) else (none)) = some (r1, r2, r3, r4) := by rw [if_pos rfl] at H; exact H
              clear H
              have H := H1
              clear H1
              obtain ⟨ji101, hji101⟩ : ∃ j_ : Int, (wrap64 ((x10_1.length : Int) - 1)) = j_ := ⟨_, rfl⟩
              replace H : (if 0 ≤ (ji101) then (if (ji101) < (x10_1.length : Int) then (if (rd x10_1 (ji101)) ≥ 0 then (some (([] : List Int), ([] : List Int), rd x10_1 (ji101), 8)) else (some (x8_1, x9_1, 0, 0))) else (none)) else (none)) = some (r1, r2, r3, r4) := by first | (rw [hji101] at H; exact H) | (simp only [hji101] at H ⊢; exact H)
              have hji101w : (IntKind.i64.wrap ((x10_1.length : Int) - 1)) = ji101 := (i64_w _).trans hji101
              by_cases c102 : 0 ≤ (ji101)
              · rw [if_pos c102] at H
                have c102b0 : decide (0 ≤ (ji101)) = true := decide_eq_true c102
                clear c102
                by_cases c103 : (ji101) < (x10_1.length : Int)
                · rw [if_pos c103] at H
                  have c103b0 : decide ((ji101) < (x10_1.length : Int)) = true := decide_eq_true c103
                  clear c103
                  by_cases c104 : (rd x10_1 (ji101)) ≥ 0
                  · rw [if_pos c104] at H
                    have c104b0 : decide (0 ≤ (rd x10_1 (ji101))) = true := decide_eq_true c104
                    clear c104
                    simp only [Option.some.injEq, Prod.mk.injEq] at H
                    obtain ⟨rfl, rfl, rfl, rfl⟩ := H
                    obtain ⟨Ao105, co105, eo105⟩ := Kd.R_slice HO_10.out
                    subst eo105
                    have p322 : 0 ≤ ((ji101) : Int) := of_decide_eq_true (by first | (with_reducible assumption) | assumption)
                    have q322 : (ji101) < (x10_1.length : Int) := of_decide_eq_true (by first | (with_reducible assumption) | assumption)
                    obtain ⟨ad322, e322, hx322_0⟩ := Kd.at_int (Kd.R_reads' HO_10.out).2.2 (ji101) p322 q322
                    cases e322
                    replace p322 := eq_true p322
                    replace q322 := eq_true q322
                    go_wp2
                    refine bodyPost_ret (results_list (rs := [.tmp 4, .tmp 5, .tmp 6, .tmp 7]) rfl (by simp) (.tmp (.tmp (.tmp (.tmp .nil))))) rfl ?_
                    exact ⟨_, _, by first | rfl | (simp [errW_none, errW_some] <;> rfl) | (simp only [← hji101]; first | rfl | (simp [errW_none, errW_some] <;> rfl)) | (simp [*, errW_none, errW_some] <;> rfl), by first | exact Kd.R_nil _ _ _ _ _ | exact Kd.N_nil _ _ _ _ _ | exact Kd.V_nil _ _ _ _ _ | exact Kd.Q_nil _ _ _ _ _ | exact Kd.S_nil _ _ _ _ _, by first | exact Kd.R_nil _ _ _ _ _ | exact Kd.N_nil _ _ _ _ _ | exact Kd.V_nil _ _ _ _ _ | exact Kd.Q_nil _ _ _ _ _ | exact Kd.S_nil _ _ _ _ _, by repeat (first | (with_reducible first | exact HB.out | apply below_alloc | apply pw_below_drewN | apply below_drew1) | exact HB.out)⟩
                  · rw [if_neg c104] at H
                    have c104b0 : decide (0 ≤ (rd x10_1 (ji101))) = false := decide_eq_false c104
                    clear c104
                    simp only [Option.some.injEq, Prod.mk.injEq] at H
                    obtain ⟨rfl, rfl, rfl, rfl⟩ := H
                    obtain ⟨Ao106, co106, eo106⟩ := Kd.R_slice HO_10.out
                    subst eo106
                    have p322 : 0 ≤ ((ji101) : Int) := of_decide_eq_true (by first | (with_reducible assumption) | assumption)
                    have q322 : (ji101) < (x10_1.length : Int) := of_decide_eq_true (by first | (with_reducible assumption) | assumption)
                    obtain ⟨ad322, e322, hx322_0⟩ := Kd.at_int (Kd.R_reads' HO_10.out).2.2 (ji101) p322 q322
                    cases e322
                    replace p322 := eq_true p322
                    replace q322 := eq_true q322
                    go_wp2
                    refine bodyPost_ret (results_list (rs := [.tmp 4, .tmp 5, .tmp 6, .tmp 7]) rfl (by simp) (.tmp (.tmp (.tmp (.tmp .nil))))) rfl ?_
                    exact ⟨_, _, by first | rfl | (simp [errW_none, errW_some] <;> rfl) | (simp only [← hji101]; first | rfl | (simp [errW_none, errW_some] <;> rfl)) | (simp [*, errW_none, errW_some] <;> rfl), by (with_reducible repeat (first | apply Kd.R_alloc | apply Kd.R_drewN | apply Kd.R_drew)); exact Kd.R_mono HO_8.out (fun _ hk => hk.1), by (with_reducible repeat (first | apply Kd.R_alloc | apply Kd.R_drewN | apply Kd.R_drew)); exact Kd.R_mono HO_9.out (fun _ hk => hk.1), by repeat (first | (with_reducible first | exact HB.out | apply below_alloc | apply pw_below_drewN | apply below_drew1) | exact HB.out)⟩
                · rw [if_neg c103] at H
                  exact absurd H (by simp)
              · rw [if_neg c102] at H
                exact absurd H (by simp)
            · replace c100 := Bool.eq_false_iff.mpr c100
              subst c100
              have H1 : (if x11_1 ≥ 0 then (some (([] : List Int), ([] : List Int), x11_1, 8)) else (some (x8_1, x9_1, 0, 0))) = some (r1, r2, r3, r4) := by rw [if_neg (show ¬ (false = true) by decide)] at H; exact H
              clear H
              have H := H1
              clear H1
              by_cases c107 : x11_1 ≥ 0
              · rw [if_pos c107] at H
                have c107b0 : decide (0 ≤ x11_1) = true := decide_eq_true c107
                clear c107
                simp only [Option.some.injEq, Prod.mk.injEq] at H
                obtain ⟨rfl, rfl, rfl, rfl⟩ := H
                go_wp2
                refine bodyPost_ret (results_list (rs := [.tmp 4, .tmp 5, .tmp 6, .tmp 7]) rfl (by simp) (.tmp (.tmp (.tmp (.tmp .nil))))) rfl ?_
                exact ⟨_, _, by first | rfl | (simp [errW_none, errW_some] <;> rfl) | (simp [*, errW_none, errW_some] <;> rfl), by first | exact Kd.R_nil _ _ _ _ _ | exact Kd.N_nil _ _ _ _ _ | exact Kd.V_nil _ _ _ _ _ | exact Kd.Q_nil _ _ _ _ _ | exact Kd.S_nil _ _ _ _ _, by first | exact Kd.R_nil _ _ _ _ _ | exact Kd.N_nil _ _ _ _ _ | exact Kd.V_nil _ _ _ _ _ | exact Kd.Q_nil _ _ _ _ _ | exact Kd.S_nil _ _ _ _ _, by repeat (first | (with_reducible first | exact HB.out | apply below_alloc | apply pw_below_drewN | apply below_drew1) | exact HB.out)⟩
              · rw [if_neg c107] at H
                have c107b0 : decide (0 ≤ x11_1) = false := decide_eq_false c107
                clear c107
                simp only [Option.some.injEq, Prod.mk.injEq] at H
                obtain ⟨rfl, rfl, rfl, rfl⟩ := H
                go_wp2
                refine bodyPost_ret (results_list (rs := [.tmp 4, .tmp 5, .tmp 6, .tmp 7]) rfl (by simp) (.tmp (.tmp (.tmp (.tmp .nil))))) rfl ?_
                exact ⟨_, _, by first | rfl | (simp [errW_none, errW_some] <;> rfl) | (simp [*, errW_none, errW_some] <;> rfl), by (with_reducible repeat (first | apply Kd.R_alloc | apply Kd.R_drewN | apply Kd.R_drew)); exact Kd.R_mono HO_8.out (fun _ hk => hk.1), by (with_reducible repeat (first | apply Kd.R_alloc | apply Kd.R_drewN | apply Kd.R_drew)); exact Kd.R_mono HO_9.out (fun _ hk => hk.1), by repeat (first | (with_reducible first | exact HB.out | apply below_alloc | apply pw_below_drewN | apply below_drew1) | exact HB.out)⟩

end Go.Proofs.Ytcjkpeojjonpiaa.PLocksMay
