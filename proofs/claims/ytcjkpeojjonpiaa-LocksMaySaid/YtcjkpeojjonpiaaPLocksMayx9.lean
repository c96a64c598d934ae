-- Written by a program of this session, over the kit's print; the contracts of some functions by hand.
import Derived.Test.YtcjkpeojjonpiaaPLocksMayx0
import Derived.Test.YtcjkpeojjonpiaaPLocksMayx3
import Derived.Test.YtcjkpeojjonpiaaPLocksMayx6
import Derived.Test.YtcjkpeojjonpiaaPLocksMayx8
namespace Go.Proofs.Ytcjkpeojjonpiaa.PLocksMay
open Go.RowKit Go.Proofs.YtcjkpeojjonpiaaW.PrintWords Go.Proofs.YtcjkpeojjonpiaaW.PrintLast Go.Proofs.YtcjkpeojjonpiaaW.PrintMore
attribute [local go_sem] max2_int min2_int max_two min_two max_three min_three max_four min_four   -- for this text's walks alone
set_option linter.unusedVariables false
set_option linter.unusedSimpArgs false

/-! ### rowlockref15_Check: function 10 -/
mutual
def rowlockref15_Check.j0 : Nat → List (S35) → Int → Bool → Option (Int × Int)
  | 0, _, _, _ => none
  | k + 1, x0, x1, x21 => if x21 = true then (some (0, 3)) else (rowlockref15_Check.l0 k x0 x1 0)
def rowlockref15_Check.l0 : Nat → List (S35) → Int → Int → Option (Int × Int)
  | 0, _, _, _ => none
  | k + 1, x0, x1, x6 => if x6 < (x0.length : Int) then (if 0 ≤ x6 then ((rowlockref14_Right.f ((rd_T35 x0 x6).f0) ((rd_T35 x0 x6).f1) ((rd_T35 x0 x6).f2)).bind fun t382 => (if t382 = true then (rowlockref15_Check.l0 k x0 x1 (wrap64 (x6 + 1))) else (some (x6, 3)))) else (none)) else ((rowlockref15_Regions.f k x0).bind fun bt383 => (if bt383.2.2 = 0 then (rowlockref15_Check.l1 k x0 x1 bt383.1 0) else (some (bt383.2.1, bt383.2.2))))
def rowlockref15_Check.l1 : Nat → List (S35) → Int → List Int → Int → Option (Int × Int)
  | 0, _, _, _, _ => none
  | k + 1, x0, x1, x7, x10 => if x10 < (x0.length : Int) then (if 0 ≤ x10 then ((rowlockref15_variable.f ((rd_T35 x0 x10).f0)).bind fun t389 => (if t389 = true then (rowlockref15_Check.j3 k x0 x1 x7 x10 ((rd_T35 x0 x10).f0) true) else (rowlockref15_Check.j3 k x0 x1 x7 x10 ((rd_T35 x0 x10).f0) (((rd_T35 x0 x10).f0) == 26)))) else (none)) else (rowlockref15_Check.l2 k x0 x1 x7 0)
def rowlockref15_Check.j3 : Nat → List (S35) → Int → List Int → Int → Int → Bool → Option (Int × Int)
  | 0, _, _, _, _, _, _ => none
  | k + 1, x0, x1, x7, x10, x11, x61 => if x61 = true then (if 0 ≤ x10 then (if x10 < (x7.length : Int) then (if (rd x7 x10) < 0 then (some (x10, 8)) else (if x11 = 27 then (if (rd x7 x10) ≥ 0 then (some (x10, 8)) else (rowlockref15_Check.l1 k x0 x1 x7 (wrap64 (x10 + 1)))) else (if x11 = 28 then (if (rd x7 x10) ≥ 0 then (some (x10, 8)) else (rowlockref15_Check.l1 k x0 x1 x7 (wrap64 (x10 + 1)))) else (rowlockref15_Check.l1 k x0 x1 x7 (wrap64 (x10 + 1)))))) else (none)) else (none)) else (if x11 = 27 then (if 0 ≤ x10 then (if x10 < (x7.length : Int) then (if (rd x7 x10) ≥ 0 then (some (x10, 8)) else (rowlockref15_Check.l1 k x0 x1 x7 (wrap64 (x10 + 1)))) else (none)) else (none)) else (if x11 = 28 then (if 0 ≤ x10 then (if x10 < (x7.length : Int) then (if (rd x7 x10) ≥ 0 then (some (x10, 8)) else (rowlockref15_Check.l1 k x0 x1 x7 (wrap64 (x10 + 1)))) else (none)) else (none)) else (rowlockref15_Check.l1 k x0 x1 x7 (wrap64 (x10 + 1)))))
def rowlockref15_Check.l2 : Nat → List (S35) → Int → List Int → Int → Option (Int × Int)
  | 0, _, _, _, _ => none
  | k + 1, x0, x1, x7, x12 => if x12 < (x0.length : Int) then (if 0 ≤ x12 then ((rowlockref15_variable.f ((rd_T35 x0 x12).f0)).bind fun t402 => (if t402 = true then (rowlockref15_Check.j5 k x0 x1 x7 x12 (decide (((rd_T35 x0 x12).f1) ≥ x1)) ((rd_T35 x0 x12).f0) ((rd_T35 x0 x12).f1) ((rd_T35 x0 x12).f2)) else (rowlockref15_Check.j5 k x0 x1 x7 x12 false ((rd_T35 x0 x12).f0) ((rd_T35 x0 x12).f1) ((rd_T35 x0 x12).f2)))) else (none)) else ((rowlockref15_Depths.f k x0).bind fun bt395 => (some (bt395.2.1, bt395.2.2)))
def rowlockref15_Check.j5 : Nat → List (S35) → Int → List Int → Int → Bool → Int → Int → Int → Option (Int × Int)
  | 0, _, _, _, _, _, _, _, _ => none
  | k + 1, x0, x1, x7, x12, x100, x402000, x402001, x402002 => if x100 = true then (some (x12, 2)) else (if x402000 = 19 then (if x402001 ≥ (x0.length : Int) then (some (x12, 2)) else (if 0 ≤ x402001 then (if x402001 < (x7.length : Int) then (if 0 ≤ x12 then (if x12 < (x7.length : Int) then (if (rd x7 x402001) = (rd x7 x12) then (rowlockref15_Check.l2 k x0 x1 x7 (wrap64 (x12 + 1))) else (some (x12, 2))) else (none)) else (none)) else (none)) else (none))) else (if x402000 = 20 then (if x402001 ≥ (x0.length : Int) then (some (x12, 2)) else (if 0 ≤ x402001 then (if x402001 < (x7.length : Int) then (if 0 ≤ x12 then (if x12 < (x7.length : Int) then (if (rd x7 x402001) = (rd x7 x12) then (rowlockref15_Check.l2 k x0 x1 x7 (wrap64 (x12 + 1))) else (some (x12, 2))) else (none)) else (none)) else (none)) else (none))) else (rowlockref15_Check.l2 k x0 x1 x7 (wrap64 (x12 + 1)))))
end
def rowlockref15_Check.f (k : Nat) (l0 : List (S35)) (a1 : Int) : Option (Int × Int) := if (l0.length : Int) < 1 then (rowlockref15_Check.j0 k l0 a1 true) else (rowlockref15_Check.j0 k l0 a1 (decide ((l0.length : Int) > 64)))
theorem rowlockref15_Check.mono_l : ∀ k, (∀ y0 y1 y2, LeO (rowlockref15_Check.j0 k y0 y1 y2) (rowlockref15_Check.j0 (k + 1) y0 y1 y2)) ∧ (∀ y0 y1 y2, LeO (rowlockref15_Check.l0 k y0 y1 y2) (rowlockref15_Check.l0 (k + 1) y0 y1 y2)) ∧ (∀ y0 y1 y2 y3, LeO (rowlockref15_Check.l1 k y0 y1 y2 y3) (rowlockref15_Check.l1 (k + 1) y0 y1 y2 y3)) ∧ (∀ y0 y1 y2 y3 y4 y5, LeO (rowlockref15_Check.j3 k y0 y1 y2 y3 y4 y5) (rowlockref15_Check.j3 (k + 1) y0 y1 y2 y3 y4 y5)) ∧ (∀ y0 y1 y2 y3, LeO (rowlockref15_Check.l2 k y0 y1 y2 y3) (rowlockref15_Check.l2 (k + 1) y0 y1 y2 y3)) ∧ (∀ y0 y1 y2 y3 y4 y5 y6 y7, LeO (rowlockref15_Check.j5 k y0 y1 y2 y3 y4 y5 y6 y7) (rowlockref15_Check.j5 (k + 1) y0 y1 y2 y3 y4 y5 y6 y7))
  | 0 => ⟨fun _ _ _ r h => by simp [rowlockref15_Check.j0] at h, fun _ _ _ r h => by simp [rowlockref15_Check.l0] at h, fun _ _ _ _ r h => by simp [rowlockref15_Check.l1] at h, fun _ _ _ _ _ _ r h => by simp [rowlockref15_Check.j3] at h, fun _ _ _ _ r h => by simp [rowlockref15_Check.l2] at h, fun _ _ _ _ _ _ _ _ r h => by simp [rowlockref15_Check.j5] at h⟩
  | k + 1 => by
    obtain ⟨ih0, ih1, ih2, ih3, ih4, ih5⟩ := rowlockref15_Check.mono_l k
    refine ⟨?_, ?_, ?_, ?_, ?_, ?_⟩
    · intro y0 y1 y2
      unfold rowlockref15_Check.j0
      repeat' first
      | (with_reducible exact ih0 _ _ _)
      | (with_reducible exact ih1 _ _ _)
      | (with_reducible exact ih2 _ _ _ _)
      | (with_reducible exact ih3 _ _ _ _ _ _)
      | (with_reducible exact ih4 _ _ _ _)
      | (with_reducible exact ih5 _ _ _ _ _ _ _ _)
      | (with_reducible exact rowlockref15_Depths.mono _ _)
      | (with_reducible exact rowlockref15_Regions.mono _ _)
      | (with_reducible exact LeO.refl _)
      | (with_reducible exact LeO.none _)
      | (with_reducible refine LeO.ite ?_ ?_)
      | (with_reducible refine LeO.bind ?_ (fun _ => ?_))
      | exact ih0 _ _ _
      | exact ih1 _ _ _
      | exact ih2 _ _ _ _
      | exact ih3 _ _ _ _ _ _
      | exact ih4 _ _ _ _
      | exact ih5 _ _ _ _ _ _ _ _
      | exact rowlockref15_Depths.mono _ _
      | exact rowlockref15_Regions.mono _ _
      | exact LeO.none _
      | refine LeO.ite ?_ ?_
      | refine LeO.bind ?_ (fun _ => ?_)
    · intro y0 y1 y2
      unfold rowlockref15_Check.l0
      repeat' first
      | (with_reducible exact ih0 _ _ _)
      | (with_reducible exact ih1 _ _ _)
      | (with_reducible exact ih2 _ _ _ _)
      | (with_reducible exact ih3 _ _ _ _ _ _)
      | (with_reducible exact ih4 _ _ _ _)
      | (with_reducible exact ih5 _ _ _ _ _ _ _ _)
      | (with_reducible exact rowlockref15_Depths.mono _ _)
      | (with_reducible exact rowlockref15_Regions.mono _ _)
      | (with_reducible exact LeO.refl _)
      | (with_reducible exact LeO.none _)
      | (with_reducible refine LeO.ite ?_ ?_)
      | (with_reducible refine LeO.bind ?_ (fun _ => ?_))
      | exact ih0 _ _ _
      | exact ih1 _ _ _
      | exact ih2 _ _ _ _
      | exact ih3 _ _ _ _ _ _
      | exact ih4 _ _ _ _
      | exact ih5 _ _ _ _ _ _ _ _
      | exact rowlockref15_Depths.mono _ _
      | exact rowlockref15_Regions.mono _ _
      | exact LeO.none _
      | refine LeO.ite ?_ ?_
      | refine LeO.bind ?_ (fun _ => ?_)
    · intro y0 y1 y2 y3
      unfold rowlockref15_Check.l1
      repeat' first
      | (with_reducible exact ih0 _ _ _)
      | (with_reducible exact ih1 _ _ _)
      | (with_reducible exact ih2 _ _ _ _)
      | (with_reducible exact ih3 _ _ _ _ _ _)
      | (with_reducible exact ih4 _ _ _ _)
      | (with_reducible exact ih5 _ _ _ _ _ _ _ _)
      | (with_reducible exact rowlockref15_Depths.mono _ _)
      | (with_reducible exact rowlockref15_Regions.mono _ _)
      | (with_reducible exact LeO.refl _)
      | (with_reducible exact LeO.none _)
      | (with_reducible refine LeO.ite ?_ ?_)
      | (with_reducible refine LeO.bind ?_ (fun _ => ?_))
      | exact ih0 _ _ _
      | exact ih1 _ _ _
      | exact ih2 _ _ _ _
      | exact ih3 _ _ _ _ _ _
      | exact ih4 _ _ _ _
      | exact ih5 _ _ _ _ _ _ _ _
      | exact rowlockref15_Depths.mono _ _
      | exact rowlockref15_Regions.mono _ _
      | exact LeO.none _
      | refine LeO.ite ?_ ?_
      | refine LeO.bind ?_ (fun _ => ?_)
    · intro y0 y1 y2 y3 y4 y5
      unfold rowlockref15_Check.j3
      repeat' first
      | (with_reducible exact ih0 _ _ _)
      | (with_reducible exact ih1 _ _ _)
      | (with_reducible exact ih2 _ _ _ _)
      | (with_reducible exact ih3 _ _ _ _ _ _)
      | (with_reducible exact ih4 _ _ _ _)
      | (with_reducible exact ih5 _ _ _ _ _ _ _ _)
      | (with_reducible exact rowlockref15_Depths.mono _ _)
      | (with_reducible exact rowlockref15_Regions.mono _ _)
      | (with_reducible exact LeO.refl _)
      | (with_reducible exact LeO.none _)
      | (with_reducible refine LeO.ite ?_ ?_)
      | (with_reducible refine LeO.bind ?_ (fun _ => ?_))
      | exact ih0 _ _ _
      | exact ih1 _ _ _
      | exact ih2 _ _ _ _
      | exact ih3 _ _ _ _ _ _
      | exact ih4 _ _ _ _
      | exact ih5 _ _ _ _ _ _ _ _
      | exact rowlockref15_Depths.mono _ _
      | exact rowlockref15_Regions.mono _ _
      | exact LeO.none _
      | refine LeO.ite ?_ ?_
      | refine LeO.bind ?_ (fun _ => ?_)
    · intro y0 y1 y2 y3
      unfold rowlockref15_Check.l2
      repeat' first
      | (with_reducible exact ih0 _ _ _)
      | (with_reducible exact ih1 _ _ _)
      | (with_reducible exact ih2 _ _ _ _)
      | (with_reducible exact ih3 _ _ _ _ _ _)
      | (with_reducible exact ih4 _ _ _ _)
      | (with_reducible exact ih5 _ _ _ _ _ _ _ _)
      | (with_reducible exact rowlockref15_Depths.mono _ _)
      | (with_reducible exact rowlockref15_Regions.mono _ _)
      | (with_reducible exact LeO.refl _)
      | (with_reducible exact LeO.none _)
      | (with_reducible refine LeO.ite ?_ ?_)
      | (with_reducible refine LeO.bind ?_ (fun _ => ?_))
      | exact ih0 _ _ _
      | exact ih1 _ _ _
      | exact ih2 _ _ _ _
      | exact ih3 _ _ _ _ _ _
      | exact ih4 _ _ _ _
      | exact ih5 _ _ _ _ _ _ _ _
      | exact rowlockref15_Depths.mono _ _
      | exact rowlockref15_Regions.mono _ _
      | exact LeO.none _
      | refine LeO.ite ?_ ?_
      | refine LeO.bind ?_ (fun _ => ?_)
    · intro y0 y1 y2 y3 y4 y5 y6 y7
      unfold rowlockref15_Check.j5
      repeat' first
      | (with_reducible exact ih0 _ _ _)
      | (with_reducible exact ih1 _ _ _)
      | (with_reducible exact ih2 _ _ _ _)
      | (with_reducible exact ih3 _ _ _ _ _ _)
      | (with_reducible exact ih4 _ _ _ _)
      | (with_reducible exact ih5 _ _ _ _ _ _ _ _)
      | (with_reducible exact rowlockref15_Depths.mono _ _)
      | (with_reducible exact rowlockref15_Regions.mono _ _)
      | (with_reducible exact LeO.refl _)
      | (with_reducible exact LeO.none _)
      | (with_reducible refine LeO.ite ?_ ?_)
      | (with_reducible refine LeO.bind ?_ (fun _ => ?_))
      | exact ih0 _ _ _
      | exact ih1 _ _ _
      | exact ih2 _ _ _ _
      | exact ih3 _ _ _ _ _ _
      | exact ih4 _ _ _ _
      | exact ih5 _ _ _ _ _ _ _ _
      | exact rowlockref15_Depths.mono _ _
      | exact rowlockref15_Regions.mono _ _
      | exact LeO.none _
      | refine LeO.ite ?_ ?_
      | refine LeO.bind ?_ (fun _ => ?_)
theorem rowlockref15_Check.mono : ∀ a0 a1 k, LeO (rowlockref15_Check.f k a0 a1) (rowlockref15_Check.f (k + 1) a0 a1) := by
  intro a0 a1 k
  obtain ⟨ih0, ih1, ih2, ih3, ih4, ih5⟩ := rowlockref15_Check.mono_l k
  unfold rowlockref15_Check.f
  repeat' first
      | (with_reducible exact ih0 _ _ _)
      | (with_reducible exact ih1 _ _ _)
      | (with_reducible exact ih2 _ _ _ _)
      | (with_reducible exact ih3 _ _ _ _ _ _)
      | (with_reducible exact ih4 _ _ _ _)
      | (with_reducible exact ih5 _ _ _ _ _ _ _ _)
      | (with_reducible exact rowlockref15_Depths.mono _ _)
      | (with_reducible exact rowlockref15_Regions.mono _ _)
      | (with_reducible exact LeO.refl _)
      | (with_reducible exact LeO.none _)
      | (with_reducible refine LeO.ite ?_ ?_)
      | (with_reducible refine LeO.bind ?_ (fun _ => ?_))
      | exact ih0 _ _ _
      | exact ih1 _ _ _
      | exact ih2 _ _ _ _
      | exact ih3 _ _ _ _ _ _
      | exact ih4 _ _ _ _
      | exact ih5 _ _ _ _ _ _ _ _
      | exact rowlockref15_Depths.mono _ _
      | exact rowlockref15_Regions.mono _ _
      | exact LeO.none _
      | refine LeO.ite ?_ ?_
      | refine LeO.bind ?_ (fun _ => ?_)
set_option maxHeartbeats 8000000 in
set_option maxRecDepth 100000 in
theorem rowlockref15_Check.calls (k : Nat) (A0 : Option Addr) (c0 : Nat) (l0 : List (S35)) (a1 : Int) (r1 : Int) (r2 : Int) (w : World) (hr0 : Kd.C k35 w A0 l0.length l0) (hc0 : l0.length ≤ c0) (h : rowlockref15_Check.f k l0 a1 = some (r1, r2)) :
    Calls Try.prog 10 #[.slice A0 l0.length c0, .int .i64 a1] w fun e w' => e = .returned (.tuple #[.int .i64 r1, .int .i64 r2]) ∧ Below w.heap.size w w' := by
  have hu35 := Try.underlying35
  have HR0 := Aside0.mk hr0
  have HC0 := Aside0.mk hc0
  clear hr0 hc0
  have HB := Aside0.mk (Below.refl w.heap.size w)
  have H : (if (l0.length : Int) < 1 then (rowlockref15_Check.j0 k l0 a1 true) else (rowlockref15_Check.j0 k l0 a1 (decide ((l0.length : Int) > 64)))) = some (r1, r2) := h
  clear h
  have HC3 := Aside0.mk H
  clear H
  go_enter Try.func10, Try.ntmps10
  go_upto_region 1 with (fail)
  repeat (go_quiet (fail); go_upto_region 1 with (fail))
  go_cut [21] (fun v21 wc => ∃ (kq : Nat) (x21_2 : Bool), v21 = .bool x21_2 ∧ Aside0 (rowlockref15_Check.j0 kq l0 a1 x21_2 = some (r1, r2)) ∧ Aside0 (kq ≤ k) ∧ Aside0 (Below w.heap.size w wc))
  case first =>
    have H := HC3.out
    clear HC3
    by_cases c4 : (l0.length : Int) < 1
    · rw [if_pos c4] at H
      have c4b0 : decide ((l0.length : Int) < 1) = true := decide_eq_true c4
      have c4b1 : decide (l0.length < 1) = true := decide_eq_true (by omega)
      clear c4
      (first | rw [c4b0] | (simp only [i64_w, i32_w]; rw [c4b0]) | skip)
      have H' := Aside0.mk H
      clear H
      go_wp2
      repeat (go_quiet (fail); try go_wp2)
      go_meet
      case rel => exact ⟨_, (true), (by first | rfl | (simp; done) | (simp [*]; done)), H', ⟨by first | omega | exact Nat.le_refl _⟩, ⟨by repeat (first | (with_reducible first | exact HB.out | apply below_alloc | apply pw_below_drewN | apply below_drew1) | exact HB.out)⟩⟩
    · rw [if_neg c4] at H
      have c4b0 : decide ((l0.length : Int) < 1) = false := decide_eq_false c4
      have c4b1 : decide (l0.length < 1) = false := decide_eq_false (by omega)
      clear c4
      (first | rw [c4b0] | (simp only [i64_w, i32_w]; rw [c4b0]) | skip)
      have H' := Aside0.mk H
      clear H
      go_wp2
      repeat (go_quiet (fail); try go_wp2)
      go_meet
      case rel => exact ⟨_, (decide ((l0.length : Int) > 64)), (by first | rfl | (simp; done) | (simp [*]; done)), H', ⟨by first | omega | exact Nat.le_refl _⟩, ⟨by repeat (first | (with_reducible first | exact HB.out | apply below_alloc | apply pw_below_drewN | apply below_drew1) | exact HB.out)⟩⟩
  case rest =>
    clear HC3
    try clear c1
    try clear p2
    try clear c4
    try clear c4b0
    try clear c4b1
    obtain ⟨kq, x21_2, rfl, HA, HJ2, HB⟩ := hcut
    cases kq with
    | zero => exact absurd HA.out (by simp [rowlockref15_Check.j0])
    | succ kj2 =>
      have H := HA.out
      clear HA
      simp only [rowlockref15_Check.j0] at H
      by_cases c5 : x21_2 = true
      · subst c5
        have H1 : (some (0, 3)) = some (r1, r2) := by rw [if_pos rfl] at H; exact H
        clear H
        have H := H1
        clear H1
        simp only [Option.some.injEq, Prod.mk.injEq] at H
        obtain ⟨rfl, rfl⟩ := H
        go_wp2
        repeat (go_quiet (fail); try go_wp2)
        go_ret2
        exact ⟨by first | rfl | (simp [errW_none, errW_some] <;> rfl) | (simp [*, errW_none, errW_some] <;> rfl), by repeat (first | (with_reducible first | exact HB.out | apply below_alloc | apply pw_below_drewN | apply below_drew1) | exact HB.out)⟩
      · replace c5 := Bool.eq_false_iff.mpr c5
        subst c5
        have H1 : (rowlockref15_Check.l0 kj2 l0 a1 0) = some (r1, r2) := by rw [if_neg (show ¬ (false = true) by decide)] at H; exact H
        clear H
        have H := H1
        clear H1
        have H' := Aside0.mk H
        clear H
        go_wp2
        repeat (go_quiet (fail); try go_wp2)
        go_loopg [6] kj2 (fun kq v6 w' => ∃ (x6_2 : Int), v6 = .int .i64 x6_2 ∧ Aside0 (rowlockref15_Check.l0 kq l0 a1 x6_2 = some (r1, r2)) ∧ Aside0 (kq ≤ kj2) ∧ Aside0 (Below w.heap.size w w'))
        case atStart => exact ⟨(0), (by first | rfl | (simp; done) | (simp [*]; done)), H', ⟨Nat.le_refl _⟩, ⟨by repeat (first | (with_reducible first | exact HB.out | apply below_alloc | apply pw_below_drewN | apply below_drew1) | exact HB.out)⟩⟩
        case round =>
          clear H'
          try clear c1
          try clear p2
          try clear c4
          try clear c4b0
          try clear c4b1
          try clear c5
          try clear p2
          obtain ⟨x6_2, rfl, HA, HK2, HB⟩ := hrel
          cases gk with
          | zero => exact absurd HA.out (by simp [rowlockref15_Check.l0])
          | succ k2 =>
            have H := HA.out
            clear HA
            simp only [rowlockref15_Check.l0] at H
            by_cases c6 : x6_2 < (l0.length : Int)
            · rw [if_pos c6] at H
              have c6b0 : decide (x6_2 < (l0.length : Int)) = true := decide_eq_true c6
              clear c6
              by_cases c7 : 0 ≤ x6_2
              · rw [if_pos c7] at H
                have c7b0 : decide (0 ≤ x6_2) = true := decide_eq_true c7
                clear c7
                replace H := Option.bind_eq_some_iff.mp H
                obtain ⟨t382, A80, H⟩ := H
                replace H : (if t382 = true then (rowlockref15_Check.l0 k2 l0 a1 (wrap64 (x6_2 + 1))) else (some (x6_2, 3))) = some (r1, r2) := H
                have A8 := Aside0.mk A80
                clear A80
                by_cases c9 : t382 = true
                · subst c9
                  have H1 : (rowlockref15_Check.l0 k2 l0 a1 (wrap64 (x6_2 + 1))) = some (r1, r2) := by rw [if_pos rfl] at H; exact H
                  clear H
                  have H := H1
                  clear H1
                  have H' := Aside0.mk H
                  clear H
                  have p381 : 0 ≤ (x6_2 : Int) := of_decide_eq_true (by first | (with_reducible assumption) | assumption)
                  have q381 : x6_2 < (l0.length : Int) := of_decide_eq_true (by first | (with_reducible assumption) | assumption)
                  obtain ⟨ad381, e381, hx381_0, hx381_1, hx381_2⟩ := at_T35 HR0.out x6_2 p381 q381
                  cases e381
                  replace hx381_0 := (HB.out.cell (World.block_lt_of_cell? w _ hx381_0)).trans hx381_0
                  replace hx381_1 := (HB.out.cell (World.block_lt_of_cell? w _ hx381_1)).trans hx381_1
                  replace hx381_2 := (HB.out.cell (World.block_lt_of_cell? w _ hx381_2)).trans hx381_2
                  replace p381 := eq_true p381
                  replace q381 := eq_true q381
                  go_wp2_with (first | (go_at_call 34; (with_reducible refine (rowlockref14_Right.calls ((rd_T35 l0 x6_2).f0) ((rd_T35 l0 x6_2).f1) ((rd_T35 l0 x6_2).f2) true _ A8.out).mono ?_); rintro e w10 ⟨rfl, hb⟩; have n0_ := Aside0.mk (below_step (by repeat (first | (with_reducible first | exact HB.out | apply below_alloc | apply pw_below_drewN | apply below_drew1) | exact HB.out)) hb); clear HB; have HB := n0_; clear n0_; (try clear hb); (try clear hb2); (try clear hk); (try clear hi)))
                  repeat (go_quiet (first | (go_at_call 34; (with_reducible refine (rowlockref14_Right.calls ((rd_T35 l0 x6_2).f0) ((rd_T35 l0 x6_2).f1) ((rd_T35 l0 x6_2).f2) true _ A8.out).mono ?_); rintro e w10 ⟨rfl, hb⟩; have n0_ := Aside0.mk (below_step (by repeat (first | (with_reducible first | exact HB.out | apply below_alloc | apply pw_below_drewN | apply below_drew1) | exact HB.out)) hb); clear HB; have HB := n0_; clear n0_; (try clear hb); (try clear hb2); (try clear hk); (try clear hi))); try go_wp2_with (first | (go_at_call 34; (with_reducible refine (rowlockref14_Right.calls ((rd_T35 l0 x6_2).f0) ((rd_T35 l0 x6_2).f1) ((rd_T35 l0 x6_2).f2) true _ A8.out).mono ?_); rintro e w10 ⟨rfl, hb⟩; have n0_ := Aside0.mk (below_step (by repeat (first | (with_reducible first | exact HB.out | apply below_alloc | apply pw_below_drewN | apply below_drew1) | exact HB.out)) hb); clear HB; have HB := n0_; clear n0_; (try clear hb); (try clear hb2); (try clear hk); (try clear hi))))
                  go_roundg k2
                  case measure => have := HJ2.out; have := HK2.out; omega
                  case rel => exact ⟨(wrap64 (x6_2 + 1)), (by first | rfl | (simp; done) | (simp [*]; done)), H', ⟨by have := HJ2.out; have := HK2.out; omega⟩, ⟨by repeat (first | (with_reducible first | exact HB.out | apply below_alloc | apply pw_below_drewN | apply below_drew1) | exact HB.out)⟩⟩
                · replace c9 := Bool.eq_false_iff.mpr c9
                  subst c9
                  have H1 : (some (x6_2, 3)) = some (r1, r2) := by rw [if_neg (show ¬ (false = true) by decide)] at H; exact H
                  clear H
                  have H := H1
                  clear H1
                  simp only [Option.some.injEq, Prod.mk.injEq] at H
                  obtain ⟨rfl, rfl⟩ := H
                  have p381 : 0 ≤ (x6_2 : Int) := of_decide_eq_true (by first | (with_reducible assumption) | assumption)
                  have q381 : x6_2 < (l0.length : Int) := of_decide_eq_true (by first | (with_reducible assumption) | assumption)
                  obtain ⟨ad381, e381, hx381_0, hx381_1, hx381_2⟩ := at_T35 HR0.out x6_2 p381 q381
                  cases e381
                  replace hx381_0 := (HB.out.cell (World.block_lt_of_cell? w _ hx381_0)).trans hx381_0
                  replace hx381_1 := (HB.out.cell (World.block_lt_of_cell? w _ hx381_1)).trans hx381_1
                  replace hx381_2 := (HB.out.cell (World.block_lt_of_cell? w _ hx381_2)).trans hx381_2
                  replace p381 := eq_true p381
                  replace q381 := eq_true q381
                  go_wp2_with (first | (go_at_call 34; (with_reducible refine (rowlockref14_Right.calls ((rd_T35 l0 x6_2).f0) ((rd_T35 l0 x6_2).f1) ((rd_T35 l0 x6_2).f2) false _ A8.out).mono ?_); rintro e w11 ⟨rfl, hb⟩; have n0_ := Aside0.mk (below_step (by repeat (first | (with_reducible first | exact HB.out | apply below_alloc | apply pw_below_drewN | apply below_drew1) | exact HB.out)) hb); clear HB; have HB := n0_; clear n0_; (try clear hb); (try clear hb2); (try clear hk); (try clear hi)))
                  repeat (go_quiet (first | (go_at_call 34; (with_reducible refine (rowlockref14_Right.calls ((rd_T35 l0 x6_2).f0) ((rd_T35 l0 x6_2).f1) ((rd_T35 l0 x6_2).f2) false _ A8.out).mono ?_); rintro e w11 ⟨rfl, hb⟩; have n0_ := Aside0.mk (below_step (by repeat (first | (with_reducible first | exact HB.out | apply below_alloc | apply pw_below_drewN | apply below_drew1) | exact HB.out)) hb); clear HB; have HB := n0_; clear n0_; (try clear hb); (try clear hb2); (try clear hk); (try clear hi))); try go_wp2_with (first | (go_at_call 34; (with_reducible refine (rowlockref14_Right.calls ((rd_T35 l0 x6_2).f0) ((rd_T35 l0 x6_2).f1) ((rd_T35 l0 x6_2).f2) false _ A8.out).mono ?_); rintro e w11 ⟨rfl, hb⟩; have n0_ := Aside0.mk (below_step (by repeat (first | (with_reducible first | exact HB.out | apply below_alloc | apply pw_below_drewN | apply below_drew1) | exact HB.out)) hb); clear HB; have HB := n0_; clear n0_; (try clear hb); (try clear hb2); (try clear hk); (try clear hi))))
                  go_ret2
                  exact ⟨by first | rfl | (simp [errW_none, errW_some] <;> rfl) | (simp [*, errW_none, errW_some] <;> rfl), by repeat (first | (with_reducible first | exact HB.out | apply below_alloc | apply pw_below_drewN | apply below_drew1) | exact HB.out)⟩
              · rw [if_neg c7] at H
                exact absurd H (by simp)
            · rw [if_neg c6] at H
              have c6b0 : decide (x6_2 < (l0.length : Int)) = false := decide_eq_false c6
              clear c6
              replace H := Option.bind_eq_some_iff.mp H
              obtain ⟨⟨t383, t384, t385⟩, A120, H⟩ := H
              replace H : (if t385 = 0 then (rowlockref15_Check.l1 k2 l0 a1 t383 0) else (some (t384, t385))) = some (r1, r2) := H
              have A12 := Aside0.mk A120
              clear A120
              by_cases c13 : t385 = 0
              · rw [if_pos c13] at H
                have c13b0 : (t385 == 0) = true := beq_iff_eq.mpr c13
                have c13b1 : (t385 != 0) = false := bne_eq_false_iff_eq.mpr c13
                clear c13
                have H' := Aside0.mk H
                clear H
                go_wp2_with (first | (go_at_call 35; (with_reducible refine (rowlockref15_Regions.calls k2 _ _ l0 t383 t384 t385 _ ?side1 ?side2 A12.out).mono ?_); (case side1 => repeat (first | exact (Kd.C_below HR0.out HB.out) | (with_reducible refine Kd.C_alloc ?_ _) | (with_reducible refine Kd.C_drewN ?_ _) | (with_reducible refine Kd.C_drew ?_))); (case side2 => exact HC0.out); rintro e w14 ⟨v386, rfl, ho0, hb⟩; have n0_ := Aside0.mk (Kd.R_lower ho0 (below_size (by repeat (first | (with_reducible first | exact HB.out | apply below_alloc | apply pw_below_drewN | apply below_drew1) | exact HB.out)))); have n1_ := Aside0.mk (below_step (by repeat (first | (with_reducible first | exact HB.out | apply below_alloc | apply pw_below_drewN | apply below_drew1) | exact HB.out)) hb); clear HB; have HO387 := n0_; have HB := n1_; clear n0_ n1_; (try clear hb); (try clear hb2); (try clear hk); (try clear hi); (try clear ho0)))
                repeat (go_quiet (first | (go_at_call 35; (with_reducible refine (rowlockref15_Regions.calls k2 _ _ l0 t383 t384 t385 _ ?side1 ?side2 A12.out).mono ?_); (case side1 => repeat (first | exact (Kd.C_below HR0.out HB.out) | (with_reducible refine Kd.C_alloc ?_ _) | (with_reducible refine Kd.C_drewN ?_ _) | (with_reducible refine Kd.C_drew ?_))); (case side2 => exact HC0.out); rintro e w14 ⟨v386, rfl, ho0, hb⟩; have n0_ := Aside0.mk (Kd.R_lower ho0 (below_size (by repeat (first | (with_reducible first | exact HB.out | apply below_alloc | apply pw_below_drewN | apply below_drew1) | exact HB.out)))); have n1_ := Aside0.mk (below_step (by repeat (first | (with_reducible first | exact HB.out | apply below_alloc | apply pw_below_drewN | apply below_drew1) | exact HB.out)) hb); clear HB; have HO387 := n0_; have HB := n1_; clear n0_ n1_; (try clear hb); (try clear hb2); (try clear hk); (try clear hi); (try clear ho0))); try go_wp2_with (first | (go_at_call 35; (with_reducible refine (rowlockref15_Regions.calls k2 _ _ l0 t383 t384 t385 _ ?side1 ?side2 A12.out).mono ?_); (case side1 => repeat (first | exact (Kd.C_below HR0.out HB.out) | (with_reducible refine Kd.C_alloc ?_ _) | (with_reducible refine Kd.C_drewN ?_ _) | (with_reducible refine Kd.C_drew ?_))); (case side2 => exact HC0.out); rintro e w14 ⟨v386, rfl, ho0, hb⟩; have n0_ := Aside0.mk (Kd.R_lower ho0 (below_size (by repeat (first | (with_reducible first | exact HB.out | apply below_alloc | apply pw_below_drewN | apply below_drew1) | exact HB.out)))); have n1_ := Aside0.mk (below_step (by repeat (first | (with_reducible first | exact HB.out | apply below_alloc | apply pw_below_drewN | apply below_drew1) | exact HB.out)) hb); clear HB; have HO387 := n0_; have HB := n1_; clear n0_ n1_; (try clear hb); (try clear hb2); (try clear hk); (try clear hi); (try clear ho0))))
                go_loopg [10] k2 (fun kq v10 w' => ∃ (x10_3 : Int), v10 = .int .i64 x10_3 ∧ Aside0 (rowlockref15_Check.l1 kq l0 a1 t383 x10_3 = some (r1, r2)) ∧ Aside0 (kq ≤ k2) ∧ Aside0 (Kd.R (Kd.int .i64) 3 w' w.heap.size (fun _ => True) v386 t383) ∧ Aside0 (Below w.heap.size w w'))
                case atStart => exact ⟨(0), (by first | rfl | (simp; done) | (simp [*]; done)), H', ⟨Nat.le_refl _⟩, ⟨by (with_reducible repeat (first | apply Kd.R_alloc | apply Kd.R_drewN | apply Kd.R_drew)); exact HO387.out⟩, ⟨by repeat (first | (with_reducible first | exact HB.out | apply below_alloc | apply pw_below_drewN | apply below_drew1) | exact HB.out)⟩⟩
                case round =>
                  clear H'
                  try clear c1
                  try clear p2
                  try clear p3
                  try clear q3
                  try clear hx3
                  try clear c4
                  try clear c4b0
                  try clear c4b1
                  try clear c5
                  try clear c6
                  try clear c6b0
                  try clear p6
                  try clear c7
                  try clear c7b0
                  try clear c9
                  try clear c10
                  try clear c13
                  try clear c13b0
                  try clear c13b1
                  try clear hx381_0
                  try clear hx381_1
                  try clear hx381_2
                  try clear p2
                  try clear p381
                  try clear q381
                  obtain ⟨x10_3, rfl, HA, HK3, HO_7, HB⟩ := hrel
                  cases gk with
                  | zero => exact absurd HA.out (by simp [rowlockref15_Check.l1])
                  | succ k3 =>
                    have H := HA.out
                    clear HA
                    simp only [rowlockref15_Check.l1] at H
                    by_cases c15 : x10_3 < (l0.length : Int)
                    · rw [if_pos c15] at H
                      have c15b0 : decide (x10_3 < (l0.length : Int)) = true := decide_eq_true c15
                      clear c15
                      by_cases c16 : 0 ≤ x10_3
                      · rw [if_pos c16] at H
                        have c16b0 : decide (0 ≤ x10_3) = true := decide_eq_true c16
                        clear c16
                        have HC17 := Aside0.mk H
                        clear H
                        have p388 : 0 ≤ (x10_3 : Int) := of_decide_eq_true (by first | (with_reducible assumption) | assumption)
                        have q388 : x10_3 < (l0.length : Int) := of_decide_eq_true (by first | (with_reducible assumption) | assumption)
                        obtain ⟨ad388, e388, hx388_0, hx388_1, hx388_2⟩ := at_T35 HR0.out x10_3 p388 q388
                        cases e388
                        replace hx388_0 := (HB.out.cell (World.block_lt_of_cell? w _ hx388_0)).trans hx388_0
                        replace hx388_1 := (HB.out.cell (World.block_lt_of_cell? w _ hx388_1)).trans hx388_1
                        replace hx388_2 := (HB.out.cell (World.block_lt_of_cell? w _ hx388_2)).trans hx388_2
                        replace p388 := eq_true p388
                        replace q388 := eq_true q388
                        go_upto_region 15 with (fail)
                        repeat (go_quiet (fail); go_upto_region 15 with (fail))
                        go_cut [61] (fun v61 wc => ∃ (kq : Nat) (x61_16 : Bool), v61 = .bool x61_16 ∧ Aside0 (rowlockref15_Check.j3 kq l0 a1 t383 x10_3 ((rd_T35 l0 x10_3).f0) x61_16 = some (r1, r2)) ∧ Aside0 (kq ≤ k3) ∧ Aside0 (Kd.R (Kd.int .i64) 3 wc w.heap.size (fun _ => True) v386 t383) ∧ Aside0 (Below w.heap.size w wc))
                        case first =>
                          have H := HC17.out
                          clear HC17
                          replace H := Option.bind_eq_some_iff.mp H
                          obtain ⟨t389, A180, H⟩ := H
                          replace H : (if t389 = true then (rowlockref15_Check.j3 k3 l0 a1 t383 x10_3 ((rd_T35 l0 x10_3).f0) true) else (rowlockref15_Check.j3 k3 l0 a1 t383 x10_3 ((rd_T35 l0 x10_3).f0) (((rd_T35 l0 x10_3).f0) == 26))) = some (r1, r2) := H
                          have A18 := Aside0.mk A180
                          clear A180
                          by_cases c19 : t389 = true
                          · subst c19
                            have H1 : (rowlockref15_Check.j3 k3 l0 a1 t383 x10_3 ((rd_T35 l0 x10_3).f0) true) = some (r1, r2) := by rw [if_pos rfl] at H; exact H
                            clear H
                            have H := H1
                            clear H1
                            have H' := Aside0.mk H
                            clear H
                            go_wp2_with (first | (go_at_call 36; (with_reducible refine (rowlockref15_variable.calls ((rd_T35 l0 x10_3).f0) true _ A18.out).mono ?_); rintro e w' ⟨rfl, ⟨nd, rfl⟩⟩; (try first | exact ⟨rfl, _, World.drewN_drewN _ _ _⟩ | exact ⟨rfl, _, Eq.trans (World.drewN_drewN _ _ _) (congrArg (World.drewN _) (Nat.add_assoc _ _ _))⟩)))
                            repeat (go_quiet (first | (go_at_call 36; (with_reducible refine (rowlockref15_variable.calls ((rd_T35 l0 x10_3).f0) true _ A18.out).mono ?_); rintro e w' ⟨rfl, ⟨nd, rfl⟩⟩; (try first | exact ⟨rfl, _, World.drewN_drewN _ _ _⟩ | exact ⟨rfl, _, Eq.trans (World.drewN_drewN _ _ _) (congrArg (World.drewN _) (Nat.add_assoc _ _ _))⟩))); try go_wp2_with (first | (go_at_call 36; (with_reducible refine (rowlockref15_variable.calls ((rd_T35 l0 x10_3).f0) true _ A18.out).mono ?_); rintro e w' ⟨rfl, ⟨nd, rfl⟩⟩; (try first | exact ⟨rfl, _, World.drewN_drewN _ _ _⟩ | exact ⟨rfl, _, Eq.trans (World.drewN_drewN _ _ _) (congrArg (World.drewN _) (Nat.add_assoc _ _ _))⟩))))
                            go_meet
                            case rel => exact ⟨_, (true), (by first | rfl | (simp; done) | (simp [*]; done)), H', ⟨by have := HJ2.out; have := HK2.out; have := HK3.out; first | omega | exact Nat.le_refl _⟩, ⟨by (with_reducible repeat (first | apply Kd.R_alloc | apply Kd.R_drewN | apply Kd.R_drew)); exact HO_7.out⟩, ⟨by repeat (first | (with_reducible first | exact HB.out | apply below_alloc | apply pw_below_drewN | apply below_drew1) | exact HB.out)⟩⟩
                          · replace c19 := Bool.eq_false_iff.mpr c19
                            subst c19
                            have H1 : (rowlockref15_Check.j3 k3 l0 a1 t383 x10_3 ((rd_T35 l0 x10_3).f0) (((rd_T35 l0 x10_3).f0) == 26)) = some (r1, r2) := by rw [if_neg (show ¬ (false = true) by decide)] at H; exact H
                            clear H
                            have H := H1
                            clear H1
                            have H' := Aside0.mk H
                            clear H
                            go_wp2_with (first | (go_at_call 36; (with_reducible refine (rowlockref15_variable.calls ((rd_T35 l0 x10_3).f0) false _ A18.out).mono ?_); rintro e w' ⟨rfl, ⟨nd, rfl⟩⟩; (try first | exact ⟨rfl, _, World.drewN_drewN _ _ _⟩ | exact ⟨rfl, _, Eq.trans (World.drewN_drewN _ _ _) (congrArg (World.drewN _) (Nat.add_assoc _ _ _))⟩)))
                            repeat (go_quiet (first | (go_at_call 36; (with_reducible refine (rowlockref15_variable.calls ((rd_T35 l0 x10_3).f0) false _ A18.out).mono ?_); rintro e w' ⟨rfl, ⟨nd, rfl⟩⟩; (try first | exact ⟨rfl, _, World.drewN_drewN _ _ _⟩ | exact ⟨rfl, _, Eq.trans (World.drewN_drewN _ _ _) (congrArg (World.drewN _) (Nat.add_assoc _ _ _))⟩))); try go_wp2_with (first | (go_at_call 36; (with_reducible refine (rowlockref15_variable.calls ((rd_T35 l0 x10_3).f0) false _ A18.out).mono ?_); rintro e w' ⟨rfl, ⟨nd, rfl⟩⟩; (try first | exact ⟨rfl, _, World.drewN_drewN _ _ _⟩ | exact ⟨rfl, _, Eq.trans (World.drewN_drewN _ _ _) (congrArg (World.drewN _) (Nat.add_assoc _ _ _))⟩))))
                            go_meet
                            case rel => exact ⟨_, ((((rd_T35 l0 x10_3).f0) == 26)), (by first | rfl | (simp; done) | (simp [*]; done)), H', ⟨by have := HJ2.out; have := HK2.out; have := HK3.out; first | omega | exact Nat.le_refl _⟩, ⟨by (with_reducible repeat (first | apply Kd.R_alloc | apply Kd.R_drewN | apply Kd.R_drew)); exact HO_7.out⟩, ⟨by repeat (first | (with_reducible first | exact HB.out | apply below_alloc | apply pw_below_drewN | apply below_drew1) | exact HB.out)⟩⟩
                        case rest =>
                          clear HC17
                          try clear c1
                          try clear p2
                          try clear p3
                          try clear q3
                          try clear hx3
                          try clear c4
                          try clear c4b0
                          try clear c4b1
                          try clear c5
                          try clear c6
                          try clear c6b0
                          try clear p6
                          try clear c7
                          try clear c7b0
                          try clear c9
                          try clear c10
                          try clear c13
                          try clear c13b0
                          try clear c13b1
                          try clear c15
                          try clear c15b0
                          try clear c16
                          try clear c16b0
                          try clear c19
                          try clear hx381_0
                          try clear hx381_1
                          try clear hx381_2
                          try clear hx388_0
                          try clear hx388_1
                          try clear hx388_2
                          try clear p2
                          try clear p3
                          try clear p381
                          try clear p388
                          try clear p6
                          try clear q3
                          try clear q381
                          try clear q388
                          obtain ⟨kq, x61_16, rfl, HA, HJ16, HO_7, HB⟩ := hcut
                          cases kq with
                          | zero => exact absurd HA.out (by simp [rowlockref15_Check.j3])
                          | succ kj16 =>
                            have H := HA.out
                            clear HA
                            simp only [rowlockref15_Check.j3] at H
                            by_cases c20 : x61_16 = true
                            · subst c20
                              have H1 : (if 0 ≤ x10_3 then (if x10_3 < (t383.length : Int) then (if (rd t383 x10_3) < 0 then (some (x10_3, 8)) else (if ((rd_T35 l0 x10_3).f0) = 27 then (if (rd t383 x10_3) ≥ 0 then (some (x10_3, 8)) else (rowlockref15_Check.l1 kj16 l0 a1 t383 (wrap64 (x10_3 + 1)))) else (if ((rd_T35 l0 x10_3).f0) = 28 then (if (rd t383 x10_3) ≥ 0 then (some (x10_3, 8)) else (rowlockref15_Check.l1 kj16 l0 a1 t383 (wrap64 (x10_3 + 1)))) else (rowlockref15_Check.l1 kj16 l0 a1 t383 (wrap64 (x10_3 + 1)))))) else (none)) else (none)) = some (r1, r2) := by rw [if_pos rfl] at H; exact H
                              clear H
                              have H := H1
                              clear H1
                              by_cases c21 : 0 ≤ x10_3
                              · rw [if_pos c21] at H
                                have c21b0 : decide (0 ≤ x10_3) = true := decide_eq_true c21
                                clear c21
                                by_cases c22 : x10_3 < (t383.length : Int)
                                · rw [if_pos c22] at H
                                  have c22b0 : decide (x10_3 < (t383.length : Int)) = true := decide_eq_true c22
                                  clear c22
                                  by_cases c23 : (rd t383 x10_3) < 0
                                  · rw [if_pos c23] at H
                                    have c23b0 : decide ((rd t383 x10_3) < 0) = true := decide_eq_true c23
                                    clear c23
                                    simp only [Option.some.injEq, Prod.mk.injEq] at H
                                    obtain ⟨rfl, rfl⟩ := H
                                    obtain ⟨Ao24, co24, eo24⟩ := Kd.R_slice HO_7.out
                                    subst eo24
                                    have p390 : 0 ≤ (x10_3 : Int) := of_decide_eq_true (by first | (with_reducible assumption) | assumption)
                                    have q390 : x10_3 < (t383.length : Int) := of_decide_eq_true (by first | (with_reducible assumption) | assumption)
                                    obtain ⟨ad390, e390, hx390_0⟩ := Kd.at_int (Kd.R_reads' HO_7.out).2.2 x10_3 p390 q390
                                    cases e390
                                    replace p390 := eq_true p390
                                    replace q390 := eq_true q390
                                    go_wp2
                                    repeat (go_quiet (fail); try go_wp2)
                                    go_ret2
                                    exact ⟨by first | rfl | (simp [errW_none, errW_some] <;> rfl) | (simp [*, errW_none, errW_some] <;> rfl), by repeat (first | (with_reducible first | exact HB.out | apply below_alloc | apply pw_below_drewN | apply below_drew1) | exact HB.out)⟩
                                  · rw [if_neg c23] at H
                                    have c23b0 : decide ((rd t383 x10_3) < 0) = false := decide_eq_false c23
                                    clear c23
                                    by_cases c25 : ((rd_T35 l0 x10_3).f0) = 27
                                    · rw [if_pos c25] at H
                                      have c25b0 : (((rd_T35 l0 x10_3).f0) == 27) = true := beq_iff_eq.mpr c25
                                      have c25b1 : (((rd_T35 l0 x10_3).f0) != 27) = false := bne_eq_false_iff_eq.mpr c25
                                      clear c25
                                      by_cases c26 : (rd t383 x10_3) ≥ 0
                                      · rw [if_pos c26] at H
                                        have c26b0 : decide (0 ≤ (rd t383 x10_3)) = true := decide_eq_true c26
                                        clear c26
                                        simp only [Option.some.injEq, Prod.mk.injEq] at H
                                        obtain ⟨rfl, rfl⟩ := H
                                        obtain ⟨Ao27, co27, eo27⟩ := Kd.R_slice HO_7.out
                                        subst eo27
                                        have p390 : 0 ≤ (x10_3 : Int) := of_decide_eq_true (by first | (with_reducible assumption) | assumption)
                                        have q390 : x10_3 < (t383.length : Int) := of_decide_eq_true (by first | (with_reducible assumption) | assumption)
                                        obtain ⟨ad390, e390, hx390_0⟩ := Kd.at_int (Kd.R_reads' HO_7.out).2.2 x10_3 p390 q390
                                        cases e390
                                        replace p390 := eq_true p390
                                        replace q390 := eq_true q390
                                        have p391 : 0 ≤ (x10_3 : Int) := of_decide_eq_true (by first | (with_reducible assumption) | assumption)
                                        have q391 : x10_3 < (t383.length : Int) := of_decide_eq_true (by first | (with_reducible assumption) | assumption)
                                        obtain ⟨ad391, e391, hx391_0⟩ := Kd.at_int (Kd.R_reads' HO_7.out).2.2 x10_3 p391 q391
                                        obtain rfl : ad390 = ad391 := (by injection e391)
                                        replace p391 := eq_true p391
                                        replace q391 := eq_true q391
                                        go_wp2
                                        repeat (go_quiet (fail); try go_wp2)
                                        go_ret2
                                        exact ⟨by first | rfl | (simp [errW_none, errW_some] <;> rfl) | (simp [*, errW_none, errW_some] <;> rfl), by repeat (first | (with_reducible first | exact HB.out | apply below_alloc | apply pw_below_drewN | apply below_drew1) | exact HB.out)⟩
                                      · rw [if_neg c26] at H
                                        have c26b0 : decide (0 ≤ (rd t383 x10_3)) = false := decide_eq_false c26
                                        clear c26
                                        have H' := Aside0.mk H
                                        clear H
                                        obtain ⟨Ao28, co28, eo28⟩ := Kd.R_slice HO_7.out
                                        subst eo28
                                        have p390 : 0 ≤ (x10_3 : Int) := of_decide_eq_true (by first | (with_reducible assumption) | assumption)
                                        have q390 : x10_3 < (t383.length : Int) := of_decide_eq_true (by first | (with_reducible assumption) | assumption)
                                        obtain ⟨ad390, e390, hx390_0⟩ := Kd.at_int (Kd.R_reads' HO_7.out).2.2 x10_3 p390 q390
                                        cases e390
                                        replace p390 := eq_true p390
                                        replace q390 := eq_true q390
                                        have p391 : 0 ≤ (x10_3 : Int) := of_decide_eq_true (by first | (with_reducible assumption) | assumption)
                                        have q391 : x10_3 < (t383.length : Int) := of_decide_eq_true (by first | (with_reducible assumption) | assumption)
                                        obtain ⟨ad391, e391, hx391_0⟩ := Kd.at_int (Kd.R_reads' HO_7.out).2.2 x10_3 p391 q391
                                        obtain rfl : ad390 = ad391 := (by injection e391)
                                        replace p391 := eq_true p391
                                        replace q391 := eq_true q391
                                        go_wp2
                                        repeat (go_quiet (fail); try go_wp2)
                                        go_roundg kj16
                                        case measure => have := HJ2.out; have := HK2.out; have := HK3.out; have := HJ16.out; omega
                                        case rel => exact ⟨(wrap64 (x10_3 + 1)), (by first | rfl | (simp; done) | (simp [*]; done)), H', ⟨by have := HJ2.out; have := HK2.out; have := HK3.out; have := HJ16.out; omega⟩, ⟨by (with_reducible repeat (first | apply Kd.R_alloc | apply Kd.R_drewN | apply Kd.R_drew)); exact HO_7.out⟩, ⟨by repeat (first | (with_reducible first | exact HB.out | apply below_alloc | apply pw_below_drewN | apply below_drew1) | exact HB.out)⟩⟩
                                    · rw [if_neg c25] at H
                                      have c25b0 : (((rd_T35 l0 x10_3).f0) == 27) = false := beq_eq_false_iff_ne.mpr c25
                                      have c25b1 : (((rd_T35 l0 x10_3).f0) != 27) = true := bne_iff_ne.mpr c25
                                      by_cases c29 : ((rd_T35 l0 x10_3).f0) = 28
                                      · rw [if_pos c29] at H
                                        have c29b0 : (((rd_T35 l0 x10_3).f0) == 28) = true := beq_iff_eq.mpr c29
                                        have c29b1 : (((rd_T35 l0 x10_3).f0) != 28) = false := bne_eq_false_iff_eq.mpr c29
                                        clear c29
                                        by_cases c30 : (rd t383 x10_3) ≥ 0
                                        · rw [if_pos c30] at H
                                          have c30b0 : decide (0 ≤ (rd t383 x10_3)) = true := decide_eq_true c30
                                          clear c30
                                          simp only [Option.some.injEq, Prod.mk.injEq] at H
                                          obtain ⟨rfl, rfl⟩ := H
                                          obtain ⟨Ao31, co31, eo31⟩ := Kd.R_slice HO_7.out
                                          subst eo31
                                          have p390 : 0 ≤ (x10_3 : Int) := of_decide_eq_true (by first | (with_reducible assumption) | assumption)
                                          have q390 : x10_3 < (t383.length : Int) := of_decide_eq_true (by first | (with_reducible assumption) | assumption)
                                          obtain ⟨ad390, e390, hx390_0⟩ := Kd.at_int (Kd.R_reads' HO_7.out).2.2 x10_3 p390 q390
                                          cases e390
                                          replace p390 := eq_true p390
                                          replace q390 := eq_true q390
                                          have p392 : 0 ≤ (x10_3 : Int) := of_decide_eq_true (by first | (with_reducible assumption) | assumption)
                                          have q392 : x10_3 < (t383.length : Int) := of_decide_eq_true (by first | (with_reducible assumption) | assumption)
                                          obtain ⟨ad392, e392, hx392_0⟩ := Kd.at_int (Kd.R_reads' HO_7.out).2.2 x10_3 p392 q392
                                          obtain rfl : ad390 = ad392 := (by injection e392)
                                          replace p392 := eq_true p392
                                          replace q392 := eq_true q392
                                          go_wp2
                                          repeat (go_quiet (fail); try go_wp2)
                                          go_ret2
                                          exact ⟨by first | rfl | (simp [errW_none, errW_some] <;> rfl) | (simp [*, errW_none, errW_some] <;> rfl), by repeat (first | (with_reducible first | exact HB.out | apply below_alloc | apply pw_below_drewN | apply below_drew1) | exact HB.out)⟩
                                        · rw [if_neg c30] at H
                                          have c30b0 : decide (0 ≤ (rd t383 x10_3)) = false := decide_eq_false c30
                                          clear c30
                                          have H' := Aside0.mk H
                                          clear H
                                          obtain ⟨Ao32, co32, eo32⟩ := Kd.R_slice HO_7.out
                                          subst eo32
                                          have p390 : 0 ≤ (x10_3 : Int) := of_decide_eq_true (by first | (with_reducible assumption) | assumption)
                                          have q390 : x10_3 < (t383.length : Int) := of_decide_eq_true (by first | (with_reducible assumption) | assumption)
                                          obtain ⟨ad390, e390, hx390_0⟩ := Kd.at_int (Kd.R_reads' HO_7.out).2.2 x10_3 p390 q390
                                          cases e390
                                          replace p390 := eq_true p390
                                          replace q390 := eq_true q390
                                          have p392 : 0 ≤ (x10_3 : Int) := of_decide_eq_true (by first | (with_reducible assumption) | assumption)
                                          have q392 : x10_3 < (t383.length : Int) := of_decide_eq_true (by first | (with_reducible assumption) | assumption)
                                          obtain ⟨ad392, e392, hx392_0⟩ := Kd.at_int (Kd.R_reads' HO_7.out).2.2 x10_3 p392 q392
                                          obtain rfl : ad390 = ad392 := (by injection e392)
                                          replace p392 := eq_true p392
                                          replace q392 := eq_true q392
                                          go_wp2
                                          repeat (go_quiet (fail); try go_wp2)
                                          go_roundg kj16
                                          case measure => have := HJ2.out; have := HK2.out; have := HK3.out; have := HJ16.out; omega
                                          case rel => exact ⟨(wrap64 (x10_3 + 1)), (by first | rfl | (simp; done) | (simp [*]; done)), H', ⟨by have := HJ2.out; have := HK2.out; have := HK3.out; have := HJ16.out; omega⟩, ⟨by (with_reducible repeat (first | apply Kd.R_alloc | apply Kd.R_drewN | apply Kd.R_drew)); exact HO_7.out⟩, ⟨by repeat (first | (with_reducible first | exact HB.out | apply below_alloc | apply pw_below_drewN | apply below_drew1) | exact HB.out)⟩⟩
                                      · rw [if_neg c29] at H
                                        have c29b0 : (((rd_T35 l0 x10_3).f0) == 28) = false := beq_eq_false_iff_ne.mpr c29
                                        have c29b1 : (((rd_T35 l0 x10_3).f0) != 28) = true := bne_iff_ne.mpr c29
                                        have H' := Aside0.mk H
                                        clear H
                                        obtain ⟨Ao33, co33, eo33⟩ := Kd.R_slice HO_7.out
                                        subst eo33
                                        have p390 : 0 ≤ (x10_3 : Int) := of_decide_eq_true (by first | (with_reducible assumption) | assumption)
                                        have q390 : x10_3 < (t383.length : Int) := of_decide_eq_true (by first | (with_reducible assumption) | assumption)
                                        obtain ⟨ad390, e390, hx390_0⟩ := Kd.at_int (Kd.R_reads' HO_7.out).2.2 x10_3 p390 q390
                                        cases e390
                                        replace p390 := eq_true p390
                                        replace q390 := eq_true q390
                                        go_wp2
                                        repeat (go_quiet (fail); try go_wp2)
                                        go_roundg kj16
                                        case measure => have := HJ2.out; have := HK2.out; have := HK3.out; have := HJ16.out; omega
                                        case rel => exact ⟨(wrap64 (x10_3 + 1)), (by first | rfl | (simp; done) | (simp [*]; done)), H', ⟨by have := HJ2.out; have := HK2.out; have := HK3.out; have := HJ16.out; omega⟩, ⟨by (with_reducible repeat (first | apply Kd.R_alloc | apply Kd.R_drewN | apply Kd.R_drew)); exact HO_7.out⟩, ⟨by repeat (first | (with_reducible first | exact HB.out | apply below_alloc | apply pw_below_drewN | apply below_drew1) | exact HB.out)⟩⟩
                                · rw [if_neg c22] at H
                                  exact absurd H (by simp)
                              · rw [if_neg c21] at H
                                exact absurd H (by simp)
                            · replace c20 := Bool.eq_false_iff.mpr c20
                              subst c20
                              have H1 : (if ((rd_T35 l0 x10_3).f0) = 27 then (if 0 ≤ x10_3 then (if x10_3 < (t383.length : Int) then (if (rd t383 x10_3) ≥ 0 then (some (x10_3, 8)) else (rowlockref15_Check.l1 kj16 l0 a1 t383 (wrap64 (x10_3 + 1)))) else (none)) else (none)) else (if ((rd_T35 l0 x10_3).f0) = 28 then (if 0 ≤ x10_3 then (if x10_3 < (t383.length : Int) then (if (rd t383 x10_3) ≥ 0 then (some (x10_3, 8)) else (rowlockref15_Check.l1 kj16 l0 a1 t383 (wrap64 (x10_3 + 1)))) else (none)) else (none)) else (rowlockref15_Check.l1 kj16 l0 a1 t383 (wrap64 (x10_3 + 1))))) = some (r1, r2) := by rw [if_neg (show ¬ (false = true) by decide)] at H; exact H
                              clear H
                              have H := H1
                              clear H1
                              by_cases c34 : ((rd_T35 l0 x10_3).f0) = 27
                              · rw [if_pos c34] at H
                                have c34b0 : (((rd_T35 l0 x10_3).f0) == 27) = true := beq_iff_eq.mpr c34
                                have c34b1 : (((rd_T35 l0 x10_3).f0) != 27) = false := bne_eq_false_iff_eq.mpr c34
                                clear c34
                                by_cases c35 : 0 ≤ x10_3
                                · rw [if_pos c35] at H
                                  have c35b0 : decide (0 ≤ x10_3) = true := decide_eq_true c35
                                  clear c35
                                  by_cases c36 : x10_3 < (t383.length : Int)
                                  · rw [if_pos c36] at H
                                    have c36b0 : decide (x10_3 < (t383.length : Int)) = true := decide_eq_true c36
                                    clear c36
                                    by_cases c37 : (rd t383 x10_3) ≥ 0
                                    · rw [if_pos c37] at H
                                      have c37b0 : decide (0 ≤ (rd t383 x10_3)) = true := decide_eq_true c37
                                      clear c37
                                      simp only [Option.some.injEq, Prod.mk.injEq] at H
                                      obtain ⟨rfl, rfl⟩ := H
                                      obtain ⟨Ao38, co38, eo38⟩ := Kd.R_slice HO_7.out
                                      subst eo38
                                      have p393 : 0 ≤ (x10_3 : Int) := of_decide_eq_true (by first | (with_reducible assumption) | assumption)
                                      have q393 : x10_3 < (t383.length : Int) := of_decide_eq_true (by first | (with_reducible assumption) | assumption)
                                      obtain ⟨ad393, e393, hx393_0⟩ := Kd.at_int (Kd.R_reads' HO_7.out).2.2 x10_3 p393 q393
                                      cases e393
                                      replace p393 := eq_true p393
                                      replace q393 := eq_true q393
                                      go_wp2
                                      repeat (go_quiet (fail); try go_wp2)
                                      go_ret2
                                      exact ⟨by first | rfl | (simp [errW_none, errW_some] <;> rfl) | (simp [*, errW_none, errW_some] <;> rfl), by repeat (first | (with_reducible first | exact HB.out | apply below_alloc | apply pw_below_drewN | apply below_drew1) | exact HB.out)⟩
                                    · rw [if_neg c37] at H
                                      have c37b0 : decide (0 ≤ (rd t383 x10_3)) = false := decide_eq_false c37
                                      clear c37
                                      have H' := Aside0.mk H
                                      clear H
                                      obtain ⟨Ao39, co39, eo39⟩ := Kd.R_slice HO_7.out
                                      subst eo39
                                      have p393 : 0 ≤ (x10_3 : Int) := of_decide_eq_true (by first | (with_reducible assumption) | assumption)
                                      have q393 : x10_3 < (t383.length : Int) := of_decide_eq_true (by first | (with_reducible assumption) | assumption)
                                      obtain ⟨ad393, e393, hx393_0⟩ := Kd.at_int (Kd.R_reads' HO_7.out).2.2 x10_3 p393 q393
                                      cases e393
                                      replace p393 := eq_true p393
                                      replace q393 := eq_true q393
                                      go_wp2
                                      repeat (go_quiet (fail); try go_wp2)
                                      go_roundg kj16
                                      case measure => have := HJ2.out; have := HK2.out; have := HK3.out; have := HJ16.out; omega
                                      case rel => exact ⟨(wrap64 (x10_3 + 1)), (by first | rfl | (simp; done) | (simp [*]; done)), H', ⟨by have := HJ2.out; have := HK2.out; have := HK3.out; have := HJ16.out; omega⟩, ⟨by (with_reducible repeat (first | apply Kd.R_alloc | apply Kd.R_drewN | apply Kd.R_drew)); exact HO_7.out⟩, ⟨by repeat (first | (with_reducible first | exact HB.out | apply below_alloc | apply pw_below_drewN | apply below_drew1) | exact HB.out)⟩⟩
                                  · rw [if_neg c36] at H
                                    exact absurd H (by simp)
                                · rw [if_neg c35] at H
                                  exact absurd H (by simp)
                              · rw [if_neg c34] at H
                                have c34b0 : (((rd_T35 l0 x10_3).f0) == 27) = false := beq_eq_false_iff_ne.mpr c34
                                have c34b1 : (((rd_T35 l0 x10_3).f0) != 27) = true := bne_iff_ne.mpr c34
                                by_cases c40 : ((rd_T35 l0 x10_3).f0) = 28
                                · rw [if_pos c40] at H
                                  have c40b0 : (((rd_T35 l0 x10_3).f0) == 28) = true := beq_iff_eq.mpr c40
                                  have c40b1 : (((rd_T35 l0 x10_3).f0) != 28) = false := bne_eq_false_iff_eq.mpr c40
                                  clear c40
                                  by_cases c41 : 0 ≤ x10_3
                                  · rw [if_pos c41] at H
                                    have c41b0 : decide (0 ≤ x10_3) = true := decide_eq_true c41
                                    clear c41
                                    by_cases c42 : x10_3 < (t383.length : Int)
                                    · rw [if_pos c42] at H
                                      have c42b0 : decide (x10_3 < (t383.length : Int)) = true := decide_eq_true c42
                                      clear c42
                                      by_cases c43 : (rd t383 x10_3) ≥ 0
                                      · rw [if_pos c43] at H
                                        have c43b0 : decide (0 ≤ (rd t383 x10_3)) = true := decide_eq_true c43
                                        clear c43
                                        simp only [Option.some.injEq, Prod.mk.injEq] at H
                                        obtain ⟨rfl, rfl⟩ := H
                                        obtain ⟨Ao44, co44, eo44⟩ := Kd.R_slice HO_7.out
                                        subst eo44
                                        have p394 : 0 ≤ (x10_3 : Int) := of_decide_eq_true (by first | (with_reducible assumption) | assumption)
                                        have q394 : x10_3 < (t383.length : Int) := of_decide_eq_true (by first | (with_reducible assumption) | assumption)
                                        obtain ⟨ad394, e394, hx394_0⟩ := Kd.at_int (Kd.R_reads' HO_7.out).2.2 x10_3 p394 q394
                                        cases e394
                                        replace p394 := eq_true p394
                                        replace q394 := eq_true q394
                                        go_wp2
                                        repeat (go_quiet (fail); try go_wp2)
                                        go_ret2
                                        exact ⟨by first | rfl | (simp [errW_none, errW_some] <;> rfl) | (simp [*, errW_none, errW_some] <;> rfl), by repeat (first | (with_reducible first | exact HB.out | apply below_alloc | apply pw_below_drewN | apply below_drew1) | exact HB.out)⟩
                                      · rw [if_neg c43] at H
                                        have c43b0 : decide (0 ≤ (rd t383 x10_3)) = false := decide_eq_false c43
                                        clear c43
                                        have H' := Aside0.mk H
                                        clear H
                                        obtain ⟨Ao45, co45, eo45⟩ := Kd.R_slice HO_7.out
                                        subst eo45
                                        have p394 : 0 ≤ (x10_3 : Int) := of_decide_eq_true (by first | (with_reducible assumption) | assumption)
                                        have q394 : x10_3 < (t383.length : Int) := of_decide_eq_true (by first | (with_reducible assumption) | assumption)
                                        obtain ⟨ad394, e394, hx394_0⟩ := Kd.at_int (Kd.R_reads' HO_7.out).2.2 x10_3 p394 q394
                                        cases e394
                                        replace p394 := eq_true p394
                                        replace q394 := eq_true q394
                                        go_wp2
                                        repeat (go_quiet (fail); try go_wp2)
                                        go_roundg kj16
                                        case measure => have := HJ2.out; have := HK2.out; have := HK3.out; have := HJ16.out; omega
                                        case rel => exact ⟨(wrap64 (x10_3 + 1)), (by first | rfl | (simp; done) | (simp [*]; done)), H', ⟨by have := HJ2.out; have := HK2.out; have := HK3.out; have := HJ16.out; omega⟩, ⟨by (with_reducible repeat (first | apply Kd.R_alloc | apply Kd.R_drewN | apply Kd.R_drew)); exact HO_7.out⟩, ⟨by repeat (first | (with_reducible first | exact HB.out | apply below_alloc | apply pw_below_drewN | apply below_drew1) | exact HB.out)⟩⟩
                                    · rw [if_neg c42] at H
                                      exact absurd H (by simp)
                                  · rw [if_neg c41] at H
                                    exact absurd H (by simp)
                                · rw [if_neg c40] at H
                                  have c40b0 : (((rd_T35 l0 x10_3).f0) == 28) = false := beq_eq_false_iff_ne.mpr c40
                                  have c40b1 : (((rd_T35 l0 x10_3).f0) != 28) = true := bne_iff_ne.mpr c40
                                  have H' := Aside0.mk H
                                  clear H
                                  go_wp2
                                  repeat (go_quiet (fail); try go_wp2)
                                  go_roundg kj16
                                  case measure => have := HJ2.out; have := HK2.out; have := HK3.out; have := HJ16.out; omega
                                  case rel => exact ⟨(wrap64 (x10_3 + 1)), (by first | rfl | (simp; done) | (simp [*]; done)), H', ⟨by have := HJ2.out; have := HK2.out; have := HK3.out; have := HJ16.out; omega⟩, ⟨by (with_reducible repeat (first | apply Kd.R_alloc | apply Kd.R_drewN | apply Kd.R_drew)); exact HO_7.out⟩, ⟨by repeat (first | (with_reducible first | exact HB.out | apply below_alloc | apply pw_below_drewN | apply below_drew1) | exact HB.out)⟩⟩
                      · rw [if_neg c16] at H
                        exact absurd H (by simp)
                    · rw [if_neg c15] at H
                      have c15b0 : decide (x10_3 < (l0.length : Int)) = false := decide_eq_false c15
                      clear c15
                      have H' := Aside0.mk H
                      clear H
                      go_wp2
                      repeat (go_quiet (fail); try go_wp2)
                      go_loopg [12] k3 (fun kq v12 w' => ∃ (x12_4 : Int), v12 = .int .i64 x12_4 ∧ Aside0 (rowlockref15_Check.l2 kq l0 a1 t383 x12_4 = some (r1, r2)) ∧ Aside0 (kq ≤ k3) ∧ Aside0 (Kd.R (Kd.int .i64) 3 w' w.heap.size (fun _ => True) v386 t383) ∧ Aside0 (Below w.heap.size w w'))
                      case atStart => exact ⟨(0), (by first | rfl | (simp; done) | (simp [*]; done)), H', ⟨Nat.le_refl _⟩, ⟨by (with_reducible repeat (first | apply Kd.R_alloc | apply Kd.R_drewN | apply Kd.R_drew)); exact HO_7.out⟩, ⟨by repeat (first | (with_reducible first | exact HB.out | apply below_alloc | apply pw_below_drewN | apply below_drew1) | exact HB.out)⟩⟩
                      case round =>
                        clear H'
                        try clear c1
                        try clear c2
                        try clear p2
                        try clear c3
                        try clear p3
                        try clear q3
                        try clear hx3
                        try clear c4
                        try clear c4b0
                        try clear c4b1
                        try clear c5
                        try clear c6
                        try clear c6b0
                        try clear p6
                        try clear c7
                        try clear c7b0
                        try clear c9
                        try clear c10
                        try clear c13
                        try clear c13b0
                        try clear c13b1
                        try clear c15
                        try clear c15b0
                        try clear c16
                        try clear c16b0
                        try clear c19
                        try clear c20
                        try clear c21
                        try clear c21b0
                        try clear c22
                        try clear c22b0
                        try clear c23
                        try clear c23b0
                        try clear c25
                        try clear c25b0
                        try clear c25b1
                        try clear c26
                        try clear c26b0
                        try clear c29
                        try clear c29b0
                        try clear c29b1
                        try clear c30
                        try clear c30b0
                        try clear c34
                        try clear c34b0
                        try clear c34b1
                        try clear c35
                        try clear c35b0
                        try clear c36
                        try clear c36b0
                        try clear c37
                        try clear c37b0
                        try clear p38
                        try clear q38
                        try clear hx38
                        try clear p39
                        try clear q39
                        try clear hx39
                        try clear c40
                        try clear c40b0
                        try clear c40b1
                        try clear c41
                        try clear c41b0
                        try clear c42
                        try clear c42b0
                        try clear c43
                        try clear c43b0
                        try clear hx381_0
                        try clear hx381_1
                        try clear hx381_2
                        try clear hx388_0
                        try clear hx388_1
                        try clear hx388_2
                        try clear hx390_0
                        try clear hx391_0
                        try clear hx392_0
                        try clear hx393_0
                        try clear hx394_0
                        try clear p2
                        try clear p3
                        try clear p381
                        try clear p388
                        try clear p390
                        try clear p391
                        try clear p392
                        try clear p393
                        try clear p394
                        try clear p6
                        try clear q3
                        try clear q381
                        try clear q388
                        try clear q390
                        try clear q391
                        try clear q392
                        try clear q393
                        try clear q394
                        obtain ⟨x12_4, rfl, HA, HK4, HO_7, HB⟩ := hrel
                        cases gk with
                        | zero => exact absurd HA.out (by simp [rowlockref15_Check.l2])
                        | succ k4 =>
                          have H := HA.out
                          clear HA
                          simp only [rowlockref15_Check.l2] at H
                          by_cases c46 : x12_4 < (l0.length : Int)
                          · rw [if_pos c46] at H
                            have c46b0 : decide (x12_4 < (l0.length : Int)) = true := decide_eq_true c46
                            clear c46
                            by_cases c47 : 0 ≤ x12_4
                            · rw [if_pos c47] at H
                              have c47b0 : decide (0 ≤ x12_4) = true := decide_eq_true c47
                              clear c47
                              have HC48 := Aside0.mk H
                              clear H
                              have p400 : 0 ≤ (x12_4 : Int) := of_decide_eq_true (by first | (with_reducible assumption) | assumption)
                              have q400 : x12_4 < (l0.length : Int) := of_decide_eq_true (by first | (with_reducible assumption) | assumption)
                              obtain ⟨ad400, e400, hx400_0, hx400_1, hx400_2⟩ := at_T35 HR0.out x12_4 p400 q400
                              cases e400
                              replace hx400_0 := (HB.out.cell (World.block_lt_of_cell? w _ hx400_0)).trans hx400_0
                              replace hx400_1 := (HB.out.cell (World.block_lt_of_cell? w _ hx400_1)).trans hx400_1
                              replace hx400_2 := (HB.out.cell (World.block_lt_of_cell? w _ hx400_2)).trans hx400_2
                              replace p400 := eq_true p400
                              replace q400 := eq_true q400
                              go_upto_region 24 with (first | ((with_reducible refine gate_dst (N := 13) rfl ?_); (try (refine gate_guard (by rfl) ?_; dsimp only)); refine box_event ?hg (N := 13) ?hd (cs := #[.int .u8 0, .int .i64 0, .int .u64 0]) (t := 35) ?hr ?_; (case hd => rfl); (case hg => rfl); (case hr => first | (go_simp; done) | (go_simp; rfl)); intro gb401 hg w49 hbox hb; have n0_ := Aside0.mk (Kd.R_below (by (with_reducible repeat (first | apply Kd.R_alloc | apply Kd.R_drewN | apply Kd.R_drew)); exact HO_7.out) hb); have n1_ := Aside0.mk (below_step (by repeat (first | (with_reducible first | exact HB.out | apply below_alloc | apply pw_below_drewN | apply below_drew1) | exact HB.out)) hb); have n2_ := Aside0.mk (hbox); have n3_ := Aside0.mk ((by rw [hg]; exact (below_size (by repeat (first | (with_reducible first | exact HB.out | apply below_alloc | apply pw_below_drewN | apply below_drew1) | exact HB.out))) : w.heap.size ≤ gb401)); have n4_ := Aside0.mk ((by rw [hg]; exact (below_size (by repeat (first | (with_reducible first | exact HB.out | apply below_alloc | apply pw_below_drewN | apply below_drew1) | exact HB.out))) : w.heap.size ≤ gb401)); clear HO_7; clear HB; have HO_7 := n0_; have HB := n1_; have BK401 := n2_; have GW401 := n3_; have GE401 := n4_; clear n0_ n1_ n2_ n3_ n4_; clear hb hbox hg; have hcz50_0 : w49.cell? ⟨gb401, 0, none⟩ = some (.int .u8 0) := (blk_cell BK401.out 0).trans rfl; have hcz50_1 : w49.cell? ⟨gb401, 1, none⟩ = some (.int .i64 0) := (blk_cell BK401.out 1).trans rfl; have hcz50_2 : w49.cell? ⟨gb401, 2, none⟩ = some (.int .u64 0) := (blk_cell BK401.out 2).trans rfl; have hfz50_0 := blk_frozen BK401.out 0; have hfz50_1 := blk_frozen BK401.out 1; have hfz50_2 := blk_frozen BK401.out 2))
                              repeat (go_quiet (first | ((with_reducible refine gate_dst (N := 13) rfl ?_); (try (refine gate_guard (by rfl) ?_; dsimp only)); refine box_event ?hg (N := 13) ?hd (cs := #[.int .u8 0, .int .i64 0, .int .u64 0]) (t := 35) ?hr ?_; (case hd => rfl); (case hg => rfl); (case hr => first | (go_simp; done) | (go_simp; rfl)); intro gb401 hg w49 hbox hb; have n0_ := Aside0.mk (Kd.R_below (by (with_reducible repeat (first | apply Kd.R_alloc | apply Kd.R_drewN | apply Kd.R_drew)); exact HO_7.out) hb); have n1_ := Aside0.mk (below_step (by repeat (first | (with_reducible first | exact HB.out | apply below_alloc | apply pw_below_drewN | apply below_drew1) | exact HB.out)) hb); have n2_ := Aside0.mk (hbox); have n3_ := Aside0.mk ((by rw [hg]; exact (below_size (by repeat (first | (with_reducible first | exact HB.out | apply below_alloc | apply pw_below_drewN | apply below_drew1) | exact HB.out))) : w.heap.size ≤ gb401)); have n4_ := Aside0.mk ((by rw [hg]; exact (below_size (by repeat (first | (with_reducible first | exact HB.out | apply below_alloc | apply pw_below_drewN | apply below_drew1) | exact HB.out))) : w.heap.size ≤ gb401)); clear HO_7; clear HB; have HO_7 := n0_; have HB := n1_; have BK401 := n2_; have GW401 := n3_; have GE401 := n4_; clear n0_ n1_ n2_ n3_ n4_; clear hb hbox hg; have hcz50_0 : w49.cell? ⟨gb401, 0, none⟩ = some (.int .u8 0) := (blk_cell BK401.out 0).trans rfl; have hcz50_1 : w49.cell? ⟨gb401, 1, none⟩ = some (.int .i64 0) := (blk_cell BK401.out 1).trans rfl; have hcz50_2 : w49.cell? ⟨gb401, 2, none⟩ = some (.int .u64 0) := (blk_cell BK401.out 2).trans rfl; have hfz50_0 := blk_frozen BK401.out 0; have hfz50_1 := blk_frozen BK401.out 1; have hfz50_2 := blk_frozen BK401.out 2)); go_upto_region 24 with (first | ((with_reducible refine gate_dst (N := 13) rfl ?_); (try (refine gate_guard (by rfl) ?_; dsimp only)); refine box_event ?hg (N := 13) ?hd (cs := #[.int .u8 0, .int .i64 0, .int .u64 0]) (t := 35) ?hr ?_; (case hd => rfl); (case hg => rfl); (case hr => first | (go_simp; done) | (go_simp; rfl)); intro gb401 hg w49 hbox hb; have n0_ := Aside0.mk (Kd.R_below (by (with_reducible repeat (first | apply Kd.R_alloc | apply Kd.R_drewN | apply Kd.R_drew)); exact HO_7.out) hb); have n1_ := Aside0.mk (below_step (by repeat (first | (with_reducible first | exact HB.out | apply below_alloc | apply pw_below_drewN | apply below_drew1) | exact HB.out)) hb); have n2_ := Aside0.mk (hbox); have n3_ := Aside0.mk ((by rw [hg]; exact (below_size (by repeat (first | (with_reducible first | exact HB.out | apply below_alloc | apply pw_below_drewN | apply below_drew1) | exact HB.out))) : w.heap.size ≤ gb401)); have n4_ := Aside0.mk ((by rw [hg]; exact (below_size (by repeat (first | (with_reducible first | exact HB.out | apply below_alloc | apply pw_below_drewN | apply below_drew1) | exact HB.out))) : w.heap.size ≤ gb401)); clear HO_7; clear HB; have HO_7 := n0_; have HB := n1_; have BK401 := n2_; have GW401 := n3_; have GE401 := n4_; clear n0_ n1_ n2_ n3_ n4_; clear hb hbox hg; have hcz50_0 : w49.cell? ⟨gb401, 0, none⟩ = some (.int .u8 0) := (blk_cell BK401.out 0).trans rfl; have hcz50_1 : w49.cell? ⟨gb401, 1, none⟩ = some (.int .i64 0) := (blk_cell BK401.out 1).trans rfl; have hcz50_2 : w49.cell? ⟨gb401, 2, none⟩ = some (.int .u64 0) := (blk_cell BK401.out 2).trans rfl; have hfz50_0 := blk_frozen BK401.out 0; have hfz50_1 := blk_frozen BK401.out 1; have hfz50_2 := blk_frozen BK401.out 2)))
                              (try simp only [Act.put, List.setIfInBounds_toArray, List.set_cons_zero, List.set_cons_succ])
                              go_cut [100] (fun v100 wc => ∃ (kq : Nat) (x100_47 : Bool), v100 = .bool x100_47 ∧ Aside0 (rowlockref15_Check.j5 kq l0 a1 t383 x12_4 x100_47 ((rd_T35 l0 x12_4).f0) ((rd_T35 l0 x12_4).f1) ((rd_T35 l0 x12_4).f2) = some (r1, r2)) ∧ Aside0 (kq ≤ k4) ∧ Aside0 (Kd.R (Kd.int .i64) 3 wc w.heap.size (fun _ => True) v386 t383) ∧ Aside0 (wc.heap[gb401]? = some (.cells #[.int .u8 ((rd_T35 l0 x12_4).f0), .int .i64 ((rd_T35 l0 x12_4).f1), .int .u64 ((rd_T35 l0 x12_4).f2)] 35 (0, 0))) ∧ Aside0 (Below w.heap.size w wc))
                              case first =>
                                have H := HC48.out
                                clear HC48
                                replace H := Option.bind_eq_some_iff.mp H
                                obtain ⟨t402, A510, H⟩ := H
                                replace H : (if t402 = true then (rowlockref15_Check.j5 k4 l0 a1 t383 x12_4 (decide (((rd_T35 l0 x12_4).f1) ≥ a1)) ((rd_T35 l0 x12_4).f0) ((rd_T35 l0 x12_4).f1) ((rd_T35 l0 x12_4).f2)) else (rowlockref15_Check.j5 k4 l0 a1 t383 x12_4 false ((rd_T35 l0 x12_4).f0) ((rd_T35 l0 x12_4).f1) ((rd_T35 l0 x12_4).f2))) = some (r1, r2) := H
                                have A51 := Aside0.mk A510
                                clear A510
                                by_cases c52 : t402 = true
                                · subst c52
                                  have H1 : (rowlockref15_Check.j5 k4 l0 a1 t383 x12_4 (decide (((rd_T35 l0 x12_4).f1) ≥ a1)) ((rd_T35 l0 x12_4).f0) ((rd_T35 l0 x12_4).f1) ((rd_T35 l0 x12_4).f2)) = some (r1, r2) := by rw [if_pos rfl] at H; exact H
                                  clear H
                                  have H := H1
                                  clear H1
                                  have H' := Aside0.mk H
                                  clear H
                                  have hcz53_0 : w49.cell? ⟨gb401, 0, none⟩ = some (.int .u8 0) := (blk_cell BK401.out 0).trans rfl
                                  have hcz53_1 : w49.cell? ⟨gb401, 1, none⟩ = some (.int .i64 0) := (blk_cell BK401.out 1).trans rfl
                                  have hcz53_2 : w49.cell? ⟨gb401, 2, none⟩ = some (.int .u64 0) := (blk_cell BK401.out 2).trans rfl
                                  have hfz53_0 := blk_frozen BK401.out 0
                                  have hfz53_1 := blk_frozen BK401.out 1
                                  have hfz53_2 := blk_frozen BK401.out 2
                                  go_wp2_with (first | (go_at_call 36; (with_reducible refine (rowlockref15_variable.calls ((rd_T35 l0 x12_4).f0) true _ A51.out).mono ?_); rintro e w' ⟨rfl, ⟨nd, rfl⟩⟩; (try first | exact ⟨rfl, _, World.drewN_drewN _ _ _⟩ | exact ⟨rfl, _, Eq.trans (World.drewN_drewN _ _ _) (congrArg (World.drewN _) (Nat.add_assoc _ _ _))⟩)))
                                  repeat (go_quiet (first | (go_at_call 36; (with_reducible refine (rowlockref15_variable.calls ((rd_T35 l0 x12_4).f0) true _ A51.out).mono ?_); rintro e w' ⟨rfl, ⟨nd, rfl⟩⟩; (try first | exact ⟨rfl, _, World.drewN_drewN _ _ _⟩ | exact ⟨rfl, _, Eq.trans (World.drewN_drewN _ _ _) (congrArg (World.drewN _) (Nat.add_assoc _ _ _))⟩))); try go_wp2_with (first | (go_at_call 36; (with_reducible refine (rowlockref15_variable.calls ((rd_T35 l0 x12_4).f0) true _ A51.out).mono ?_); rintro e w' ⟨rfl, ⟨nd, rfl⟩⟩; (try first | exact ⟨rfl, _, World.drewN_drewN _ _ _⟩ | exact ⟨rfl, _, Eq.trans (World.drewN_drewN _ _ _) (congrArg (World.drewN _) (Nat.add_assoc _ _ _))⟩))))
                                  go_meet
                                  case rel => exact ⟨_, (decide (((rd_T35 l0 x12_4).f1) ≥ a1)), (by first | rfl | (simp; done) | (simp [*]; done)), H', ⟨by have := HJ2.out; have := HK2.out; have := HK3.out; have := HK4.out; first | omega | exact Nat.le_refl _⟩, ⟨by (with_reducible repeat (first | apply Kd.R_alloc | apply Kd.R_drewN | apply Kd.R_drew)); exact Kd.R_mono (Kd.R_far (p := ⟨gb401, 2, none⟩) (Kd.R_far (p := ⟨gb401, 1, none⟩) (Kd.R_far (p := ⟨gb401, 0, none⟩) (Kd.R_types HO_7.out BK401.out (by decide)) (fun _ hk => hk.2) (.int .u8 ((rd_T35 l0 x12_4).f0))) (fun _ hk => hk.2) (.int .i64 ((rd_T35 l0 x12_4).f1))) (fun _ hk => hk.2) (.int .u64 ((rd_T35 l0 x12_4).f2))) (fun _ hk => trivial)⟩, ⟨by (with_reducible repeat (first | refine blk_drewN ?_ _ | refine blk_drew ?_ | refine blk_alloc ?_ _)); refine blk_put (cs := #[.int .u8 ((rd_T35 l0 x12_4).f0), .int .i64 ((rd_T35 l0 x12_4).f1), .int .u64 0]) ?_ 2 _ rfl; (with_reducible repeat (first | refine blk_drewN ?_ _ | refine blk_drew ?_ | refine blk_alloc ?_ _)); refine blk_put (cs := #[.int .u8 ((rd_T35 l0 x12_4).f0), .int .i64 0, .int .u64 0]) ?_ 1 _ rfl; (with_reducible repeat (first | refine blk_drewN ?_ _ | refine blk_drew ?_ | refine blk_alloc ?_ _)); refine blk_put (cs := #[.int .u8 0, .int .i64 0, .int .u64 0]) ?_ 0 _ rfl; (with_reducible repeat (first | refine blk_drewN ?_ _ | refine blk_drew ?_ | refine blk_alloc ?_ _)); exact BK401.out⟩, ⟨by repeat (first | (with_reducible first | exact HB.out | apply below_alloc | apply pw_below_drewN | apply below_drew1 | refine below_set ?_ GE401.out) | exact HB.out)⟩⟩
                                · replace c52 := Bool.eq_false_iff.mpr c52
                                  subst c52
                                  have H1 : (rowlockref15_Check.j5 k4 l0 a1 t383 x12_4 false ((rd_T35 l0 x12_4).f0) ((rd_T35 l0 x12_4).f1) ((rd_T35 l0 x12_4).f2)) = some (r1, r2) := by rw [if_neg (show ¬ (false = true) by decide)] at H; exact H
                                  clear H
                                  have H := H1
                                  clear H1
                                  have H' := Aside0.mk H
                                  clear H
                                  have hcz54_0 : w49.cell? ⟨gb401, 0, none⟩ = some (.int .u8 0) := (blk_cell BK401.out 0).trans rfl
                                  have hcz54_1 : w49.cell? ⟨gb401, 1, none⟩ = some (.int .i64 0) := (blk_cell BK401.out 1).trans rfl
                                  have hcz54_2 : w49.cell? ⟨gb401, 2, none⟩ = some (.int .u64 0) := (blk_cell BK401.out 2).trans rfl
                                  have hfz54_0 := blk_frozen BK401.out 0
                                  have hfz54_1 := blk_frozen BK401.out 1
                                  have hfz54_2 := blk_frozen BK401.out 2
                                  go_wp2_with (first | (go_at_call 36; (with_reducible refine (rowlockref15_variable.calls ((rd_T35 l0 x12_4).f0) false _ A51.out).mono ?_); rintro e w' ⟨rfl, ⟨nd, rfl⟩⟩; (try first | exact ⟨rfl, _, World.drewN_drewN _ _ _⟩ | exact ⟨rfl, _, Eq.trans (World.drewN_drewN _ _ _) (congrArg (World.drewN _) (Nat.add_assoc _ _ _))⟩)))
                                  repeat (go_quiet (first | (go_at_call 36; (with_reducible refine (rowlockref15_variable.calls ((rd_T35 l0 x12_4).f0) false _ A51.out).mono ?_); rintro e w' ⟨rfl, ⟨nd, rfl⟩⟩; (try first | exact ⟨rfl, _, World.drewN_drewN _ _ _⟩ | exact ⟨rfl, _, Eq.trans (World.drewN_drewN _ _ _) (congrArg (World.drewN _) (Nat.add_assoc _ _ _))⟩))); try go_wp2_with (first | (go_at_call 36; (with_reducible refine (rowlockref15_variable.calls ((rd_T35 l0 x12_4).f0) false _ A51.out).mono ?_); rintro e w' ⟨rfl, ⟨nd, rfl⟩⟩; (try first | exact ⟨rfl, _, World.drewN_drewN _ _ _⟩ | exact ⟨rfl, _, Eq.trans (World.drewN_drewN _ _ _) (congrArg (World.drewN _) (Nat.add_assoc _ _ _))⟩))))
                                  go_meet
                                  case rel => exact ⟨_, (false), (by first | rfl | (simp; done) | (simp [*]; done)), H', ⟨by have := HJ2.out; have := HK2.out; have := HK3.out; have := HK4.out; first | omega | exact Nat.le_refl _⟩, ⟨by (with_reducible repeat (first | apply Kd.R_alloc | apply Kd.R_drewN | apply Kd.R_drew)); exact Kd.R_mono (Kd.R_far (p := ⟨gb401, 2, none⟩) (Kd.R_far (p := ⟨gb401, 1, none⟩) (Kd.R_far (p := ⟨gb401, 0, none⟩) (Kd.R_types HO_7.out BK401.out (by decide)) (fun _ hk => hk.2) (.int .u8 ((rd_T35 l0 x12_4).f0))) (fun _ hk => hk.2) (.int .i64 ((rd_T35 l0 x12_4).f1))) (fun _ hk => hk.2) (.int .u64 ((rd_T35 l0 x12_4).f2))) (fun _ hk => trivial)⟩, ⟨by (with_reducible repeat (first | refine blk_drewN ?_ _ | refine blk_drew ?_ | refine blk_alloc ?_ _)); refine blk_put (cs := #[.int .u8 ((rd_T35 l0 x12_4).f0), .int .i64 ((rd_T35 l0 x12_4).f1), .int .u64 0]) ?_ 2 _ rfl; (with_reducible repeat (first | refine blk_drewN ?_ _ | refine blk_drew ?_ | refine blk_alloc ?_ _)); refine blk_put (cs := #[.int .u8 ((rd_T35 l0 x12_4).f0), .int .i64 0, .int .u64 0]) ?_ 1 _ rfl; (with_reducible repeat (first | refine blk_drewN ?_ _ | refine blk_drew ?_ | refine blk_alloc ?_ _)); refine blk_put (cs := #[.int .u8 0, .int .i64 0, .int .u64 0]) ?_ 0 _ rfl; (with_reducible repeat (first | refine blk_drewN ?_ _ | refine blk_drew ?_ | refine blk_alloc ?_ _)); exact BK401.out⟩, ⟨by repeat (first | (with_reducible first | exact HB.out | apply below_alloc | apply pw_below_drewN | apply below_drew1 | refine below_set ?_ GE401.out) | exact HB.out)⟩⟩
                              case rest =>
                                clear HC48
                                try clear c1
                                try clear c2
                                try clear p2
                                try clear c3
                                try clear p3
                                try clear q3
                                try clear hx3
                                try clear c4
                                try clear c4b0
                                try clear c4b1
                                try clear p4
                                try clear q4
                                try clear hx4
                                try clear c5
                                try clear c6
                                try clear c6b0
                                try clear p6
                                try clear c7
                                try clear c7b0
                                try clear c9
                                try clear c10
                                try clear c13
                                try clear c13b0
                                try clear c13b1
                                try clear c15
                                try clear c15b0
                                try clear c16
                                try clear c16b0
                                try clear c19
                                try clear c20
                                try clear c21
                                try clear c21b0
                                try clear c22
                                try clear c22b0
                                try clear c23
                                try clear c23b0
                                try clear c25
                                try clear c25b0
                                try clear c25b1
                                try clear c26
                                try clear c26b0
                                try clear c29
                                try clear c29b0
                                try clear c29b1
                                try clear c30
                                try clear c30b0
                                try clear c34
                                try clear c34b0
                                try clear c34b1
                                try clear c35
                                try clear c35b0
                                try clear c36
                                try clear c36b0
                                try clear c37
                                try clear c37b0
                                try clear p38
                                try clear q38
                                try clear hx38
                                try clear p39
                                try clear q39
                                try clear hx39
                                try clear c40
                                try clear c40b0
                                try clear c40b1
                                try clear p40
                                try clear q40
                                try clear hx40
                                try clear c41
                                try clear c41b0
                                try clear c42
                                try clear c42b0
                                try clear c43
                                try clear c43b0
                                try clear c46
                                try clear c46b0
                                try clear c47
                                try clear c47b0
                                try clear c52
                                try clear hcz50_0
                                try clear hcz50_1
                                try clear hcz50_2
                                try clear hcz53_0
                                try clear hcz53_1
                                try clear hcz53_2
                                try clear hcz54_0
                                try clear hcz54_1
                                try clear hcz54_2
                                try clear hfz50_0
                                try clear hfz50_1
                                try clear hfz50_2
                                try clear hfz53_0
                                try clear hfz53_1
                                try clear hfz53_2
                                try clear hfz54_0
                                try clear hfz54_1
                                try clear hfz54_2
                                try clear hx381_0
                                try clear hx381_1
                                try clear hx381_2
                                try clear hx388_0
                                try clear hx388_1
                                try clear hx388_2
                                try clear hx390_0
                                try clear hx391_0
                                try clear hx392_0
                                try clear hx393_0
                                try clear hx394_0
                                try clear hx400_0
                                try clear hx400_1
                                try clear hx400_2
                                try clear p2
                                try clear p3
                                try clear p38
                                try clear p381
                                try clear p388
                                try clear p39
                                try clear p390
                                try clear p391
                                try clear p392
                                try clear p393
                                try clear p394
                                try clear p400
                                try clear p6
                                try clear q3
                                try clear q38
                                try clear q381
                                try clear q388
                                try clear q39
                                try clear q390
                                try clear q391
                                try clear q392
                                try clear q393
                                try clear q394
                                try clear q400
                                obtain ⟨kq, x100_47, rfl, HA, HJ47, HO_7, BK401, HB⟩ := hcut
                                cases kq with
                                | zero => exact absurd HA.out (by simp [rowlockref15_Check.j5])
                                | succ kj47 =>
                                  have H := HA.out
                                  clear HA
                                  simp only [rowlockref15_Check.j5] at H
                                  by_cases c55 : x100_47 = true
                                  · subst c55
                                    have H1 : (some (x12_4, 2)) = some (r1, r2) := by rw [if_pos rfl] at H; exact H
                                    clear H
                                    have H := H1
                                    clear H1
                                    simp only [Option.some.injEq, Prod.mk.injEq] at H
                                    obtain ⟨rfl, rfl⟩ := H
                                    go_wp2
                                    repeat (go_quiet (fail); try go_wp2)
                                    go_ret2
                                    exact ⟨by first | rfl | (simp [errW_none, errW_some] <;> rfl) | (simp [*, errW_none, errW_some] <;> rfl), by repeat (first | (with_reducible first | exact HB.out | apply below_alloc | apply pw_below_drewN | apply below_drew1 | refine below_set ?_ GE401.out) | exact HB.out)⟩
                                  · replace c55 := Bool.eq_false_iff.mpr c55
                                    subst c55
                                    have H1 : (if ((rd_T35 l0 x12_4).f0) = 19 then (if ((rd_T35 l0 x12_4).f1) ≥ (l0.length : Int) then (some (x12_4, 2)) else (if 0 ≤ ((rd_T35 l0 x12_4).f1) then (if ((rd_T35 l0 x12_4).f1) < (t383.length : Int) then (if 0 ≤ x12_4 then (if x12_4 < (t383.length : Int) then (if (rd t383 ((rd_T35 l0 x12_4).f1)) = (rd t383 x12_4) then (rowlockref15_Check.l2 kj47 l0 a1 t383 (wrap64 (x12_4 + 1))) else (some (x12_4, 2))) else (none)) else (none)) else (none)) else (none))) else (if ((rd_T35 l0 x12_4).f0) = 20 then (if ((rd_T35 l0 x12_4).f1) ≥ (l0.length : Int) then (some (x12_4, 2)) else (if 0 ≤ ((rd_T35 l0 x12_4).f1) then (if ((rd_T35 l0 x12_4).f1) < (t383.length : Int) then (if 0 ≤ x12_4 then (if x12_4 < (t383.length : Int) then (if (rd t383 ((rd_T35 l0 x12_4).f1)) = (rd t383 x12_4) then (rowlockref15_Check.l2 kj47 l0 a1 t383 (wrap64 (x12_4 + 1))) else (some (x12_4, 2))) else (none)) else (none)) else (none)) else (none))) else (rowlockref15_Check.l2 kj47 l0 a1 t383 (wrap64 (x12_4 + 1))))) = some (r1, r2) := by rw [if_neg (show ¬ (false = true) by decide)] at H; exact H
                                    clear H
                                    have H := H1
                                    clear H1
                                    by_cases c56 : ((rd_T35 l0 x12_4).f0) = 19
                                    · rw [if_pos c56] at H
                                      have c56b0 : (((rd_T35 l0 x12_4).f0) == 19) = true := beq_iff_eq.mpr c56
                                      have c56b1 : (((rd_T35 l0 x12_4).f0) != 19) = false := bne_eq_false_iff_eq.mpr c56
                                      clear c56
                                      by_cases c57 : ((rd_T35 l0 x12_4).f1) ≥ (l0.length : Int)
                                      · rw [if_pos c57] at H
                                        have c57b0 : decide ((l0.length : Int) ≤ ((rd_T35 l0 x12_4).f1)) = true := decide_eq_true c57
                                        clear c57
                                        simp only [Option.some.injEq, Prod.mk.injEq] at H
                                        obtain ⟨rfl, rfl⟩ := H
                                        have hcz58_0 : wc.cell? ⟨gb401, 0, none⟩ = some (.int .u8 ((rd_T35 l0 x12_4).f0)) := (blk_cell BK401.out 0).trans rfl
                                        have hcz58_1 : wc.cell? ⟨gb401, 1, none⟩ = some (.int .i64 ((rd_T35 l0 x12_4).f1)) := (blk_cell BK401.out 1).trans rfl
                                        have hcz58_2 : wc.cell? ⟨gb401, 2, none⟩ = some (.int .u64 ((rd_T35 l0 x12_4).f2)) := (blk_cell BK401.out 2).trans rfl
                                        have hfz58_0 := blk_frozen BK401.out 0
                                        have hfz58_1 := blk_frozen BK401.out 1
                                        have hfz58_2 := blk_frozen BK401.out 2
                                        go_wp2
                                        repeat (go_quiet (fail); try go_wp2)
                                        go_ret2
                                        exact ⟨by first | rfl | (simp [errW_none, errW_some] <;> rfl) | (simp [*, errW_none, errW_some] <;> rfl), by repeat (first | (with_reducible first | exact HB.out | apply below_alloc | apply pw_below_drewN | apply below_drew1 | refine below_set ?_ GE401.out) | exact HB.out)⟩
                                      · rw [if_neg c57] at H
                                        have c57b0 : decide ((l0.length : Int) ≤ ((rd_T35 l0 x12_4).f1)) = false := decide_eq_false c57
                                        clear c57
                                        by_cases c59 : 0 ≤ ((rd_T35 l0 x12_4).f1)
                                        · rw [if_pos c59] at H
                                          have c59b0 : decide (0 ≤ ((rd_T35 l0 x12_4).f1)) = true := decide_eq_true c59
                                          clear c59
                                          by_cases c60 : ((rd_T35 l0 x12_4).f1) < (t383.length : Int)
                                          · rw [if_pos c60] at H
                                            have c60b0 : decide (((rd_T35 l0 x12_4).f1) < (t383.length : Int)) = true := decide_eq_true c60
                                            clear c60
                                            by_cases c61 : 0 ≤ x12_4
                                            · rw [if_pos c61] at H
                                              have c61b0 : decide (0 ≤ x12_4) = true := decide_eq_true c61
                                              clear c61
                                              by_cases c62 : x12_4 < (t383.length : Int)
                                              · rw [if_pos c62] at H
                                                have c62b0 : decide (x12_4 < (t383.length : Int)) = true := decide_eq_true c62
                                                clear c62
                                                by_cases c63 : (rd t383 ((rd_T35 l0 x12_4).f1)) = (rd t383 x12_4)
                                                · rw [if_pos c63] at H
                                                  have c63b0 : ((rd t383 ((rd_T35 l0 x12_4).f1)) == (rd t383 x12_4)) = true := beq_iff_eq.mpr c63
                                                  have c63b1 : ((rd t383 ((rd_T35 l0 x12_4).f1)) != (rd t383 x12_4)) = false := bne_eq_false_iff_eq.mpr c63
                                                  clear c63
                                                  have H' := Aside0.mk H
                                                  clear H
                                                  have hcz64_0 : wc.cell? ⟨gb401, 0, none⟩ = some (.int .u8 ((rd_T35 l0 x12_4).f0)) := (blk_cell BK401.out 0).trans rfl
                                                  have hcz64_1 : wc.cell? ⟨gb401, 1, none⟩ = some (.int .i64 ((rd_T35 l0 x12_4).f1)) := (blk_cell BK401.out 1).trans rfl
                                                  have hcz64_2 : wc.cell? ⟨gb401, 2, none⟩ = some (.int .u64 ((rd_T35 l0 x12_4).f2)) := (blk_cell BK401.out 2).trans rfl
                                                  have hfz64_0 := blk_frozen BK401.out 0
                                                  have hfz64_1 := blk_frozen BK401.out 1
                                                  have hfz64_2 := blk_frozen BK401.out 2
                                                  obtain ⟨Ao65, co65, eo65⟩ := Kd.R_slice HO_7.out
                                                  subst eo65
                                                  have p403 : 0 ≤ (((rd_T35 l0 x12_4).f1) : Int) := of_decide_eq_true (by first | (with_reducible assumption) | assumption)
                                                  have q403 : ((rd_T35 l0 x12_4).f1) < (t383.length : Int) := of_decide_eq_true (by first | (with_reducible assumption) | assumption)
                                                  obtain ⟨ad403, e403, hx403_0⟩ := Kd.at_int (Kd.R_reads' HO_7.out).2.2 ((rd_T35 l0 x12_4).f1) p403 q403
                                                  cases e403
                                                  replace p403 := eq_true p403
                                                  replace q403 := eq_true q403
                                                  have p404 : 0 ≤ (x12_4 : Int) := of_decide_eq_true (by first | (with_reducible assumption) | assumption)
                                                  have q404 : x12_4 < (t383.length : Int) := of_decide_eq_true (by first | (with_reducible assumption) | assumption)
                                                  obtain ⟨ad404, e404, hx404_0⟩ := Kd.at_int (Kd.R_reads' HO_7.out).2.2 x12_4 p404 q404
                                                  obtain rfl : ad403 = ad404 := (by injection e404)
                                                  replace p404 := eq_true p404
                                                  replace q404 := eq_true q404
                                                  go_wp2
                                                  repeat (go_quiet (fail); try go_wp2)
                                                  go_roundg kj47
                                                  case measure => have := HJ2.out; have := HK2.out; have := HK3.out; have := HK4.out; have := HJ47.out; omega
                                                  case rel => exact ⟨(wrap64 (x12_4 + 1)), (by first | rfl | (simp; done) | (simp [*]; done)), H', ⟨by have := HJ2.out; have := HK2.out; have := HK3.out; have := HK4.out; have := HJ47.out; omega⟩, ⟨by (with_reducible repeat (first | apply Kd.R_alloc | apply Kd.R_drewN | apply Kd.R_drew)); exact HO_7.out⟩, ⟨by repeat (first | (with_reducible first | exact HB.out | apply below_alloc | apply pw_below_drewN | apply below_drew1 | refine below_set ?_ GE401.out) | exact HB.out)⟩⟩
                                                · rw [if_neg c63] at H
                                                  have c63b0 : ((rd t383 ((rd_T35 l0 x12_4).f1)) == (rd t383 x12_4)) = false := beq_eq_false_iff_ne.mpr c63
                                                  have c63b1 : ((rd t383 ((rd_T35 l0 x12_4).f1)) != (rd t383 x12_4)) = true := bne_iff_ne.mpr c63
                                                  simp only [Option.some.injEq, Prod.mk.injEq] at H
                                                  obtain ⟨rfl, rfl⟩ := H
                                                  have hcz66_0 : wc.cell? ⟨gb401, 0, none⟩ = some (.int .u8 ((rd_T35 l0 x12_4).f0)) := (blk_cell BK401.out 0).trans rfl
                                                  have hcz66_1 : wc.cell? ⟨gb401, 1, none⟩ = some (.int .i64 ((rd_T35 l0 x12_4).f1)) := (blk_cell BK401.out 1).trans rfl
                                                  have hcz66_2 : wc.cell? ⟨gb401, 2, none⟩ = some (.int .u64 ((rd_T35 l0 x12_4).f2)) := (blk_cell BK401.out 2).trans rfl
                                                  have hfz66_0 := blk_frozen BK401.out 0
                                                  have hfz66_1 := blk_frozen BK401.out 1
                                                  have hfz66_2 := blk_frozen BK401.out 2
                                                  obtain ⟨Ao67, co67, eo67⟩ := Kd.R_slice HO_7.out
                                                  subst eo67
                                                  have p403 : 0 ≤ (((rd_T35 l0 x12_4).f1) : Int) := of_decide_eq_true (by first | (with_reducible assumption) | assumption)
                                                  have q403 : ((rd_T35 l0 x12_4).f1) < (t383.length : Int) := of_decide_eq_true (by first | (with_reducible assumption) | assumption)
                                                  obtain ⟨ad403, e403, hx403_0⟩ := Kd.at_int (Kd.R_reads' HO_7.out).2.2 ((rd_T35 l0 x12_4).f1) p403 q403
                                                  cases e403
                                                  replace p403 := eq_true p403
                                                  replace q403 := eq_true q403
                                                  have p404 : 0 ≤ (x12_4 : Int) := of_decide_eq_true (by first | (with_reducible assumption) | assumption)
                                                  have q404 : x12_4 < (t383.length : Int) := of_decide_eq_true (by first | (with_reducible assumption) | assumption)
                                                  obtain ⟨ad404, e404, hx404_0⟩ := Kd.at_int (Kd.R_reads' HO_7.out).2.2 x12_4 p404 q404
                                                  obtain rfl : ad403 = ad404 := (by injection e404)
                                                  replace p404 := eq_true p404
                                                  replace q404 := eq_true q404
                                                  go_wp2
                                                  repeat (go_quiet (fail); try go_wp2)
                                                  go_ret2
                                                  exact ⟨by first | rfl | (simp [errW_none, errW_some] <;> rfl) | (simp [*, errW_none, errW_some] <;> rfl), by repeat (first | (with_reducible first | exact HB.out | apply below_alloc | apply pw_below_drewN | apply below_drew1 | refine below_set ?_ GE401.out) | exact HB.out)⟩
                                              · rw [if_neg c62] at H
                                                exact absurd H (by simp)
                                            · rw [if_neg c61] at H
                                              exact absurd H (by simp)
                                          · rw [if_neg c60] at H
                                            exact absurd H (by simp)
                                        · rw [if_neg c59] at H
                                          exact absurd H (by simp)
                                    · rw [if_neg c56] at H
                                      have c56b0 : (((rd_T35 l0 x12_4).f0) == 19) = false := beq_eq_false_iff_ne.mpr c56
                                      have c56b1 : (((rd_T35 l0 x12_4).f0) != 19) = true := bne_iff_ne.mpr c56
                                      by_cases c68 : ((rd_T35 l0 x12_4).f0) = 20
                                      · rw [if_pos c68] at H
                                        have c68b0 : (((rd_T35 l0 x12_4).f0) == 20) = true := beq_iff_eq.mpr c68
                                        have c68b1 : (((rd_T35 l0 x12_4).f0) != 20) = false := bne_eq_false_iff_eq.mpr c68
                                        clear c68
                                        by_cases c69 : ((rd_T35 l0 x12_4).f1) ≥ (l0.length : Int)
                                        · rw [if_pos c69] at H
                                          have c69b0 : decide ((l0.length : Int) ≤ ((rd_T35 l0 x12_4).f1)) = true := decide_eq_true c69
                                          clear c69
                                          simp only [Option.some.injEq, Prod.mk.injEq] at H
                                          obtain ⟨rfl, rfl⟩ := H
                                          have hcz70_0 : wc.cell? ⟨gb401, 0, none⟩ = some (.int .u8 ((rd_T35 l0 x12_4).f0)) := (blk_cell BK401.out 0).trans rfl
                                          have hcz70_1 : wc.cell? ⟨gb401, 1, none⟩ = some (.int .i64 ((rd_T35 l0 x12_4).f1)) := (blk_cell BK401.out 1).trans rfl
                                          have hcz70_2 : wc.cell? ⟨gb401, 2, none⟩ = some (.int .u64 ((rd_T35 l0 x12_4).f2)) := (blk_cell BK401.out 2).trans rfl
                                          have hfz70_0 := blk_frozen BK401.out 0
                                          have hfz70_1 := blk_frozen BK401.out 1
                                          have hfz70_2 := blk_frozen BK401.out 2
                                          go_wp2
                                          repeat (go_quiet (fail); try go_wp2)
                                          go_ret2
                                          exact ⟨by first | rfl | (simp [errW_none, errW_some] <;> rfl) | (simp [*, errW_none, errW_some] <;> rfl), by repeat (first | (with_reducible first | exact HB.out | apply below_alloc | apply pw_below_drewN | apply below_drew1 | refine below_set ?_ GE401.out) | exact HB.out)⟩
                                        · rw [if_neg c69] at H
                                          have c69b0 : decide ((l0.length : Int) ≤ ((rd_T35 l0 x12_4).f1)) = false := decide_eq_false c69
                                          clear c69
                                          by_cases c71 : 0 ≤ ((rd_T35 l0 x12_4).f1)
                                          · rw [if_pos c71] at H
                                            have c71b0 : decide (0 ≤ ((rd_T35 l0 x12_4).f1)) = true := decide_eq_true c71
                                            clear c71
                                            by_cases c72 : ((rd_T35 l0 x12_4).f1) < (t383.length : Int)
                                            · rw [if_pos c72] at H
                                              have c72b0 : decide (((rd_T35 l0 x12_4).f1) < (t383.length : Int)) = true := decide_eq_true c72
                                              clear c72
                                              by_cases c73 : 0 ≤ x12_4
                                              · rw [if_pos c73] at H
                                                have c73b0 : decide (0 ≤ x12_4) = true := decide_eq_true c73
                                                clear c73
                                                by_cases c74 : x12_4 < (t383.length : Int)
                                                · rw [if_pos c74] at H
                                                  have c74b0 : decide (x12_4 < (t383.length : Int)) = true := decide_eq_true c74
                                                  clear c74
                                                  by_cases c75 : (rd t383 ((rd_T35 l0 x12_4).f1)) = (rd t383 x12_4)
                                                  · rw [if_pos c75] at H
                                                    have c75b0 : ((rd t383 ((rd_T35 l0 x12_4).f1)) == (rd t383 x12_4)) = true := beq_iff_eq.mpr c75
                                                    have c75b1 : ((rd t383 ((rd_T35 l0 x12_4).f1)) != (rd t383 x12_4)) = false := bne_eq_false_iff_eq.mpr c75
                                                    clear c75
                                                    have H' := Aside0.mk H
                                                    clear H
                                                    have hcz76_0 : wc.cell? ⟨gb401, 0, none⟩ = some (.int .u8 ((rd_T35 l0 x12_4).f0)) := (blk_cell BK401.out 0).trans rfl
                                                    have hcz76_1 : wc.cell? ⟨gb401, 1, none⟩ = some (.int .i64 ((rd_T35 l0 x12_4).f1)) := (blk_cell BK401.out 1).trans rfl
                                                    have hcz76_2 : wc.cell? ⟨gb401, 2, none⟩ = some (.int .u64 ((rd_T35 l0 x12_4).f2)) := (blk_cell BK401.out 2).trans rfl
                                                    have hfz76_0 := blk_frozen BK401.out 0
                                                    have hfz76_1 := blk_frozen BK401.out 1
                                                    have hfz76_2 := blk_frozen BK401.out 2
                                                    obtain ⟨Ao77, co77, eo77⟩ := Kd.R_slice HO_7.out
                                                    subst eo77
                                                    have p405 : 0 ≤ (((rd_T35 l0 x12_4).f1) : Int) := of_decide_eq_true (by first | (with_reducible assumption) | assumption)
                                                    have q405 : ((rd_T35 l0 x12_4).f1) < (t383.length : Int) := of_decide_eq_true (by first | (with_reducible assumption) | assumption)
                                                    obtain ⟨ad405, e405, hx405_0⟩ := Kd.at_int (Kd.R_reads' HO_7.out).2.2 ((rd_T35 l0 x12_4).f1) p405 q405
                                                    cases e405
                                                    replace p405 := eq_true p405
                                                    replace q405 := eq_true q405
                                                    have p406 : 0 ≤ (x12_4 : Int) := of_decide_eq_true (by first | (with_reducible assumption) | assumption)
                                                    have q406 : x12_4 < (t383.length : Int) := of_decide_eq_true (by first | (with_reducible assumption) | assumption)
                                                    obtain ⟨ad406, e406, hx406_0⟩ := Kd.at_int (Kd.R_reads' HO_7.out).2.2 x12_4 p406 q406
                                                    obtain rfl : ad405 = ad406 := (by injection e406)
                                                    replace p406 := eq_true p406
                                                    replace q406 := eq_true q406
                                                    go_wp2
                                                    repeat (go_quiet (fail); try go_wp2)
                                                    go_roundg kj47
                                                    case measure => have := HJ2.out; have := HK2.out; have := HK3.out; have := HK4.out; have := HJ47.out; omega
                                                    case rel => exact ⟨(wrap64 (x12_4 + 1)), (by first | rfl | (simp; done) | (simp [*]; done)), H', ⟨by have := HJ2.out; have := HK2.out; have := HK3.out; have := HK4.out; have := HJ47.out; omega⟩, ⟨by (with_reducible repeat (first | apply Kd.R_alloc | apply Kd.R_drewN | apply Kd.R_drew)); exact HO_7.out⟩, ⟨by repeat (first | (with_reducible first | exact HB.out | apply below_alloc | apply pw_below_drewN | apply below_drew1 | refine below_set ?_ GE401.out) | exact HB.out)⟩⟩
                                                  · rw [if_neg c75] at H
                                                    have c75b0 : ((rd t383 ((rd_T35 l0 x12_4).f1)) == (rd t383 x12_4)) = false := beq_eq_false_iff_ne.mpr c75
                                                    have c75b1 : ((rd t383 ((rd_T35 l0 x12_4).f1)) != (rd t383 x12_4)) = true := bne_iff_ne.mpr c75
                                                    simp only [Option.some.injEq, Prod.mk.injEq] at H
                                                    obtain ⟨rfl, rfl⟩ := H
                                                    have hcz78_0 : wc.cell? ⟨gb401, 0, none⟩ = some (.int .u8 ((rd_T35 l0 x12_4).f0)) := (blk_cell BK401.out 0).trans rfl
                                                    have hcz78_1 : wc.cell? ⟨gb401, 1, none⟩ = some (.int .i64 ((rd_T35 l0 x12_4).f1)) := (blk_cell BK401.out 1).trans rfl
                                                    have hcz78_2 : wc.cell? ⟨gb401, 2, none⟩ = some (.int .u64 ((rd_T35 l0 x12_4).f2)) := (blk_cell BK401.out 2).trans rfl
                                                    have hfz78_0 := blk_frozen BK401.out 0
                                                    have hfz78_1 := blk_frozen BK401.out 1
                                                    have hfz78_2 := blk_frozen BK401.out 2
                                                    obtain ⟨Ao79, co79, eo79⟩ := Kd.R_slice HO_7.out
                                                    subst eo79
                                                    have p405 : 0 ≤ (((rd_T35 l0 x12_4).f1) : Int) := of_decide_eq_true (by first | (with_reducible assumption) | assumption)
                                                    have q405 : ((rd_T35 l0 x12_4).f1) < (t383.length : Int) := of_decide_eq_true (by first | (with_reducible assumption) | assumption)
                                                    obtain ⟨ad405, e405, hx405_0⟩ := Kd.at_int (Kd.R_reads' HO_7.out).2.2 ((rd_T35 l0 x12_4).f1) p405 q405
                                                    cases e405
                                                    replace p405 := eq_true p405
                                                    replace q405 := eq_true q405
                                                    have p406 : 0 ≤ (x12_4 : Int) := of_decide_eq_true (by first | (with_reducible assumption) | assumption)
                                                    have q406 : x12_4 < (t383.length : Int) := of_decide_eq_true (by first | (with_reducible assumption) | assumption)
                                                    obtain ⟨ad406, e406, hx406_0⟩ := Kd.at_int (Kd.R_reads' HO_7.out).2.2 x12_4 p406 q406
                                                    obtain rfl : ad405 = ad406 := (by injection e406)
                                                    replace p406 := eq_true p406
                                                    replace q406 := eq_true q406
                                                    go_wp2
                                                    repeat (go_quiet (fail); try go_wp2)
                                                    go_ret2
                                                    exact ⟨by first | rfl | (simp [errW_none, errW_some] <;> rfl) | (simp [*, errW_none, errW_some] <;> rfl), by repeat (first | (with_reducible first | exact HB.out | apply below_alloc | apply pw_below_drewN | apply below_drew1 | refine below_set ?_ GE401.out) | exact HB.out)⟩
                                                · rw [if_neg c74] at H
                                                  exact absurd H (by simp)
                                              · rw [if_neg c73] at H
                                                exact absurd H (by simp)
                                            · rw [if_neg c72] at H
                                              exact absurd H (by simp)
                                          · rw [if_neg c71] at H
                                            exact absurd H (by simp)
                                      · rw [if_neg c68] at H
                                        have c68b0 : (((rd_T35 l0 x12_4).f0) == 20) = false := beq_eq_false_iff_ne.mpr c68
                                        have c68b1 : (((rd_T35 l0 x12_4).f0) != 20) = true := bne_iff_ne.mpr c68
                                        have H' := Aside0.mk H
                                        clear H
                                        have hcz80_0 : wc.cell? ⟨gb401, 0, none⟩ = some (.int .u8 ((rd_T35 l0 x12_4).f0)) := (blk_cell BK401.out 0).trans rfl
                                        have hcz80_1 : wc.cell? ⟨gb401, 1, none⟩ = some (.int .i64 ((rd_T35 l0 x12_4).f1)) := (blk_cell BK401.out 1).trans rfl
                                        have hcz80_2 : wc.cell? ⟨gb401, 2, none⟩ = some (.int .u64 ((rd_T35 l0 x12_4).f2)) := (blk_cell BK401.out 2).trans rfl
                                        have hfz80_0 := blk_frozen BK401.out 0
                                        have hfz80_1 := blk_frozen BK401.out 1
                                        have hfz80_2 := blk_frozen BK401.out 2
                                        go_wp2
                                        repeat (go_quiet (fail); try go_wp2)
                                        go_roundg kj47
                                        case measure => have := HJ2.out; have := HK2.out; have := HK3.out; have := HK4.out; have := HJ47.out; omega
                                        case rel => exact ⟨(wrap64 (x12_4 + 1)), (by first | rfl | (simp; done) | (simp [*]; done)), H', ⟨by have := HJ2.out; have := HK2.out; have := HK3.out; have := HK4.out; have := HJ47.out; omega⟩, ⟨by (with_reducible repeat (first | apply Kd.R_alloc | apply Kd.R_drewN | apply Kd.R_drew)); exact HO_7.out⟩, ⟨by repeat (first | (with_reducible first | exact HB.out | apply below_alloc | apply pw_below_drewN | apply below_drew1 | refine below_set ?_ GE401.out) | exact HB.out)⟩⟩
                            · rw [if_neg c47] at H
                              exact absurd H (by simp)
                          · rw [if_neg c46] at H
                            have c46b0 : decide (x12_4 < (l0.length : Int)) = false := decide_eq_false c46
                            clear c46
                            replace H := Option.bind_eq_some_iff.mp H
                            obtain ⟨⟨t395, t396, t397⟩, A810, H⟩ := H
                            replace H : (some (t396, t397)) = some (r1, r2) := H
                            have A81 := Aside0.mk A810
                            clear A810
                            simp only [Option.some.injEq, Prod.mk.injEq] at H
                            obtain ⟨rfl, rfl⟩ := H
                            go_wp2_with (first | (go_at_call 37; (with_reducible refine (rowlockref15_Depths.calls k4 _ _ l0 t395 t396 t397 _ ?side1 ?side2 A81.out).mono ?_); (case side1 => repeat (first | exact (Kd.C_below HR0.out HB.out) | (with_reducible refine Kd.C_alloc ?_ _) | (with_reducible refine Kd.C_drewN ?_ _) | (with_reducible refine Kd.C_drew ?_))); (case side2 => exact HC0.out); rintro e w82 ⟨v398, rfl, ho0, hb⟩; have n0_ := Aside0.mk (Kd.R_elder' (by (with_reducible repeat (first | apply Kd.R_alloc | apply Kd.R_drewN | apply Kd.R_drew)); exact HO_7.out) (Kd.R_base ho0) hb); have n1_ := Aside0.mk (Kd.R_lower (Kd.R_new' ho0 (Kd.R_lt (by (with_reducible repeat (first | apply Kd.R_alloc | apply Kd.R_drewN | apply Kd.R_drew)); exact HO_7.out))) (below_size (by repeat (first | (with_reducible first | exact HB.out | apply below_alloc | apply pw_below_drewN | apply below_drew1) | exact HB.out)))); have n2_ := Aside0.mk (below_step (by repeat (first | (with_reducible first | exact HB.out | apply below_alloc | apply pw_below_drewN | apply below_drew1) | exact HB.out)) hb); clear HO_7; clear HB; have HO_7 := n0_; have HO399 := n1_; have HB := n2_; clear n0_ n1_ n2_; (try clear hb); (try clear hb2); (try clear hk); (try clear hi); (try clear ho0)))
                            repeat (go_quiet (first | (go_at_call 37; (with_reducible refine (rowlockref15_Depths.calls k4 _ _ l0 t395 t396 t397 _ ?side1 ?side2 A81.out).mono ?_); (case side1 => repeat (first | exact (Kd.C_below HR0.out HB.out) | (with_reducible refine Kd.C_alloc ?_ _) | (with_reducible refine Kd.C_drewN ?_ _) | (with_reducible refine Kd.C_drew ?_))); (case side2 => exact HC0.out); rintro e w82 ⟨v398, rfl, ho0, hb⟩; have n0_ := Aside0.mk (Kd.R_elder' (by (with_reducible repeat (first | apply Kd.R_alloc | apply Kd.R_drewN | apply Kd.R_drew)); exact HO_7.out) (Kd.R_base ho0) hb); have n1_ := Aside0.mk (Kd.R_lower (Kd.R_new' ho0 (Kd.R_lt (by (with_reducible repeat (first | apply Kd.R_alloc | apply Kd.R_drewN | apply Kd.R_drew)); exact HO_7.out))) (below_size (by repeat (first | (with_reducible first | exact HB.out | apply below_alloc | apply pw_below_drewN | apply below_drew1) | exact HB.out)))); have n2_ := Aside0.mk (below_step (by repeat (first | (with_reducible first | exact HB.out | apply below_alloc | apply pw_below_drewN | apply below_drew1) | exact HB.out)) hb); clear HO_7; clear HB; have HO_7 := n0_; have HO399 := n1_; have HB := n2_; clear n0_ n1_ n2_; (try clear hb); (try clear hb2); (try clear hk); (try clear hi); (try clear ho0))); try go_wp2_with (first | (go_at_call 37; (with_reducible refine (rowlockref15_Depths.calls k4 _ _ l0 t395 t396 t397 _ ?side1 ?side2 A81.out).mono ?_); (case side1 => repeat (first | exact (Kd.C_below HR0.out HB.out) | (with_reducible refine Kd.C_alloc ?_ _) | (with_reducible refine Kd.C_drewN ?_ _) | (with_reducible refine Kd.C_drew ?_))); (case side2 => exact HC0.out); rintro e w82 ⟨v398, rfl, ho0, hb⟩; have n0_ := Aside0.mk (Kd.R_elder' (by (with_reducible repeat (first | apply Kd.R_alloc | apply Kd.R_drewN | apply Kd.R_drew)); exact HO_7.out) (Kd.R_base ho0) hb); have n1_ := Aside0.mk (Kd.R_lower (Kd.R_new' ho0 (Kd.R_lt (by (with_reducible repeat (first | apply Kd.R_alloc | apply Kd.R_drewN | apply Kd.R_drew)); exact HO_7.out))) (below_size (by repeat (first | (with_reducible first | exact HB.out | apply below_alloc | apply pw_below_drewN | apply below_drew1) | exact HB.out)))); have n2_ := Aside0.mk (below_step (by repeat (first | (with_reducible first | exact HB.out | apply below_alloc | apply pw_below_drewN | apply below_drew1) | exact HB.out)) hb); clear HO_7; clear HB; have HO_7 := n0_; have HO399 := n1_; have HB := n2_; clear n0_ n1_ n2_; (try clear hb); (try clear hb2); (try clear hk); (try clear hi); (try clear ho0))))
                            go_ret2
                            exact ⟨by first | rfl | (simp [errW_none, errW_some] <;> rfl) | (simp [*, errW_none, errW_some] <;> rfl), by repeat (first | (with_reducible first | exact HB.out | apply below_alloc | apply pw_below_drewN | apply below_drew1) | exact HB.out)⟩
              · rw [if_neg c13] at H
                have c13b0 : (t385 == 0) = false := beq_eq_false_iff_ne.mpr c13
                have c13b1 : (t385 != 0) = true := bne_iff_ne.mpr c13
                simp only [Option.some.injEq, Prod.mk.injEq] at H
                obtain ⟨rfl, rfl⟩ := H
                go_wp2_with (first | (go_at_call 35; (with_reducible refine (rowlockref15_Regions.calls k2 _ _ l0 t383 t384 t385 _ ?side1 ?side2 A12.out).mono ?_); (case side1 => repeat (first | exact (Kd.C_below HR0.out HB.out) | (with_reducible refine Kd.C_alloc ?_ _) | (with_reducible refine Kd.C_drewN ?_ _) | (with_reducible refine Kd.C_drew ?_))); (case side2 => exact HC0.out); rintro e w83 ⟨v386, rfl, ho0, hb⟩; have n0_ := Aside0.mk (Kd.R_lower ho0 (below_size (by repeat (first | (with_reducible first | exact HB.out | apply below_alloc | apply pw_below_drewN | apply below_drew1) | exact HB.out)))); have n1_ := Aside0.mk (below_step (by repeat (first | (with_reducible first | exact HB.out | apply below_alloc | apply pw_below_drewN | apply below_drew1) | exact HB.out)) hb); clear HB; have HO387 := n0_; have HB := n1_; clear n0_ n1_; (try clear hb); (try clear hb2); (try clear hk); (try clear hi); (try clear ho0)))
                repeat (go_quiet (first | (go_at_call 35; (with_reducible refine (rowlockref15_Regions.calls k2 _ _ l0 t383 t384 t385 _ ?side1 ?side2 A12.out).mono ?_); (case side1 => repeat (first | exact (Kd.C_below HR0.out HB.out) | (with_reducible refine Kd.C_alloc ?_ _) | (with_reducible refine Kd.C_drewN ?_ _) | (with_reducible refine Kd.C_drew ?_))); (case side2 => exact HC0.out); rintro e w83 ⟨v386, rfl, ho0, hb⟩; have n0_ := Aside0.mk (Kd.R_lower ho0 (below_size (by repeat (first | (with_reducible first | exact HB.out | apply below_alloc | apply pw_below_drewN | apply below_drew1) | exact HB.out)))); have n1_ := Aside0.mk (below_step (by repeat (first | (with_reducible first | exact HB.out | apply below_alloc | apply pw_below_drewN | apply below_drew1) | exact HB.out)) hb); clear HB; have HO387 := n0_; have HB := n1_; clear n0_ n1_; (try clear hb); (try clear hb2); (try clear hk); (try clear hi); (try clear ho0))); try go_wp2_with (first | (go_at_call 35; (with_reducible refine (rowlockref15_Regions.calls k2 _ _ l0 t383 t384 t385 _ ?side1 ?side2 A12.out).mono ?_); (case side1 => repeat (first | exact (Kd.C_below HR0.out HB.out) | (with_reducible refine Kd.C_alloc ?_ _) | (with_reducible refine Kd.C_drewN ?_ _) | (with_reducible refine Kd.C_drew ?_))); (case side2 => exact HC0.out); rintro e w83 ⟨v386, rfl, ho0, hb⟩; have n0_ := Aside0.mk (Kd.R_lower ho0 (below_size (by repeat (first | (with_reducible first | exact HB.out | apply below_alloc | apply pw_below_drewN | apply below_drew1) | exact HB.out)))); have n1_ := Aside0.mk (below_step (by repeat (first | (with_reducible first | exact HB.out | apply below_alloc | apply pw_below_drewN | apply below_drew1) | exact HB.out)) hb); clear HB; have HO387 := n0_; have HB := n1_; clear n0_ n1_; (try clear hb); (try clear hb2); (try clear hk); (try clear hi); (try clear ho0))))
                go_ret2
                exact ⟨by first | rfl | (simp [errW_none, errW_some] <;> rfl) | (simp [*, errW_none, errW_some] <;> rfl), by repeat (first | (with_reducible first | exact HB.out | apply below_alloc | apply pw_below_drewN | apply below_drew1) | exact HB.out)⟩

end Go.Proofs.Ytcjkpeojjonpiaa.PLocksMay
