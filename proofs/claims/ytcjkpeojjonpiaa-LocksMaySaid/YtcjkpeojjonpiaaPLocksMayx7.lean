-- Written by a program of this session, over the kit's print; the contracts of some functions by hand.
import Derived.Test.YtcjkpeojjonpiaaPLocksMayx0
import Derived.Test.YtcjkpeojjonpiaaPLocksMayx6
namespace Go.Proofs.Ytcjkpeojjonpiaa.PLocksMay
open Go.RowKit Go.Proofs.YtcjkpeojjonpiaaW.PrintWords Go.Proofs.YtcjkpeojjonpiaaW.PrintLast Go.Proofs.YtcjkpeojjonpiaaW.PrintMore
attribute [local go_sem] max2_int min2_int max_two min_two max_three min_three max_four min_four   -- for this text's walks alone
set_option linter.unusedVariables false
set_option linter.unusedSimpArgs false

/-! ### rowlockref15_spread: function 67 -/
mutual
def rowlockref15_spread.j0 : Nat → List (S35) → List Int → Int → Int → Bool → Option (Int × List Int)
  | 0, _, _, _, _, _ => none
  | k + 1, x0, x1, x2, x9, x38 => if x38 = true then (some (12, x1)) else ((rowlockref15_next.f x0 x2).bind fun t353 => (rowlockref15_spread.l0 k x0 x1 x9 t353 0))
def rowlockref15_spread.l0 : Nat → List (S35) → List Int → Int → List Int → Int → Option (Int × List Int)
  | 0, _, _, _, _, _ => none
  | k + 1, x0, x1, x9, x10, x11 => if x11 < (x10.length : Int) then (if 0 ≤ x11 then (if (rd x10 x11) < 0 then (rowlockref15_spread.j2 k x0 x1 x9 x10 x11 true) else (rowlockref15_spread.j2 k x0 x1 x9 x10 x11 (decide ((rd x10 x11) ≥ (x0.length : Int))))) else (none)) else (some (0, x1))
def rowlockref15_spread.j2 : Nat → List (S35) → List Int → Int → List Int → Int → Bool → Option (Int × List Int)
  | 0, _, _, _, _, _, _ => none
  | k + 1, x0, x1, x9, x10, x11, x48 => if x48 = true then (some (3, x1)) else (if 0 ≤ x11 then (if x11 < (x10.length : Int) then (if 0 ≤ (rd x10 x11) then (if (rd x10 x11) < (x1.length : Int) then (if (rd x1 (rd x10 x11)) < 0 then (rowlockref15_spread.l0 k x0 (x1.set ((rd x10 x11) : Int).toNat x9) x9 x10 (wrap64 (x11 + 1))) else (if (rd x1 (rd x10 x11)) = x9 then (rowlockref15_spread.l0 k x0 x1 x9 x10 (wrap64 (x11 + 1))) else (some (12, x1)))) else (none)) else (none)) else (none)) else (none))
end
def rowlockref15_spread.f (k : Nat) (l0 : List (S35)) (l1 : List Int) (a2 : Int) : Option (Int × List Int) := if 0 ≤ a2 then (if a2 < (l0.length : Int) then ((rowlockref14_Effect.f k ((rd_T35 l0 a2).f0)).bind fun bt349 => (if a2 < (l1.length : Int) then (if (rd l1 a2) < bt349.1 then (rowlockref15_spread.j0 k l0 l1 a2 (wrap64 ((wrap64 ((rd l1 a2) - bt349.1)) + bt349.2)) true) else (rowlockref15_spread.j0 k l0 l1 a2 (wrap64 ((wrap64 ((rd l1 a2) - bt349.1)) + bt349.2)) (decide ((wrap64 ((wrap64 ((rd l1 a2) - bt349.1)) + bt349.2)) > 12)))) else (none))) else (none)) else (none)
theorem rowlockref15_spread.mono_l : ∀ k, (∀ y0 y1 y2 y3 y4, LeO (rowlockref15_spread.j0 k y0 y1 y2 y3 y4) (rowlockref15_spread.j0 (k + 1) y0 y1 y2 y3 y4)) ∧ (∀ y0 y1 y2 y3 y4, LeO (rowlockref15_spread.l0 k y0 y1 y2 y3 y4) (rowlockref15_spread.l0 (k + 1) y0 y1 y2 y3 y4)) ∧ (∀ y0 y1 y2 y3 y4 y5, LeO (rowlockref15_spread.j2 k y0 y1 y2 y3 y4 y5) (rowlockref15_spread.j2 (k + 1) y0 y1 y2 y3 y4 y5))
  | 0 => ⟨fun _ _ _ _ _ r h => by simp [rowlockref15_spread.j0] at h, fun _ _ _ _ _ r h => by simp [rowlockref15_spread.l0] at h, fun _ _ _ _ _ _ r h => by simp [rowlockref15_spread.j2] at h⟩
  | k + 1 => by
    obtain ⟨ih0, ih1, ih2⟩ := rowlockref15_spread.mono_l k
    refine ⟨?_, ?_, ?_⟩
    · intro y0 y1 y2 y3 y4
      unfold rowlockref15_spread.j0
      repeat' first
      | (with_reducible exact ih0 _ _ _ _ _)
      | (with_reducible exact ih1 _ _ _ _ _)
      | (with_reducible exact ih2 _ _ _ _ _ _)
      | (with_reducible exact rowlockref14_Effect.mono _ _)
      | (with_reducible exact LeO.refl _)
      | (with_reducible exact LeO.none _)
      | (with_reducible refine LeO.ite ?_ ?_)
      | (with_reducible refine LeO.bind ?_ (fun _ => ?_))
      | exact ih0 _ _ _ _ _
      | exact ih1 _ _ _ _ _
      | exact ih2 _ _ _ _ _ _
      | exact rowlockref14_Effect.mono _ _
      | exact LeO.none _
      | refine LeO.ite ?_ ?_
      | refine LeO.bind ?_ (fun _ => ?_)
    · intro y0 y1 y2 y3 y4
      unfold rowlockref15_spread.l0
      repeat' first
      | (with_reducible exact ih0 _ _ _ _ _)
      | (with_reducible exact ih1 _ _ _ _ _)
      | (with_reducible exact ih2 _ _ _ _ _ _)
      | (with_reducible exact rowlockref14_Effect.mono _ _)
      | (with_reducible exact LeO.refl _)
      | (with_reducible exact LeO.none _)
      | (with_reducible refine LeO.ite ?_ ?_)
      | (with_reducible refine LeO.bind ?_ (fun _ => ?_))
      | exact ih0 _ _ _ _ _
      | exact ih1 _ _ _ _ _
      | exact ih2 _ _ _ _ _ _
      | exact rowlockref14_Effect.mono _ _
      | exact LeO.none _
      | refine LeO.ite ?_ ?_
      | refine LeO.bind ?_ (fun _ => ?_)
    · intro y0 y1 y2 y3 y4 y5
      unfold rowlockref15_spread.j2
      repeat' first
      | (with_reducible exact ih0 _ _ _ _ _)
      | (with_reducible exact ih1 _ _ _ _ _)
      | (with_reducible exact ih2 _ _ _ _ _ _)
      | (with_reducible exact rowlockref14_Effect.mono _ _)
      | (with_reducible exact LeO.refl _)
      | (with_reducible exact LeO.none _)
      | (with_reducible refine LeO.ite ?_ ?_)
      | (with_reducible refine LeO.bind ?_ (fun _ => ?_))
      | exact ih0 _ _ _ _ _
      | exact ih1 _ _ _ _ _
      | exact ih2 _ _ _ _ _ _
      | exact rowlockref14_Effect.mono _ _
      | exact LeO.none _
      | refine LeO.ite ?_ ?_
      | refine LeO.bind ?_ (fun _ => ?_)
theorem rowlockref15_spread.mono : ∀ a0 a1 a2 k, LeO (rowlockref15_spread.f k a0 a1 a2) (rowlockref15_spread.f (k + 1) a0 a1 a2) := by
  intro a0 a1 a2 k
  obtain ⟨ih0, ih1, ih2⟩ := rowlockref15_spread.mono_l k
  unfold rowlockref15_spread.f
  repeat' first
      | (with_reducible exact ih0 _ _ _ _ _)
      | (with_reducible exact ih1 _ _ _ _ _)
      | (with_reducible exact ih2 _ _ _ _ _ _)
      | (with_reducible exact rowlockref14_Effect.mono _ _)
      | (with_reducible exact LeO.refl _)
      | (with_reducible exact LeO.none _)
      | (with_reducible refine LeO.ite ?_ ?_)
      | (with_reducible refine LeO.bind ?_ (fun _ => ?_))
      | exact ih0 _ _ _ _ _
      | exact ih1 _ _ _ _ _
      | exact ih2 _ _ _ _ _ _
      | exact rowlockref14_Effect.mono _ _
      | exact LeO.none _
      | refine LeO.ite ?_ ?_
      | refine LeO.bind ?_ (fun _ => ?_)
set_option maxHeartbeats 8000000 in
set_option maxRecDepth 100000 in
theorem rowlockref15_spread.calls (k : Nat) (A0 : Option Addr) (c0 : Nat) (l0 : List (S35)) (P1_ : Nat → Prop) (u9000_ : Value) (l1 : List Int) (a2 : Int) (r1 : Int) (r2 : List Int) (w0 w : World) (hB : Below w0.heap.size w0 w) (hr0 : ∀ W_, Kept w W_ (fun k_ => P1_ k_) → Kd.C k35 W_ A0 l0.length l0) (hc0 : l0.length ≤ c0) (ho1 : Kd.R (Kd.int .i64) 3 w w0.heap.size P1_ u9000_ l1) (h : rowlockref15_spread.f k l0 l1 a2 = some (r1, r2)) :
    Calls Try.prog 67 #[.slice A0 l0.length c0, u9000_, .int .i64 a2] w fun e w' => e = .returned (.int .i64 r1) ∧ Kd.R (Kd.int .i64) 3 w' w0.heap.size (fun k_ => (P1_ k_ ∨ w.heap.size ≤ k_)) u9000_ r2 ∧ Below w0.heap.size w0 w' ∧ Kept w w' (fun k_ => P1_ k_) := by
  have HR0 := Aside0.mk hr0
  have HC0 := Aside0.mk hc0
  clear hr0 hc0
  have HO1 := Aside0.mk (show Kd.R (Kd.int .i64) 3 w w0.heap.size (fun k_ => (P1_ k_ ∨ w.heap.size ≤ k_)) u9000_ l1 from Kd.R_mono ho1 (fun k_ hk => (.inl hk)))
  have HK := Aside0.mk (Kept.refl w (fun k_ => P1_ k_))
  have HW0 := Aside0.mk hB.size
  have HB := Aside0.mk hB
  clear hB
  have H : (if 0 ≤ a2 then (if a2 < (l0.length : Int) then ((rowlockref14_Effect.f k ((rd_T35 l0 a2).f0)).bind fun bt349 => (if a2 < (l1.length : Int) then (if (rd l1 a2) < bt349.1 then (rowlockref15_spread.j0 k l0 l1 a2 (wrap64 ((wrap64 ((rd l1 a2) - bt349.1)) + bt349.2)) true) else (rowlockref15_spread.j0 k l0 l1 a2 (wrap64 ((wrap64 ((rd l1 a2) - bt349.1)) + bt349.2)) (decide ((wrap64 ((wrap64 ((rd l1 a2) - bt349.1)) + bt349.2)) > 12)))) else (none))) else (none)) else (none)) = some (r1, r2) := h
  clear h
  by_cases c4 : 0 ≤ a2
  · rw [if_pos c4] at H
    have c4b0 : decide (0 ≤ a2) = true := decide_eq_true c4
    clear c4
    by_cases c5 : a2 < (l0.length : Int)
    · rw [if_pos c5] at H
      have c5b0 : decide (a2 < (l0.length : Int)) = true := decide_eq_true c5
      clear c5
      replace H := Option.bind_eq_some_iff.mp H
      obtain ⟨⟨t349, t350⟩, A60, H⟩ := H
      replace H : (if a2 < (l1.length : Int) then (if (rd l1 a2) < t349 then (rowlockref15_spread.j0 k l0 l1 a2 (wrap64 ((wrap64 ((rd l1 a2) - t349)) + t350)) true) else (rowlockref15_spread.j0 k l0 l1 a2 (wrap64 ((wrap64 ((rd l1 a2) - t349)) + t350)) (decide ((wrap64 ((wrap64 ((rd l1 a2) - t349)) + t350)) > 12)))) else (none)) = some (r1, r2) := H
      have A6 := Aside0.mk A60
      clear A60
      by_cases c7 : a2 < (l1.length : Int)
      · rw [if_pos c7] at H
        have c7b0 : decide (a2 < (l1.length : Int)) = true := decide_eq_true c7
        clear c7
        have HC8 := Aside0.mk H
        clear H
        have p348 : 0 ≤ (a2 : Int) := of_decide_eq_true (by first | (with_reducible assumption) | assumption)
        have q348 : a2 < (l0.length : Int) := of_decide_eq_true (by first | (with_reducible assumption) | assumption)
        obtain ⟨ad348, e348, hx348_0, hx348_1, hx348_2⟩ := at_T35 (Kd.C_kept_now HR0.out HK.out) a2 p348 q348
        cases e348
        replace p348 := eq_true p348
        replace q348 := eq_true q348
        go_enter Try.func67, Try.ntmps67
        go_upto_region 3 with (first | ((with_reducible refine gate_callee (f := 73) rfl ?_); refine goesL_ (some 18) rfl rfl Try.func73 (by kernel_rfl) rfl #[.int .u8 ((rd_T35 l0 a2).f0)] rfl (by (try simp only [List.map_toArray, List.map_cons, List.map_nil]); first | done | rfl | (simp only [List.length_drop, List.length_take]; rfl)) ?_; (with_reducible refine (rowlockref14_Effect.calls k ((rd_T35 l0 a2).f0) t349 t350 _ A6.out).mono ?_); rintro e w' ⟨rfl, ⟨nd, rfl⟩⟩; refine ⟨_, rfl, ?_⟩; obtain ⟨Ao9, co9, eo9⟩ := Kd.R_slice HO1.out; subst eo9; have p351 : 0 ≤ (a2 : Int) := of_decide_eq_true (by first | (with_reducible assumption) | assumption); have q351 : a2 < (l1.length : Int) := of_decide_eq_true (by first | (with_reducible assumption) | assumption); obtain ⟨ad351, e351, hx351_0⟩ := Kd.at_int (Kd.R_reads' HO1.out).2.2 a2 p351 q351; cases e351; replace p351 := eq_true p351; replace q351 := eq_true q351))
        (try simp only [Act.put, List.setIfInBounds_toArray, List.set_cons_zero, List.set_cons_succ])
        go_cut [38] (fun v38 wc => ∃ (kq : Nat) (x38_7 : Bool), v38 = .bool x38_7 ∧ Aside0 (rowlockref15_spread.j0 kq l0 l1 a2 (wrap64 ((wrap64 ((rd l1 a2) - t349)) + t350)) x38_7 = some (r1, r2)) ∧ Aside0 (kq ≤ k) ∧ Aside0 (Kd.R (Kd.int .i64) 3 wc w0.heap.size (fun k_ => (P1_ k_ ∨ w.heap.size ≤ k_)) (.slice (some ad351) l1.length co9) l1) ∧ Aside0 (Kept w wc (fun k_ => P1_ k_)) ∧ Aside0 (Below w0.heap.size w0 wc))
        case first =>
          have H := HC8.out
          clear HC8
          by_cases c10 : (rd l1 a2) < t349
          · rw [if_pos c10] at H
            have c10b0 : decide ((rd l1 a2) < t349) = true := decide_eq_true c10
            clear c10
            (first | rw [c10b0] | (simp only [i64_w, i32_w]; rw [c10b0]) | skip)
            have H' := Aside0.mk H
            clear H
            have p352 : 0 ≤ (a2 : Int) := of_decide_eq_true (by first | (with_reducible assumption) | assumption)
            have q352 : a2 < (l1.length : Int) := of_decide_eq_true (by first | (with_reducible assumption) | assumption)
            obtain ⟨ad352, e352, hx352_0⟩ := Kd.at_int (Kd.R_reads' HO1.out).2.2 a2 p352 q352
            obtain rfl : ad351 = ad352 := (by injection e352)
            replace p352 := eq_true p352
            replace q352 := eq_true q352
            go_wp2
            go_meet
            case rel => exact ⟨_, (true), (by first | rfl | (simp; done) | (simp [*]; done)), H', ⟨by first | omega | exact Nat.le_refl _⟩, ⟨by (with_reducible repeat (first | apply Kd.R_alloc | apply Kd.R_drewN | apply Kd.R_drew)); exact HO1.out⟩, ⟨by repeat (first | (with_reducible first | exact HK.out | apply Kept.alloc | apply Kept.drewN | apply Kept.drew) | exact HK.out)⟩, ⟨by repeat (first | (with_reducible first | exact HB.out | apply below_alloc | apply pw_below_drewN | apply below_drew1) | exact HB.out)⟩⟩
          · rw [if_neg c10] at H
            have c10b0 : decide ((rd l1 a2) < t349) = false := decide_eq_false c10
            clear c10
            (first | rw [c10b0] | (simp only [i64_w, i32_w]; rw [c10b0]) | skip)
            have H' := Aside0.mk H
            clear H
            have p352 : 0 ≤ (a2 : Int) := of_decide_eq_true (by first | (with_reducible assumption) | assumption)
            have q352 : a2 < (l1.length : Int) := of_decide_eq_true (by first | (with_reducible assumption) | assumption)
            obtain ⟨ad352, e352, hx352_0⟩ := Kd.at_int (Kd.R_reads' HO1.out).2.2 a2 p352 q352
            obtain rfl : ad351 = ad352 := (by injection e352)
            replace p352 := eq_true p352
            replace q352 := eq_true q352
            go_wp2
            go_meet
            case rel => exact ⟨_, (decide ((wrap64 ((wrap64 ((rd l1 a2) - t349)) + t350)) > 12)), (by first | rfl | (simp; done) | (simp [*]; done)), H', ⟨by first | omega | exact Nat.le_refl _⟩, ⟨by (with_reducible repeat (first | apply Kd.R_alloc | apply Kd.R_drewN | apply Kd.R_drew)); exact HO1.out⟩, ⟨by repeat (first | (with_reducible first | exact HK.out | apply Kept.alloc | apply Kept.drewN | apply Kept.drew) | exact HK.out)⟩, ⟨by repeat (first | (with_reducible first | exact HB.out | apply below_alloc | apply pw_below_drewN | apply below_drew1) | exact HB.out)⟩⟩
        case rest =>
          clear HC8
          try clear c1
          try clear p2
          try clear p3
          try clear q3
          try clear hx3
          try clear c4
          try clear c4b0
          try clear c5
          try clear c5b0
          try clear c6
          try clear p6
          try clear c7
          try clear c7b0
          try clear c10
          try clear c10b0
          try clear hx348_0
          try clear hx348_1
          try clear hx348_2
          try clear hx351_0
          try clear hx352_0
          try clear p348
          try clear p351
          try clear p352
          try clear q348
          try clear q351
          try clear q352
          obtain ⟨kq, x38_7, rfl, HA, HJ7, HO_1, HK, HB⟩ := hcut
          cases kq with
          | zero => exact absurd HA.out (by simp [rowlockref15_spread.j0])
          | succ kj7 =>
            have H := HA.out
            clear HA
            simp only [rowlockref15_spread.j0] at H
            by_cases c11 : x38_7 = true
            · subst c11
              have H1 : (some (12, l1)) = some (r1, r2) := by rw [if_pos rfl] at H; exact H
              clear H
              have H := H1
              clear H1
              simp only [Option.some.injEq, Prod.mk.injEq] at H
              obtain ⟨rfl, rfl⟩ := H
              go_wp2
              go_ret
              exact ⟨by first | rfl | (simp [errW_none, errW_some] <;> rfl) | (simp [*, errW_none, errW_some] <;> rfl), by (with_reducible repeat (first | apply Kd.R_alloc | apply Kd.R_drewN | apply Kd.R_drew)); exact HO_1.out, by repeat (first | (with_reducible first | exact HB.out | apply below_alloc | apply pw_below_drewN | apply below_drew1) | exact HB.out), by repeat (first | (with_reducible first | exact HK.out | apply Kept.alloc | apply Kept.drewN | apply Kept.drew) | exact HK.out)⟩
            · replace c11 := Bool.eq_false_iff.mpr c11
              subst c11
              have H1 : ((rowlockref15_next.f l0 a2).bind fun t353 => (rowlockref15_spread.l0 kj7 l0 l1 (wrap64 ((wrap64 ((rd l1 a2) - t349)) + t350)) t353 0)) = some (r1, r2) := by rw [if_neg (show ¬ (false = true) by decide)] at H; exact H
              clear H
              have H := H1
              clear H1
              replace H := Option.bind_eq_some_iff.mp H
              obtain ⟨t353, A120, H⟩ := H
              replace H : (rowlockref15_spread.l0 kj7 l0 l1 (wrap64 ((wrap64 ((rd l1 a2) - t349)) + t350)) t353 0) = some (r1, r2) := H
              have A12 := Aside0.mk A120
              clear A120
              have H' := Aside0.mk H
              clear H
              go_wp2_with (first | ((with_reducible refine gate_callee (f := 85) rfl ?_); refine goesL_ (some 41) rfl rfl Try.func85 (by kernel_rfl) rfl #[.slice (some ad348) l0.length c0, .int .i64 a2] rfl (by (try simp only [List.map_toArray, List.map_cons, List.map_nil]); first | done | rfl | (simp only [List.length_drop, List.length_take]; rfl)) ?_; (with_reducible refine (rowlockref15_next.calls _ _ l0 a2 t353 _ ?side1 ?side2 A12.out).mono ?_); (case side1 => exact Kd.C_kept_now HR0.out (by repeat (first | (with_reducible first | exact HK.out | apply Kept.alloc | apply Kept.drewN | apply Kept.drew) | exact HK.out))); (case side2 => exact HC0.out); rintro e w13 ⟨v354, rfl, ho0, hb⟩; refine ⟨_, rfl, ?_⟩; have n0_ := Aside0.mk (Kd.R_elder' (by (with_reducible repeat (first | apply Kd.R_alloc | apply Kd.R_drewN | apply Kd.R_drew)); exact HO_1.out) (Kd.R_base ho0) hb); have n1_ := Aside0.mk (Kd.R_lower (Kd.R_new' (Kd.R_newM (M := fun k_ => (P1_ k_ ∨ w.heap.size ≤ k_)) ho0 (by first | exact HK.out.1 | exact (show Kept w _ (fun k_ => P1_ k_) from by repeat (first | (with_reducible first | exact HK.out | apply Kept.alloc | apply Kept.drewN | apply Kept.drew) | exact HK.out)).1) (fun k_ h_ => .inr h_)) (Kd.R_lt (by (with_reducible repeat (first | apply Kd.R_alloc | apply Kd.R_drewN | apply Kd.R_drew)); exact HO_1.out))) (below_size (by repeat (first | (with_reducible first | exact HB.out | apply below_alloc | apply pw_below_drewN | apply below_drew1) | exact HB.out)))); have n2_ := Aside0.mk (Kept.below (S := (fun k_ => P1_ k_)) (by repeat (first | (with_reducible first | exact HK.out | apply Kept.alloc | apply Kept.drewN | apply Kept.drew) | exact HK.out)) hb); have n3_ := Aside0.mk (below_step (by repeat (first | (with_reducible first | exact HB.out | apply below_alloc | apply pw_below_drewN | apply below_drew1) | exact HB.out)) hb); clear HO_1; clear HK; clear HB; have HO_1 := n0_; have HO355 := n1_; have HK := n2_; have HB := n3_; clear n0_ n1_ n2_ n3_; (try clear hb); (try clear hb2); (try clear hk); (try clear hi); (try clear ho0)))
              go_loopg [11] kj7 (fun kq v11 w' => ∃ (x1_2 : List Int) (x11_2 : Int), v11 = .int .i64 x11_2 ∧ Aside0 (rowlockref15_spread.l0 kq l0 x1_2 (wrap64 ((wrap64 ((rd l1 a2) - t349)) + t350)) t353 x11_2 = some (r1, r2)) ∧ Aside0 (kq ≤ kj7) ∧ Aside0 (Kd.R (Kd.int .i64) 3 w' w0.heap.size (fun k_ => (P1_ k_ ∨ w.heap.size ≤ k_) ∧ some k_ ≠ (v354 : Value).ownBlock) (.slice (some ad351) l1.length co9) x1_2) ∧ Aside0 (Kd.R (Kd.int .i64) 3 w' w0.heap.size (fun k_ => (P1_ k_ ∨ w.heap.size ≤ k_) ∧ some k_ ≠ ((.slice (some ad351) l1.length co9) : Value).ownBlock) v354 t353) ∧ Aside0 (Kept w w' (fun k_ => P1_ k_)) ∧ Aside0 (Below w0.heap.size w0 w'))
              case atStart => exact ⟨(l1), (0), (by first | rfl | (simp; done) | (simp [*]; done)), H', ⟨Nat.le_refl _⟩, ⟨by (with_reducible repeat (first | apply Kd.R_alloc | apply Kd.R_drewN | apply Kd.R_drew)); exact HO_1.out⟩, ⟨by (with_reducible repeat (first | apply Kd.R_alloc | apply Kd.R_drewN | apply Kd.R_drew)); exact Kd.R_mono HO355.out (fun _ hk => ⟨hk.1.1, hk.2⟩)⟩, ⟨by repeat (first | (with_reducible first | exact HK.out | apply Kept.alloc | apply Kept.drewN | apply Kept.drew) | exact HK.out)⟩, ⟨by repeat (first | (with_reducible first | exact HB.out | apply below_alloc | apply pw_below_drewN | apply below_drew1) | exact HB.out)⟩⟩
              case round =>
                clear H'
                try clear c1
                try clear p2
                try clear p3
                try clear q3
                try clear hx3
                try clear c4
                try clear c4b0
                try clear c5
                try clear c5b0
                try clear c6
                try clear p6
                try clear c7
                try clear c7b0
                try clear c8
                try clear c10
                try clear c10b0
                try clear c11
                try clear hx348_0
                try clear hx348_1
                try clear hx348_2
                try clear hx351_0
                try clear hx352_0
                try clear p2
                try clear p3
                try clear p348
                try clear p351
                try clear p352
                try clear p6
                try clear q3
                try clear q348
                try clear q351
                try clear q352
                obtain ⟨x1_2, x11_2, rfl, HA, HK2, HO_1, HO_10, HK, HB⟩ := hrel
                have hl1_2 := (Kd.R_reads' HO_1.out).1
                rw [hl1_2] at HO_1
                (try simp only [hl1_2])
                (try simp only [hl1_2] at HO_10)
                cases gk with
                | zero => exact absurd HA.out (by simp [rowlockref15_spread.l0])
                | succ k2 =>
                  have H := HA.out
                  clear HA
                  simp only [rowlockref15_spread.l0] at H
                  by_cases c14 : x11_2 < (t353.length : Int)
                  · rw [if_pos c14] at H
                    have c14b0 : decide (x11_2 < (t353.length : Int)) = true := decide_eq_true c14
                    clear c14
                    have HC15 := Aside0.mk H
                    clear H
                    obtain ⟨Ao16, co16, eo16⟩ := Kd.R_slice HO_10.out
                    subst eo16
                    go_upto_region 9 with (fail)
                    go_cut [48] (fun v48 wc => ∃ (kq : Nat) (x48_14 : Bool), v48 = .bool x48_14 ∧ Aside0 (rowlockref15_spread.j2 kq l0 x1_2 (wrap64 ((wrap64 ((rd l1 a2) - t349)) + t350)) t353 x11_2 x48_14 = some (r1, r2)) ∧ Aside0 (kq ≤ k2) ∧ Aside0 (Kd.R (Kd.int .i64) 3 wc w0.heap.size (fun k_ => (P1_ k_ ∨ w.heap.size ≤ k_) ∧ some k_ ≠ ((.slice Ao16 t353.length co16) : Value).ownBlock) (.slice (some ad351) x1_2.length co9) x1_2) ∧ Aside0 (Kd.R (Kd.int .i64) 3 wc w0.heap.size (fun k_ => (P1_ k_ ∨ w.heap.size ≤ k_) ∧ some k_ ≠ ((.slice (some ad351) x1_2.length co9) : Value).ownBlock) (.slice Ao16 t353.length co16) t353) ∧ Aside0 (Kept w wc (fun k_ => P1_ k_)) ∧ Aside0 (Below w0.heap.size w0 wc))
                    case first =>
                      have H := HC15.out
                      clear HC15
                      by_cases c17 : 0 ≤ x11_2
                      · rw [if_pos c17] at H
                        have c17b0 : decide (0 ≤ x11_2) = true := decide_eq_true c17
                        clear c17
                        (first | rw [c17b0] | (simp only [i64_w, i32_w]; rw [c17b0]) | skip)
                        by_cases c18 : (rd t353 x11_2) < 0
                        · rw [if_pos c18] at H
                          have c18b0 : decide ((rd t353 x11_2) < 0) = true := decide_eq_true c18
                          clear c18
                          have H' := Aside0.mk H
                          clear H
                          have p356 : 0 ≤ (x11_2 : Int) := of_decide_eq_true (by first | (with_reducible assumption) | assumption)
                          have q356 : x11_2 < (t353.length : Int) := of_decide_eq_true (by first | (with_reducible assumption) | assumption)
                          obtain ⟨ad356, e356, hx356_0⟩ := Kd.at_int (Kd.R_reads' HO_10.out).2.2 x11_2 p356 q356
                          cases e356
                          replace p356 := eq_true p356
                          replace q356 := eq_true q356
                          go_wp2
                          go_meet
                          case rel => exact ⟨_, (true), (by first | rfl | (simp; done) | (simp [*]; done)), H', ⟨by have := HJ7.out; have := HK2.out; first | omega | exact Nat.le_refl _⟩, ⟨by (try simp only [hl1_2]); (with_reducible repeat (first | apply Kd.R_alloc | apply Kd.R_drewN | apply Kd.R_drew)); exact HO_1.out⟩, ⟨by (try simp only [hl1_2]); (with_reducible repeat (first | apply Kd.R_alloc | apply Kd.R_drewN | apply Kd.R_drew)); exact HO_10.out⟩, ⟨by repeat (first | (with_reducible first | exact HK.out | apply Kept.alloc | apply Kept.drewN | apply Kept.drew) | exact HK.out)⟩, ⟨by repeat (first | (with_reducible first | exact HB.out | apply below_alloc | apply pw_below_drewN | apply below_drew1) | exact HB.out)⟩⟩
                        · rw [if_neg c18] at H
                          have c18b0 : decide ((rd t353 x11_2) < 0) = false := decide_eq_false c18
                          clear c18
                          have H' := Aside0.mk H
                          clear H
                          have p356 : 0 ≤ (x11_2 : Int) := of_decide_eq_true (by first | (with_reducible assumption) | assumption)
                          have q356 : x11_2 < (t353.length : Int) := of_decide_eq_true (by first | (with_reducible assumption) | assumption)
                          obtain ⟨ad356, e356, hx356_0⟩ := Kd.at_int (Kd.R_reads' HO_10.out).2.2 x11_2 p356 q356
                          cases e356
                          replace p356 := eq_true p356
                          replace q356 := eq_true q356
                          have p357 : 0 ≤ (x11_2 : Int) := of_decide_eq_true (by first | (with_reducible assumption) | assumption)
                          have q357 : x11_2 < (t353.length : Int) := of_decide_eq_true (by first | (with_reducible assumption) | assumption)
                          obtain ⟨ad357, e357, hx357_0⟩ := Kd.at_int (Kd.R_reads' HO_10.out).2.2 x11_2 p357 q357
                          obtain rfl : ad356 = ad357 := (by injection e357)
                          replace p357 := eq_true p357
                          replace q357 := eq_true q357
                          go_wp2
                          go_meet
                          case rel => exact ⟨_, (decide ((rd t353 x11_2) ≥ (l0.length : Int))), (by first | rfl | (simp; done) | (simp [*]; done)), H', ⟨by have := HJ7.out; have := HK2.out; first | omega | exact Nat.le_refl _⟩, ⟨by (try simp only [hl1_2]); (with_reducible repeat (first | apply Kd.R_alloc | apply Kd.R_drewN | apply Kd.R_drew)); exact HO_1.out⟩, ⟨by (try simp only [hl1_2]); (with_reducible repeat (first | apply Kd.R_alloc | apply Kd.R_drewN | apply Kd.R_drew)); exact HO_10.out⟩, ⟨by repeat (first | (with_reducible first | exact HK.out | apply Kept.alloc | apply Kept.drewN | apply Kept.drew) | exact HK.out)⟩, ⟨by repeat (first | (with_reducible first | exact HB.out | apply below_alloc | apply pw_below_drewN | apply below_drew1) | exact HB.out)⟩⟩
                      · rw [if_neg c17] at H
                        exact absurd H (by simp)
                    case rest =>
                      clear HC15
                      try clear c1
                      try clear p2
                      try clear p3
                      try clear q3
                      try clear hx3
                      try clear c4
                      try clear c4b0
                      try clear c5
                      try clear c5b0
                      try clear c6
                      try clear p6
                      try clear c7
                      try clear c7b0
                      try clear c8
                      try clear c10
                      try clear c10b0
                      try clear c11
                      try clear c14
                      try clear c14b0
                      try clear c17
                      try clear c17b0
                      try clear c18
                      try clear c18b0
                      try clear hx348_0
                      try clear hx348_1
                      try clear hx348_2
                      try clear hx351_0
                      try clear hx352_0
                      try clear hx356_0
                      try clear hx357_0
                      try clear p2
                      try clear p3
                      try clear p348
                      try clear p351
                      try clear p352
                      try clear p356
                      try clear p357
                      try clear p6
                      try clear q3
                      try clear q348
                      try clear q351
                      try clear q352
                      try clear q356
                      try clear q357
                      obtain ⟨kq, x48_14, rfl, HA, HJ14, HO_1, HO_10, HK, HB⟩ := hcut
                      cases kq with
                      | zero => exact absurd HA.out (by simp [rowlockref15_spread.j2])
                      | succ kj14 =>
                        have H := HA.out
                        clear HA
                        simp only [rowlockref15_spread.j2] at H
                        by_cases c19 : x48_14 = true
                        · subst c19
                          have H1 : (some (3, x1_2)) = some (r1, r2) := by rw [if_pos rfl] at H; exact H
                          clear H
                          have H := H1
                          clear H1
                          simp only [Option.some.injEq, Prod.mk.injEq] at H
                          obtain ⟨rfl, rfl⟩ := H
                          go_wp2
                          go_ret
                          exact ⟨by first | rfl | (simp [errW_none, errW_some] <;> rfl) | (simp [*, errW_none, errW_some] <;> rfl), (by first | exact (by (with_reducible repeat (first | apply Kd.R_alloc | apply Kd.R_drewN | apply Kd.R_drew)); exact Kd.R_mono HO_1.out (fun _ hk => hk.1)) | (simp only [hl1_2]; exact (by (with_reducible repeat (first | apply Kd.R_alloc | apply Kd.R_drewN | apply Kd.R_drew)); exact Kd.R_mono HO_1.out (fun _ hk => hk.1)))), by repeat (first | (with_reducible first | exact HB.out | apply below_alloc | apply pw_below_drewN | apply below_drew1) | exact HB.out), by repeat (first | (with_reducible first | exact HK.out | apply Kept.alloc | apply Kept.drewN | apply Kept.drew) | exact HK.out)⟩
                        · replace c19 := Bool.eq_false_iff.mpr c19
                          subst c19
                          have H1 : (if 0 ≤ x11_2 then (if x11_2 < (t353.length : Int) then (if 0 ≤ (rd t353 x11_2) then (if (rd t353 x11_2) < (x1_2.length : Int) then (if (rd x1_2 (rd t353 x11_2)) < 0 then (rowlockref15_spread.l0 kj14 l0 (x1_2.set ((rd t353 x11_2) : Int).toNat (wrap64 ((wrap64 ((rd l1 a2) - t349)) + t350))) (wrap64 ((wrap64 ((rd l1 a2) - t349)) + t350)) t353 (wrap64 (x11_2 + 1))) else (if (rd x1_2 (rd t353 x11_2)) = (wrap64 ((wrap64 ((rd l1 a2) - t349)) + t350)) then (rowlockref15_spread.l0 kj14 l0 x1_2 (wrap64 ((wrap64 ((rd l1 a2) - t349)) + t350)) t353 (wrap64 (x11_2 + 1))) else (some (12, x1_2)))) else (none)) else (none)) else (none)) else (none)) = some (r1, r2) := by rw [if_neg (show ¬ (false = true) by decide)] at H; exact H
                          clear H
                          have H := H1
                          clear H1
                          by_cases c20 : 0 ≤ x11_2
                          · rw [if_pos c20] at H
                            have c20b0 : decide (0 ≤ x11_2) = true := decide_eq_true c20
                            clear c20
                            by_cases c21 : x11_2 < (t353.length : Int)
                            · rw [if_pos c21] at H
                              have c21b0 : decide (x11_2 < (t353.length : Int)) = true := decide_eq_true c21
                              clear c21
                              by_cases c22 : 0 ≤ (rd t353 x11_2)
                              · rw [if_pos c22] at H
                                have c22b0 : decide (0 ≤ (rd t353 x11_2)) = true := decide_eq_true c22
                                clear c22
                                by_cases c23 : (rd t353 x11_2) < (x1_2.length : Int)
                                · rw [if_pos c23] at H
                                  have c23b0 : decide ((rd t353 x11_2) < (x1_2.length : Int)) = true := decide_eq_true c23
                                  clear c23
                                  by_cases c24 : (rd x1_2 (rd t353 x11_2)) < 0
                                  · rw [if_pos c24] at H
                                    have c24b0 : decide ((rd x1_2 (rd t353 x11_2)) < 0) = true := decide_eq_true c24
                                    clear c24
                                    obtain ⟨y361, hy361⟩ : ∃ y_ : List Int, y_ = (x1_2.set ((rd t353 x11_2) : Int).toNat (wrap64 ((wrap64 ((rd l1 a2) - t349)) + t350))) := ⟨_, rfl⟩
                                    replace H : (rowlockref15_spread.l0 kj14 l0 y361 (wrap64 ((wrap64 ((rd l1 a2) - t349)) + t350)) t353 (wrap64 (x11_2 + 1))) = some (r1, r2) := by first | (rw [hy361]; with_reducible exact H) | (have H2_ := (Option.bind_some _ _).symm.trans H; rw [hy361]; with_reducible exact H2_) | (have H2_ := (Option.bind_some _ _).symm.trans H; with_reducible exact H2_) | with_reducible exact H | (rw [hy361]; exact H) | exact H
                                    have Ny361 := Aside0.mk hy361
                                    clear hy361
                                    have H' := Aside0.mk H
                                    clear H
                                    have p358 : 0 ≤ (x11_2 : Int) := of_decide_eq_true (by first | (with_reducible assumption) | assumption)
                                    have q358 : x11_2 < (t353.length : Int) := of_decide_eq_true (by first | (with_reducible assumption) | assumption)
                                    obtain ⟨ad358, e358, hx358_0⟩ := Kd.at_int (Kd.R_reads' HO_10.out).2.2 x11_2 p358 q358
                                    cases e358
                                    replace p358 := eq_true p358
                                    replace q358 := eq_true q358
                                    have p359 : 0 ≤ ((rd t353 x11_2) : Int) := of_decide_eq_true (by first | (with_reducible assumption) | assumption)
                                    have q359 : (rd t353 x11_2) < (x1_2.length : Int) := of_decide_eq_true (by first | (with_reducible assumption) | assumption)
                                    obtain ⟨ad359, e359, hx359_0⟩ := Kd.at_int (Kd.R_reads' HO_1.out).2.2 (rd t353 x11_2) p359 q359
                                    obtain rfl : ad351 = ad359 := (by injection e359)
                                    replace p359 := eq_true p359
                                    replace q359 := eq_true q359
                                    have p360 : 0 ≤ (x11_2 : Int) := of_decide_eq_true (by first | (with_reducible assumption) | assumption)
                                    have q360 : x11_2 < (t353.length : Int) := of_decide_eq_true (by first | (with_reducible assumption) | assumption)
                                    obtain ⟨ad360, e360, hx360_0⟩ := Kd.at_int (Kd.R_reads' HO_10.out).2.2 x11_2 p360 q360
                                    obtain rfl : ad358 = ad360 := (by injection e360)
                                    replace p360 := eq_true p360
                                    replace q360 := eq_true q360
                                    have p25 : 0 ≤ ((rd t353 x11_2) : Int) := of_decide_eq_true (by first | (with_reducible assumption) | assumption)
                                    have q25 : ((rd t353 x11_2) : Int) < ((x1_2.length : Int) : Int) := of_decide_eq_true (by first | (with_reducible assumption) | assumption)
                                    obtain ⟨go25, co25, eo25, gb25, gl25, cl25, HG25⟩ := Kd.R_form HO_1.out (by omega)
                                    (first | cases eo25 | (injection eo25 with ea_ en_ ec_; (first | subst ea_ | (injection ea_ with ea_; subst ea_)); subst ec_; clear en_))
                                    have GB25 := Aside0.mk gb25
                                    have GG25 := Aside0.mk HG25
                                    clear gb25 gl25 HG25
                                    have HMgo25 := Aside0.mk (show (P1_ go25 ∨ w.heap.size ≤ go25) from (HO_1.out.1 _ rfl).1)
                                    (first | simp only [add_plain] at hx351_0 | skip)
                                    (first | simp only [add_plain] at hx352_0 | skip)
                                    (first | simp only [add_plain] at hx359_0 | skip)
                                    obtain ⟨hx25_0, hf25_0⟩ := Kd.R_celln 0 HO_1.out ((rd t353 x11_2) : Int) p25 q25
                                    replace p25 := eq_true p25
                                    replace q25 := eq_true q25
                                    have HP26 := Kd.R_putg HO_1.out ((rd t353 x11_2) : Int) (wrap64 ((wrap64 ((rd l1 a2) - t349)) + t350))
                                    go_wp2_with (first | ((with_reducible refine gate_store (t := 3) (p := 78) rfl ?_); refine store_event (t := 3) (p := 78) (v := ?vo_w27) (w1 := (wc.setCell ⟨go25, ((rd t353 x11_2) : Int).toNat, none⟩ (.int .i64 (wrap64 ((wrap64 ((rd l1 a2) - t349)) + t350))))) ?hg ?ho ?hn ?hr ?_; (case ho => rfl); (case hg => rfl); (case hn => rfl); (case hr => first | (go_simp; done) | (go_simp; rfl)); intro w27 hw; have hg : wc.grownBy w27 (some go25) := (by rw [hw]; exact HP26.2); have hp_ : Kd.R (Kd.int .i64) 3 w27 w0.heap.size (fun k_ => (P1_ k_ ∨ w.heap.size ≤ k_) ∧ some k_ ≠ (.slice (some ad358) t353.length co16 : Value).ownBlock) (.slice (some ⟨go25, 0, none⟩) x1_2.length co9) y361 := (by rw [hw, Ny361.out]; exact HP26.1); clear HP26; have n0_ := Aside0.mk (hp_); have n1_ := Aside0.mk (Kd.R_after (v := (.slice (some ⟨go25, 0, none⟩) x1_2.length co9)) (v1 := (.slice (some ⟨go25, 0, none⟩) x1_2.length co9)) (ok := (fun k_ => (P1_ k_ ∨ w.heap.size ≤ k_))) (by (with_reducible repeat (first | apply Kd.R_alloc | apply Kd.R_drewN | apply Kd.R_drew)); exact HO_10.out) hg (.inl rfl)); have n2_ := Aside0.mk ((by rw [hw]; exact below_set (HB.out) GB25.out : Below w0.heap.size w0 w27)); have n3_ := Aside0.mk (Kept.of_grown (S := (fun k_ => P1_ k_)) hg (by repeat (first | (with_reducible first | exact HK.out | apply Kept.alloc | apply Kept.drewN | apply Kept.drew) | exact HK.out)) (fun k_ e_ => (HO_1.out.1 k_ e_).1)); clear HO_1; clear HO_10; clear HB; clear HK; have HO_1 := n0_; have HO_10 := n1_; have HB := n2_; have HK := n3_; clear n0_ n1_ n2_ n3_; clear hg hw hp_))
                                    (try simp only [← hl1_2])
                                    go_roundg kj14
                                    case measure => have := HJ7.out; have := HK2.out; have := HJ14.out; omega
                                    case rel => exact ⟨(y361), (wrap64 (x11_2 + 1)), (by first | rfl | (simp; done) | (simp [*]; done)), H', ⟨by have := HJ7.out; have := HK2.out; have := HJ14.out; omega⟩, ⟨by (try simp only [hl1_2]); (with_reducible repeat (first | apply Kd.R_alloc | apply Kd.R_drewN | apply Kd.R_drew)); exact HO_1.out⟩, ⟨by (try simp only [hl1_2]); (with_reducible repeat (first | apply Kd.R_alloc | apply Kd.R_drewN | apply Kd.R_drew)); exact HO_10.out⟩, ⟨by repeat (first | (with_reducible first | exact HK.out | apply Kept.alloc | apply Kept.drewN | apply Kept.drew) | exact HK.out)⟩, ⟨by repeat (first | (with_reducible first | exact HB.out | apply below_alloc | apply pw_below_drewN | apply below_drew1) | exact HB.out)⟩⟩
                                  · rw [if_neg c24] at H
                                    have c24b0 : decide ((rd x1_2 (rd t353 x11_2)) < 0) = false := decide_eq_false c24
                                    clear c24
                                    by_cases c28 : (rd x1_2 (rd t353 x11_2)) = (wrap64 ((wrap64 ((rd l1 a2) - t349)) + t350))
                                    · rw [if_pos c28] at H
                                      have c28b0 : ((rd x1_2 (rd t353 x11_2)) == (wrap64 ((wrap64 ((rd l1 a2) - t349)) + t350))) = true := beq_iff_eq.mpr c28
                                      have c28b1 : ((rd x1_2 (rd t353 x11_2)) != (wrap64 ((wrap64 ((rd l1 a2) - t349)) + t350))) = false := bne_eq_false_iff_eq.mpr c28
                                      clear c28
                                      have H' := Aside0.mk H
                                      clear H
                                      have p358 : 0 ≤ (x11_2 : Int) := of_decide_eq_true (by first | (with_reducible assumption) | assumption)
                                      have q358 : x11_2 < (t353.length : Int) := of_decide_eq_true (by first | (with_reducible assumption) | assumption)
                                      obtain ⟨ad358, e358, hx358_0⟩ := Kd.at_int (Kd.R_reads' HO_10.out).2.2 x11_2 p358 q358
                                      cases e358
                                      replace p358 := eq_true p358
                                      replace q358 := eq_true q358
                                      have p359 : 0 ≤ ((rd t353 x11_2) : Int) := of_decide_eq_true (by first | (with_reducible assumption) | assumption)
                                      have q359 : (rd t353 x11_2) < (x1_2.length : Int) := of_decide_eq_true (by first | (with_reducible assumption) | assumption)
                                      obtain ⟨ad359, e359, hx359_0⟩ := Kd.at_int (Kd.R_reads' HO_1.out).2.2 (rd t353 x11_2) p359 q359
                                      obtain rfl : ad351 = ad359 := (by injection e359)
                                      replace p359 := eq_true p359
                                      replace q359 := eq_true q359
                                      have p362 : 0 ≤ (x11_2 : Int) := of_decide_eq_true (by first | (with_reducible assumption) | assumption)
                                      have q362 : x11_2 < (t353.length : Int) := of_decide_eq_true (by first | (with_reducible assumption) | assumption)
                                      obtain ⟨ad362, e362, hx362_0⟩ := Kd.at_int (Kd.R_reads' HO_10.out).2.2 x11_2 p362 q362
                                      obtain rfl : ad358 = ad362 := (by injection e362)
                                      replace p362 := eq_true p362
                                      replace q362 := eq_true q362
                                      have p363 : 0 ≤ ((rd t353 x11_2) : Int) := of_decide_eq_true (by first | (with_reducible assumption) | assumption)
                                      have q363 : (rd t353 x11_2) < (x1_2.length : Int) := of_decide_eq_true (by first | (with_reducible assumption) | assumption)
                                      obtain ⟨ad363, e363, hx363_0⟩ := Kd.at_int (Kd.R_reads' HO_1.out).2.2 (rd t353 x11_2) p363 q363
                                      obtain rfl : ad351 = ad363 := (by injection e363)
                                      replace p363 := eq_true p363
                                      replace q363 := eq_true q363
                                      go_wp2
                                      (try simp only [← hl1_2])
                                      go_roundg kj14
                                      case measure => have := HJ7.out; have := HK2.out; have := HJ14.out; omega
                                      case rel => exact ⟨(x1_2), (wrap64 (x11_2 + 1)), (by first | rfl | (simp; done) | (simp [*]; done)), H', ⟨by have := HJ7.out; have := HK2.out; have := HJ14.out; omega⟩, ⟨by (try simp only [hl1_2]); (with_reducible repeat (first | apply Kd.R_alloc | apply Kd.R_drewN | apply Kd.R_drew)); exact HO_1.out⟩, ⟨by (try simp only [hl1_2]); (with_reducible repeat (first | apply Kd.R_alloc | apply Kd.R_drewN | apply Kd.R_drew)); exact HO_10.out⟩, ⟨by repeat (first | (with_reducible first | exact HK.out | apply Kept.alloc | apply Kept.drewN | apply Kept.drew) | exact HK.out)⟩, ⟨by repeat (first | (with_reducible first | exact HB.out | apply below_alloc | apply pw_below_drewN | apply below_drew1) | exact HB.out)⟩⟩
                                    · rw [if_neg c28] at H
                                      have c28b0 : ((rd x1_2 (rd t353 x11_2)) == (wrap64 ((wrap64 ((rd l1 a2) - t349)) + t350))) = false := beq_eq_false_iff_ne.mpr c28
                                      have c28b1 : ((rd x1_2 (rd t353 x11_2)) != (wrap64 ((wrap64 ((rd l1 a2) - t349)) + t350))) = true := bne_iff_ne.mpr c28
                                      simp only [Option.some.injEq, Prod.mk.injEq] at H
                                      obtain ⟨rfl, rfl⟩ := H
                                      have p358 : 0 ≤ (x11_2 : Int) := of_decide_eq_true (by first | (with_reducible assumption) | assumption)
                                      have q358 : x11_2 < (t353.length : Int) := of_decide_eq_true (by first | (with_reducible assumption) | assumption)
                                      obtain ⟨ad358, e358, hx358_0⟩ := Kd.at_int (Kd.R_reads' HO_10.out).2.2 x11_2 p358 q358
                                      cases e358
                                      replace p358 := eq_true p358
                                      replace q358 := eq_true q358
                                      have p359 : 0 ≤ ((rd t353 x11_2) : Int) := of_decide_eq_true (by first | (with_reducible assumption) | assumption)
                                      have q359 : (rd t353 x11_2) < (x1_2.length : Int) := of_decide_eq_true (by first | (with_reducible assumption) | assumption)
                                      obtain ⟨ad359, e359, hx359_0⟩ := Kd.at_int (Kd.R_reads' HO_1.out).2.2 (rd t353 x11_2) p359 q359
                                      obtain rfl : ad351 = ad359 := (by injection e359)
                                      replace p359 := eq_true p359
                                      replace q359 := eq_true q359
                                      have p362 : 0 ≤ (x11_2 : Int) := of_decide_eq_true (by first | (with_reducible assumption) | assumption)
                                      have q362 : x11_2 < (t353.length : Int) := of_decide_eq_true (by first | (with_reducible assumption) | assumption)
                                      obtain ⟨ad362, e362, hx362_0⟩ := Kd.at_int (Kd.R_reads' HO_10.out).2.2 x11_2 p362 q362
                                      obtain rfl : ad358 = ad362 := (by injection e362)
                                      replace p362 := eq_true p362
                                      replace q362 := eq_true q362
                                      have p363 : 0 ≤ ((rd t353 x11_2) : Int) := of_decide_eq_true (by first | (with_reducible assumption) | assumption)
                                      have q363 : (rd t353 x11_2) < (x1_2.length : Int) := of_decide_eq_true (by first | (with_reducible assumption) | assumption)
                                      obtain ⟨ad363, e363, hx363_0⟩ := Kd.at_int (Kd.R_reads' HO_1.out).2.2 (rd t353 x11_2) p363 q363
                                      obtain rfl : ad351 = ad363 := (by injection e363)
                                      replace p363 := eq_true p363
                                      replace q363 := eq_true q363
                                      go_wp2
                                      go_ret
                                      exact ⟨by first | rfl | (simp [errW_none, errW_some] <;> rfl) | (simp [*, errW_none, errW_some] <;> rfl), (by first | exact (by (with_reducible repeat (first | apply Kd.R_alloc | apply Kd.R_drewN | apply Kd.R_drew)); exact Kd.R_mono HO_1.out (fun _ hk => hk.1)) | (simp only [hl1_2]; exact (by (with_reducible repeat (first | apply Kd.R_alloc | apply Kd.R_drewN | apply Kd.R_drew)); exact Kd.R_mono HO_1.out (fun _ hk => hk.1)))), by repeat (first | (with_reducible first | exact HB.out | apply below_alloc | apply pw_below_drewN | apply below_drew1) | exact HB.out), by repeat (first | (with_reducible first | exact HK.out | apply Kept.alloc | apply Kept.drewN | apply Kept.drew) | exact HK.out)⟩
                                · rw [if_neg c23] at H
                                  exact absurd H (by simp)
                              · rw [if_neg c22] at H
                                exact absurd H (by simp)
                            · rw [if_neg c21] at H
                              exact absurd H (by simp)
                          · rw [if_neg c20] at H
                            exact absurd H (by simp)
                  · rw [if_neg c14] at H
                    have c14b0 : decide (x11_2 < (t353.length : Int)) = false := decide_eq_false c14
                    clear c14
                    simp only [Option.some.injEq, Prod.mk.injEq] at H
                    obtain ⟨rfl, rfl⟩ := H
                    obtain ⟨Ao29, co29, eo29⟩ := Kd.R_slice HO_10.out
                    subst eo29
                    go_wp2
                    go_ret
                    exact ⟨by first | rfl | (simp [errW_none, errW_some] <;> rfl) | (simp [*, errW_none, errW_some] <;> rfl), (by first | exact (by (with_reducible repeat (first | apply Kd.R_alloc | apply Kd.R_drewN | apply Kd.R_drew)); exact Kd.R_mono HO_1.out (fun _ hk => hk.1)) | (simp only [hl1_2]; exact (by (with_reducible repeat (first | apply Kd.R_alloc | apply Kd.R_drewN | apply Kd.R_drew)); exact Kd.R_mono HO_1.out (fun _ hk => hk.1)))), by repeat (first | (with_reducible first | exact HB.out | apply below_alloc | apply pw_below_drewN | apply below_drew1) | exact HB.out), by repeat (first | (with_reducible first | exact HK.out | apply Kept.alloc | apply Kept.drewN | apply Kept.drew) | exact HK.out)⟩
      · rw [if_neg c7] at H
        exact absurd H (by simp)
    · rw [if_neg c5] at H
      exact absurd H (by simp)
  · rw [if_neg c4] at H
    exact absurd H (by simp)

end Go.Proofs.Ytcjkpeojjonpiaa.PLocksMay
