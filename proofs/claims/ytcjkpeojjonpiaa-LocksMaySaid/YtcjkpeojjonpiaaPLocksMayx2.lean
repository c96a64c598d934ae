-- Written by a program of this session, over the kit's print; the contracts of some functions by hand.
import Derived.Test.YtcjkpeojjonpiaaPLocksMayx0
namespace Go.Proofs.Ytcjkpeojjonpiaa.PLocksMay
open Go.RowKit Go.Proofs.YtcjkpeojjonpiaaW.PrintWords Go.Proofs.YtcjkpeojjonpiaaW.PrintLast Go.Proofs.YtcjkpeojjonpiaaW.PrintMore
attribute [local go_sem] max2_int min2_int max_two min_two max_three min_three max_four min_four   -- for this text's walks alone
set_option linter.unusedVariables false
set_option linter.unusedSimpArgs false

/-! ### locks_may: function 59 -/
def locks_may.f (a0 : Int) (a1 : Int) (a2 : Int) : Option (Bool) := if a0 ≥ 0 then (if a0 ≤ 64 then (if a1 ≥ 0 then (if a1 < 12 then (if a2 ≥ 0 then (some (decide (a2 < 4))) else (some false)) else (some false)) else (some false)) else (some false)) else (some false)
set_option maxHeartbeats 8000000 in
set_option maxRecDepth 100000 in
theorem locks_may.calls (a0 : Int) (a1 : Int) (a2 : Int) (r : Bool) (w : World) (h : locks_may.f a0 a1 a2 = some r) :
    Calls Try.prog 59 #[.int .i64 a0, .int .i64 a1, .int .i64 a2] w fun e w' => e = .returned (.bool r) ∧ Drawn0 w w' := by
  have H : (if a0 ≥ 0 then (if a0 ≤ 64 then (if a1 ≥ 0 then (if a1 < 12 then (if a2 ≥ 0 then (some (decide (a2 < 4))) else (some false)) else (some false)) else (some false)) else (some false)) else (some false)) = some r := h
  clear h
  by_cases c4 : a0 ≥ 0
  · rw [if_pos c4] at H
    have c4b0 : decide (0 ≤ a0) = true := decide_eq_true c4
    clear c4
    by_cases c5 : a0 ≤ 64
    · rw [if_pos c5] at H
      have c5b0 : decide (a0 ≤ 64) = true := decide_eq_true c5
      clear c5
      by_cases c6 : a1 ≥ 0
      · rw [if_pos c6] at H
        have c6b0 : decide (0 ≤ a1) = true := decide_eq_true c6
        clear c6
        by_cases c7 : a1 < 12
        · rw [if_pos c7] at H
          have c7b0 : decide (a1 < 12) = true := decide_eq_true c7
          clear c7
          by_cases c8 : a2 ≥ 0
          · rw [if_pos c8] at H
            have c8b0 : decide (0 ≤ a2) = true := decide_eq_true c8
            clear c8
            obtain rfl := Option.some.inj H
            go_enter Try.func59, Try.ntmps59
            go_wp2
            go_ret
            exact ⟨by first | rfl | (simp; done) | (simp [*]; done), by repeat (first | exact Drawn0.refl _ | apply Drawn0.step)⟩
          · rw [if_neg c8] at H
            have c8b0 : decide (0 ≤ a2) = false := decide_eq_false c8
            clear c8
            obtain rfl := Option.some.inj H
            go_enter Try.func59, Try.ntmps59
            go_wp2
            go_ret
            exact ⟨by first | rfl | (simp; done) | (simp [*]; done), by repeat (first | exact Drawn0.refl _ | apply Drawn0.step)⟩
        · rw [if_neg c7] at H
          have c7b0 : decide (a1 < 12) = false := decide_eq_false c7
          clear c7
          obtain rfl := Option.some.inj H
          go_enter Try.func59, Try.ntmps59
          go_wp2
          go_ret
          exact ⟨by first | rfl | (simp; done) | (simp [*]; done), by repeat (first | exact Drawn0.refl _ | apply Drawn0.step)⟩
      · rw [if_neg c6] at H
        have c6b0 : decide (0 ≤ a1) = false := decide_eq_false c6
        clear c6
        obtain rfl := Option.some.inj H
        go_enter Try.func59, Try.ntmps59
        go_wp2
        go_ret
        exact ⟨by first | rfl | (simp; done) | (simp [*]; done), by repeat (first | exact Drawn0.refl _ | apply Drawn0.step)⟩
    · rw [if_neg c5] at H
      have c5b0 : decide (a0 ≤ 64) = false := decide_eq_false c5
      clear c5
      obtain rfl := Option.some.inj H
      go_enter Try.func59, Try.ntmps59
      go_wp2
      go_ret
      exact ⟨by first | rfl | (simp; done) | (simp [*]; done), by repeat (first | exact Drawn0.refl _ | apply Drawn0.step)⟩
  · rw [if_neg c4] at H
    have c4b0 : decide (0 ≤ a0) = false := decide_eq_false c4
    clear c4
    obtain rfl := Option.some.inj H
    go_enter Try.func59, Try.ntmps59
    go_wp2
    go_ret
    exact ⟨by first | rfl | (simp; done) | (simp [*]; done), by repeat (first | exact Drawn0.refl _ | apply Drawn0.step)⟩

/-! ### rowlockref22_place: function 78 -/
def rowlockref22_place.f (a0 : Int) : Option (Bool) := if a0 = 21 then (some true) else (if a0 = 23 then (some true) else (if a0 = 24 then (some true) else (if a0 = 19 then (some true) else (some (a0 == 20)))))
set_option maxHeartbeats 8000000 in
set_option maxRecDepth 100000 in
theorem rowlockref22_place.calls (a0 : Int) (r : Bool) (w : World) (h : rowlockref22_place.f a0 = some r) :
    Calls Try.prog 78 #[.int .u8 a0] w fun e w' => e = .returned (.bool r) ∧ Drawn0 w w' := by
  have H : (if a0 = 21 then (some true) else (if a0 = 23 then (some true) else (if a0 = 24 then (some true) else (if a0 = 19 then (some true) else (some (a0 == 20)))))) = some r := h
  clear h
  by_cases c2 : a0 = 21
  · rw [if_pos c2] at H
    have c2b0 : (a0 == 21) = true := beq_iff_eq.mpr c2
    have c2b1 : (a0 != 21) = false := bne_eq_false_iff_eq.mpr c2
    clear c2
    obtain rfl := Option.some.inj H
    go_enter Try.func78, Try.ntmps78
    go_wp2
    go_ret
    exact ⟨by first | rfl | (simp; done) | (simp [*]; done), by repeat (first | exact Drawn0.refl _ | apply Drawn0.step)⟩
  · rw [if_neg c2] at H
    have c2b0 : (a0 == 21) = false := beq_eq_false_iff_ne.mpr c2
    have c2b1 : (a0 != 21) = true := bne_iff_ne.mpr c2
    by_cases c3 : a0 = 23
    · rw [if_pos c3] at H
      have c3b0 : (a0 == 23) = true := beq_iff_eq.mpr c3
      have c3b1 : (a0 != 23) = false := bne_eq_false_iff_eq.mpr c3
      clear c3
      obtain rfl := Option.some.inj H
      go_enter Try.func78, Try.ntmps78
      go_wp2
      go_ret
      exact ⟨by first | rfl | (simp; done) | (simp [*]; done), by repeat (first | exact Drawn0.refl _ | apply Drawn0.step)⟩
    · rw [if_neg c3] at H
      have c3b0 : (a0 == 23) = false := beq_eq_false_iff_ne.mpr c3
      have c3b1 : (a0 != 23) = true := bne_iff_ne.mpr c3
      by_cases c4 : a0 = 24
      · rw [if_pos c4] at H
        have c4b0 : (a0 == 24) = true := beq_iff_eq.mpr c4
        have c4b1 : (a0 != 24) = false := bne_eq_false_iff_eq.mpr c4
        clear c4
        obtain rfl := Option.some.inj H
        go_enter Try.func78, Try.ntmps78
        go_wp2
        go_ret
        exact ⟨by first | rfl | (simp; done) | (simp [*]; done), by repeat (first | exact Drawn0.refl _ | apply Drawn0.step)⟩
      · rw [if_neg c4] at H
        have c4b0 : (a0 == 24) = false := beq_eq_false_iff_ne.mpr c4
        have c4b1 : (a0 != 24) = true := bne_iff_ne.mpr c4
        by_cases c5 : a0 = 19
        · rw [if_pos c5] at H
          have c5b0 : (a0 == 19) = true := beq_iff_eq.mpr c5
          have c5b1 : (a0 != 19) = false := bne_eq_false_iff_eq.mpr c5
          clear c5
          obtain rfl := Option.some.inj H
          go_enter Try.func78, Try.ntmps78
          go_wp2
          go_ret
          exact ⟨by first | rfl | (simp; done) | (simp [*]; done), by repeat (first | exact Drawn0.refl _ | apply Drawn0.step)⟩
        · rw [if_neg c5] at H
          have c5b0 : (a0 == 19) = false := beq_eq_false_iff_ne.mpr c5
          have c5b1 : (a0 != 19) = true := bne_iff_ne.mpr c5
          obtain rfl := Option.some.inj H
          go_enter Try.func78, Try.ntmps78
          go_wp2
          go_ret
          exact ⟨by first | rfl | (simp; done) | (simp [*]; done), by repeat (first | exact Drawn0.refl _ | apply Drawn0.step)⟩

/-! ### rowlockref22_At: function 53 -/
def rowlockref22_At.l0 : Nat → Int → List (S35) → List (S35) → Int → Option ((List (S35)) × Int)
  | 0, _, _, _, _ => none
  | k + 1, x0, x1, x6, x7 => if x7 < (x1.length : Int) then (if 0 ≤ x7 then ((rowlockref22_place.f ((rd_T35 x1 x7).f0)).bind fun t103 => (if t103 = true then (if x6.length < 5864062014805 then (rowlockref22_At.l0 k x0 x1 (x6 ++ [(⟨(rd_T35 x1 x7).f0, wrap64 (((rd_T35 x1 x7).f1) + x0), (rd_T35 x1 x7).f2⟩ : S35)]) (wrap64 (x7 + 1))) else (none)) else (if x6.length < 5864062014805 then (rowlockref22_At.l0 k x0 x1 (x6 ++ [(⟨(rd_T35 x1 x7).f0, (rd_T35 x1 x7).f1, (rd_T35 x1 x7).f2⟩ : S35)]) (wrap64 (x7 + 1))) else (none)))) else (none)) else (some (x6, 0))
def rowlockref22_At.f (k : Nat) (a0 : Int) (l1 : List (S35)) : Option ((List (S35)) × Int) := if (l1.length : Int) > (wrap64 (64 - a0)) then (some (([] : List (S35)), 4)) else (rowlockref22_At.l0 k a0 l1 ([] : List (S35)) 0)
theorem rowlockref22_At.mono_l : ∀ k, (∀ y0 y1 y2 y3, LeO (rowlockref22_At.l0 k y0 y1 y2 y3) (rowlockref22_At.l0 (k + 1) y0 y1 y2 y3))
  | 0 => fun _ _ _ _ r h => by simp [rowlockref22_At.l0] at h
  | k + 1 => by
    have ih0 := rowlockref22_At.mono_l k
    · intro y0 y1 y2 y3
      unfold rowlockref22_At.l0
      repeat' first
      | (with_reducible exact ih0 _ _ _ _)
      | (with_reducible exact LeO.refl _)
      | (with_reducible exact LeO.none _)
      | (with_reducible refine LeO.ite ?_ ?_)
      | (with_reducible refine LeO.bind ?_ (fun _ => ?_))
      | exact ih0 _ _ _ _
      | exact LeO.none _
      | refine LeO.ite ?_ ?_
      | refine LeO.bind ?_ (fun _ => ?_)
theorem rowlockref22_At.mono : ∀ a0 a1 k, LeO (rowlockref22_At.f k a0 a1) (rowlockref22_At.f (k + 1) a0 a1) := by
  intro a0 a1 k
  have ih0 := rowlockref22_At.mono_l k
  unfold rowlockref22_At.f
  repeat' first
      | (with_reducible exact ih0 _ _ _ _)
      | (with_reducible exact LeO.refl _)
      | (with_reducible exact LeO.none _)
      | (with_reducible refine LeO.ite ?_ ?_)
      | (with_reducible refine LeO.bind ?_ (fun _ => ?_))
      | exact ih0 _ _ _ _
      | exact LeO.none _
      | refine LeO.ite ?_ ?_
      | refine LeO.bind ?_ (fun _ => ?_)
set_option maxHeartbeats 8000000 in
set_option maxRecDepth 100000 in
theorem rowlockref22_At.calls (k : Nat) (a0 : Int) (A1 : Option Addr) (c1 : Nat) (l1 : List (S35)) (r1 : List (S35)) (r2 : Int) (w : World) (hr1 : Kd.C k35 w A1 l1.length l1) (hc1 : l1.length ≤ c1) (h : rowlockref22_At.f k a0 l1 = some (r1, r2)) :
    Calls Try.prog 53 #[.int .i64 a0, .slice A1 l1.length c1] w fun e w' => ∃ v0_ : Value, e = .returned (.tuple #[v0_, .int .i64 r2]) ∧ Kd.R k35 35 w' w.heap.size (fun _ => True) v0_ r1 ∧ Below w.heap.size w w' := by
  have hu35 := Try.underlying35
  have HR1 := Aside0.mk hr1
  have HC1 := Aside0.mk hc1
  clear hr1 hc1
  have HB := Aside0.mk (Below.refl w.heap.size w)
  have H : (if (l1.length : Int) > (wrap64 (64 - a0)) then (some (([] : List (S35)), 4)) else (rowlockref22_At.l0 k a0 l1 ([] : List (S35)) 0)) = some (r1, r2) := h
  clear h
  by_cases c3 : (l1.length : Int) > (wrap64 (64 - a0))
  · rw [if_pos c3] at H
    have c3b0 : decide ((wrap64 (64 - a0)) < (l1.length : Int)) = true := decide_eq_true c3
    clear c3
    simp only [Option.some.injEq, Prod.mk.injEq] at H
    obtain ⟨rfl, rfl⟩ := H
    go_enter Try.func53, Try.ntmps53
    go_wp2
    go_ret2
    exact ⟨_, by first | rfl | (simp [errW_none, errW_some] <;> rfl) | (simp [*, errW_none, errW_some] <;> rfl), by first | exact Kd.R_nil _ _ _ _ _ | exact Kd.N_nil _ _ _ _ _ | exact Kd.V_nil _ _ _ _ _ | exact Kd.Q_nil _ _ _ _ _ | exact Kd.S_nil _ _ _ _ _, by repeat (first | (with_reducible first | exact HB.out | apply below_alloc | apply pw_below_drewN | apply below_drew1) | exact HB.out)⟩
  · rw [if_neg c3] at H
    have c3b0 : decide ((wrap64 (64 - a0)) < (l1.length : Int)) = false := decide_eq_false c3
    clear c3
    have H' := Aside0.mk H
    clear H
    go_enter Try.func53, Try.ntmps53
    go_wp2
    go_loopg [6, 7] k (fun kq v6 v7 w' => ∃ (x6_1 : List (S35)) (x7_1 : Int), v7 = .int .i64 x7_1 ∧ Aside0 (rowlockref22_At.l0 kq a0 l1 x6_1 x7_1 = some (r1, r2)) ∧ Aside0 (kq ≤ k) ∧ Aside0 (Kd.R k35 35 w' w.heap.size (fun _ => True) v6 x6_1) ∧ Aside0 (Below w.heap.size w w'))
    case atStart => exact ⟨(([] : List (S35))), (0), (by first | rfl | (simp; done) | (simp [*]; done)), H', ⟨Nat.le_refl _⟩, ⟨by first | exact Kd.R_nil _ _ _ _ _ | exact Kd.N_nil _ _ _ _ _ | exact Kd.V_nil _ _ _ _ _ | exact Kd.Q_nil _ _ _ _ _ | exact Kd.S_nil _ _ _ _ _⟩, ⟨by repeat (first | (with_reducible first | exact HB.out | apply below_alloc | apply pw_below_drewN | apply below_drew1) | exact HB.out)⟩⟩
    case round =>
      clear H'
      try clear c1
      try clear p2
      try clear c3
      try clear c3b0
      obtain ⟨x6_1, x7_1, rfl, HA, HK1, HO_6, HB⟩ := hrel
      cases gk with
      | zero => exact absurd HA.out (by simp [rowlockref22_At.l0])
      | succ k1 =>
        have H := HA.out
        clear HA
        simp only [rowlockref22_At.l0] at H
        by_cases c4 : x7_1 < (l1.length : Int)
        · rw [if_pos c4] at H
          have c4b0 : decide (x7_1 < (l1.length : Int)) = true := decide_eq_true c4
          clear c4
          by_cases c5 : 0 ≤ x7_1
          · rw [if_pos c5] at H
            have c5b0 : decide (0 ≤ x7_1) = true := decide_eq_true c5
            clear c5
            replace H := Option.bind_eq_some_iff.mp H
            obtain ⟨t103, A60, H⟩ := H
            replace H : (if t103 = true then (if x6_1.length < 5864062014805 then (rowlockref22_At.l0 k1 a0 l1 (x6_1 ++ [(⟨(rd_T35 l1 x7_1).f0, wrap64 (((rd_T35 l1 x7_1).f1) + a0), (rd_T35 l1 x7_1).f2⟩ : S35)]) (wrap64 (x7_1 + 1))) else (none)) else (if x6_1.length < 5864062014805 then (rowlockref22_At.l0 k1 a0 l1 (x6_1 ++ [(⟨(rd_T35 l1 x7_1).f0, (rd_T35 l1 x7_1).f1, (rd_T35 l1 x7_1).f2⟩ : S35)]) (wrap64 (x7_1 + 1))) else (none))) = some (r1, r2) := H
            have A6 := Aside0.mk A60
            clear A60
            by_cases c7 : t103 = true
            · subst c7
              have H1 : (if x6_1.length < 5864062014805 then (rowlockref22_At.l0 k1 a0 l1 (x6_1 ++ [(⟨(rd_T35 l1 x7_1).f0, wrap64 (((rd_T35 l1 x7_1).f1) + a0), (rd_T35 l1 x7_1).f2⟩ : S35)]) (wrap64 (x7_1 + 1))) else (none)) = some (r1, r2) := by rw [if_pos rfl] at H; exact H
              clear H
              have H := H1
              clear H1
              by_cases c8 : x6_1.length < 5864062014805
              · rw [if_pos c8] at H
                have LMc8 := Aside0.mk c8
                clear c8
                obtain ⟨y104, hy104⟩ : ∃ y_ : List (S35), y_ = (x6_1 ++ [(⟨(rd_T35 l1 x7_1).f0, wrap64 (((rd_T35 l1 x7_1).f1) + a0), (rd_T35 l1 x7_1).f2⟩ : S35)]) := ⟨_, rfl⟩
                replace H : (rowlockref22_At.l0 k1 a0 l1 y104 (wrap64 (x7_1 + 1))) = some (r1, r2) := by first | (rw [hy104]; with_reducible exact H) | (have H2_ := (Option.bind_some _ _).symm.trans H; rw [hy104]; with_reducible exact H2_) | (have H2_ := (Option.bind_some _ _).symm.trans H; with_reducible exact H2_) | with_reducible exact H | (rw [hy104]; exact H) | exact H
                have Ny104 := Aside0.mk hy104
                clear hy104
                have H' := Aside0.mk H
                clear H
                have p101 : 0 ≤ (x7_1 : Int) := of_decide_eq_true (by first | (with_reducible assumption) | assumption)
                have q101 : x7_1 < (l1.length : Int) := of_decide_eq_true (by first | (with_reducible assumption) | assumption)
                obtain ⟨ad101, e101, hx101_0, hx101_1, hx101_2⟩ := at_T35 HR1.out x7_1 p101 q101
                cases e101
                replace hx101_0 := (HB.out.cell (World.block_lt_of_cell? w _ hx101_0)).trans hx101_0
                replace hx101_1 := (HB.out.cell (World.block_lt_of_cell? w _ hx101_1)).trans hx101_1
                replace hx101_2 := (HB.out.cell (World.block_lt_of_cell? w _ hx101_2)).trans hx101_2
                replace p101 := eq_true p101
                replace q101 := eq_true q101
                go_wp2_with (first | ((with_reducible refine gate_dst (N := 8) rfl ?_); refine box_event ?hg (N := 8) ?hd (cs := #[.int .u8 0, .int .i64 0, .int .u64 0]) (t := 35) ?hr ?_; (case hd => rfl); (case hg => rfl); (case hr => first | (go_simp; done) | (go_simp; rfl)); intro gb102 hg w9 hbox hb; have n0_ := Aside0.mk (Kd.R_below (Kd.R_elderB (by (with_reducible repeat (first | apply Kd.R_alloc | apply Kd.R_drewN | apply Kd.R_drew)); exact HO_6.out) gb102 (Nat.le_of_eq hg.symm)) hb); have n1_ := Aside0.mk (below_step (by repeat (first | (with_reducible first | exact HB.out | apply below_alloc | apply pw_below_drewN | apply below_drew1) | exact HB.out)) hb); have n2_ := Aside0.mk (hbox); have n3_ := Aside0.mk ((by rw [hg]; exact (below_size (by repeat (first | (with_reducible first | exact HB.out | apply below_alloc | apply pw_below_drewN | apply below_drew1) | exact HB.out))) : w.heap.size ≤ gb102)); have n4_ := Aside0.mk ((by rw [hg]; exact (below_size (by repeat (first | (with_reducible first | exact HB.out | apply below_alloc | apply pw_below_drewN | apply below_drew1) | exact HB.out))) : w.heap.size ≤ gb102)); clear HO_6; clear HB; have HO_6 := n0_; have HB := n1_; have BK102 := n2_; have GW102 := n3_; have GE102 := n4_; clear n0_ n1_ n2_ n3_ n4_; clear hb hbox hg; have hcz10_0 : w9.cell? ⟨gb102, 0, none⟩ = some (.int .u8 0) := (blk_cell BK102.out 0).trans rfl; have hcz10_1 : w9.cell? ⟨gb102, 1, none⟩ = some (.int .i64 0) := (blk_cell BK102.out 1).trans rfl; have hcz10_2 : w9.cell? ⟨gb102, 2, none⟩ = some (.int .u64 0) := (blk_cell BK102.out 2).trans rfl; have hfz10_0 := blk_frozen BK102.out 0; have hfz10_1 := blk_frozen BK102.out 1; have hfz10_2 := blk_frozen BK102.out 2) | ((with_reducible refine gate_callee (f := 78) rfl ?_); refine goesL_ (some 26) rfl rfl Try.func78 (by kernel_rfl) rfl #[.int .u8 ((rd_T35 l1 x7_1).f0)] rfl (by (try simp only [List.map_toArray, List.map_cons, List.map_nil]); first | done | rfl | (simp only [List.length_drop, List.length_take]; rfl)) ?_; (with_reducible refine (rowlockref22_place.calls ((rd_T35 l1 x7_1).f0) true _ A6.out).mono ?_); rintro e w' ⟨rfl, ⟨nd, rfl⟩⟩; refine ⟨_, rfl, ?_⟩; have hq1_ : ((((w9.setCell ⟨gb102, 0, none⟩ (.int .u8 ((rd_T35 l1 x7_1).f0))).setCell ⟨gb102, 1, none⟩ (.int .i64 ((rd_T35 l1 x7_1).f1))).setCell ⟨gb102, 2, none⟩ (.int .u64 ((rd_T35 l1 x7_1).f2))).drewN nd).cell? ⟨gb102, 1, none⟩ = some (.int .i64 ((rd_T35 l1 x7_1).f1)) := (blk_cell (cs := #[.int .u8 ((rd_T35 l1 x7_1).f0), .int .i64 ((rd_T35 l1 x7_1).f1), .int .u64 ((rd_T35 l1 x7_1).f2)]) (t := 35) (by refine blk_drewN ?_ _; refine blk_put (cs := #[.int .u8 ((rd_T35 l1 x7_1).f0), .int .i64 ((rd_T35 l1 x7_1).f1), .int .u64 0]) ?_ 2 _ rfl; refine blk_put (cs := #[.int .u8 ((rd_T35 l1 x7_1).f0), .int .i64 0, .int .u64 0]) ?_ 1 _ rfl; refine blk_put (cs := #[.int .u8 0, .int .i64 0, .int .u64 0]) ?_ 0 _ rfl; exact BK102.out) 1).trans rfl) | ((with_reducible refine gate_builtin (b := .append) (xs := #[.tmp 32, .tmp 34]) rfl ?_); at_builtin; refine Kd.R_append k35 (w0 := w) w.heap.size rfl (.tmp 32) (.tmp 34) 22 35 (.agg #[(.int .u8 0), (.int .i64 0), (.int .u64 0)]) 24 rfl Try.underlying22 info35 rfl (by decide) (by omega) u6 x6_1 (⟨(rd_T35 l1 x7_1).f0, wrap64 (((rd_T35 l1 x7_1).f1) + a0), (rd_T35 l1 x7_1).f2⟩ : S35) [.int .u8 ((rd_T35 l1 x7_1).f0), .int .i64 (wrap64 (((rd_T35 l1 x7_1).f1) + a0)), .int .u64 ((rd_T35 l1 x7_1).f2)] (fun k_ => k_ ≠ gb102) (fun _ => False) rfl (by first | (go_simp; done) | (go_simp; rfl)) ?aP (fun _ hk => hk.elim) ?aF ?aO ?aB ?aS ?aL ?_; (case aP => exact k35_mkM _ _ _ (⟨(rd_T35 l1 x7_1).f0, wrap64 (((rd_T35 l1 x7_1).f1) + a0), (rd_T35 l1 x7_1).f2⟩ : S35)); (case aB => exact (by repeat (first | (with_reducible first | exact HB.out | apply below_alloc | apply pw_below_drewN | apply below_drew1 | refine below_set ?_ GE102.out) | exact HB.out))); (case aF => exact (fun k_ hk => Kd.freshB (g := gb102) (o := .cells #[.int .u8 ((rd_T35 l1 x7_1).f0), .int .i64 (wrap64 (((rd_T35 l1 x7_1).f1) + a0)), .int .u64 ((rd_T35 l1 x7_1).f2)] 35 (0, 0)) (by (with_reducible repeat (first | refine blk_drewN ?_ _ | refine blk_drew ?_ | refine blk_alloc ?_ _)); refine blk_put (cs := #[.int .u8 ((rd_T35 l1 x7_1).f0), .int .i64 ((rd_T35 l1 x7_1).f1), .int .u64 ((rd_T35 l1 x7_1).f2)]) ?_ 1 _ rfl; (with_reducible repeat (first | refine blk_drewN ?_ _ | refine blk_drew ?_ | refine blk_alloc ?_ _)); refine blk_put (cs := #[.int .u8 ((rd_T35 l1 x7_1).f0), .int .i64 ((rd_T35 l1 x7_1).f1), .int .u64 0]) ?_ 2 _ rfl; (with_reducible repeat (first | refine blk_drewN ?_ _ | refine blk_drew ?_ | refine blk_alloc ?_ _)); refine blk_put (cs := #[.int .u8 ((rd_T35 l1 x7_1).f0), .int .i64 0, .int .u64 0]) ?_ 1 _ rfl; (with_reducible repeat (first | refine blk_drewN ?_ _ | refine blk_drew ?_ | refine blk_alloc ?_ _)); refine blk_put (cs := #[.int .u8 0, .int .i64 0, .int .u64 0]) ?_ 0 _ rfl; (with_reducible repeat (first | refine blk_drewN ?_ _ | refine blk_drew ?_ | refine blk_alloc ?_ _)); exact BK102.out) k_ hk)); (case aO => exact (by (with_reducible repeat (first | apply Kd.R_alloc | apply Kd.R_drewN | apply Kd.R_drew)); exact Kd.R_mono (Kd.R_far (p := ⟨gb102, 1, none⟩) (Kd.R_far (p := ⟨gb102, 2, none⟩) (Kd.R_far (p := ⟨gb102, 1, none⟩) (Kd.R_far (p := ⟨gb102, 0, none⟩) (Kd.R_mono HO_6.out (fun k_ hk => (⟨hk, hk.2⟩ : _ ∧ k_ ≠ gb102))) (fun _ hk => hk.2) (.int .u8 ((rd_T35 l1 x7_1).f0))) (fun _ hk => hk.2) (.int .i64 ((rd_T35 l1 x7_1).f1))) (fun _ hk => hk.2) (.int .u64 ((rd_T35 l1 x7_1).f2))) (fun _ hk => hk.2) (.int .i64 (wrap64 (((rd_T35 l1 x7_1).f1) + a0)))) (fun _ hk => hk.1.2))); (case aS => exact (below_size (by repeat (first | (with_reducible first | exact HB.out | apply below_alloc | apply pw_below_drewN | apply below_drew1 | refine below_set ?_ GE102.out) | exact HB.out)))); (case aL => have := LMc8.out; omega); intro v105 w11 ho hb hg hat; rw [← Ny104.out] at ho; have n0_ := Aside0.mk (blk_grown (g := gb102) (o := .cells #[.int .u8 ((rd_T35 l1 x7_1).f0), .int .i64 (wrap64 (((rd_T35 l1 x7_1).f1) + a0)), .int .u64 ((rd_T35 l1 x7_1).f2)] 35 (0, 0)) (by (with_reducible repeat (first | refine blk_drewN ?_ _ | refine blk_drew ?_ | refine blk_alloc ?_ _)); refine blk_put (cs := #[.int .u8 ((rd_T35 l1 x7_1).f0), .int .i64 ((rd_T35 l1 x7_1).f1), .int .u64 ((rd_T35 l1 x7_1).f2)]) ?_ 1 _ rfl; (with_reducible repeat (first | refine blk_drewN ?_ _ | refine blk_drew ?_ | refine blk_alloc ?_ _)); refine blk_put (cs := #[.int .u8 ((rd_T35 l1 x7_1).f0), .int .i64 ((rd_T35 l1 x7_1).f1), .int .u64 0]) ?_ 2 _ rfl; (with_reducible repeat (first | refine blk_drewN ?_ _ | refine blk_drew ?_ | refine blk_alloc ?_ _)); refine blk_put (cs := #[.int .u8 ((rd_T35 l1 x7_1).f0), .int .i64 0, .int .u64 0]) ?_ 1 _ rfl; (with_reducible repeat (first | refine blk_drewN ?_ _ | refine blk_drew ?_ | refine blk_alloc ?_ _)); refine blk_put (cs := #[.int .u8 0, .int .i64 0, .int .u64 0]) ?_ 0 _ rfl; (with_reducible repeat (first | refine blk_drewN ?_ _ | refine blk_drew ?_ | refine blk_alloc ?_ _)); exact BK102.out) hg (Kd.R_away HO_6.out (fun _ hk => hk.2))); have n1_ := Aside0.mk (hb); have n2_ := Aside0.mk (ho); clear BK102; clear HB; clear HO_6; have BK102 := n0_; have HB := n1_; have HO106 := n2_; clear n0_ n1_ n2_; clear ho hb hg hat))
                go_roundg k1
                case measure => have := HK1.out; omega
                case rel => exact ⟨(y104), (wrap64 (x7_1 + 1)), (by first | rfl | (simp; done) | (simp [*]; done)), H', ⟨by have := HK1.out; omega⟩, ⟨by (with_reducible repeat (first | apply Kd.R_alloc | apply Kd.R_drewN | apply Kd.R_drew)); exact Kd.R_mono HO106.out (fun _ hk => trivial)⟩, ⟨by repeat (first | (with_reducible first | exact HB.out | apply below_alloc | apply pw_below_drewN | apply below_drew1 | refine below_set ?_ GE102.out) | exact HB.out)⟩⟩
              · rw [if_neg c8] at H
                exact absurd H (by simp)
            · replace c7 := Bool.eq_false_iff.mpr c7
              subst c7
              have H1 : (if x6_1.length < 5864062014805 then (rowlockref22_At.l0 k1 a0 l1 (x6_1 ++ [(⟨(rd_T35 l1 x7_1).f0, (rd_T35 l1 x7_1).f1, (rd_T35 l1 x7_1).f2⟩ : S35)]) (wrap64 (x7_1 + 1))) else (none)) = some (r1, r2) := by rw [if_neg (show ¬ (false = true) by decide)] at H; exact H
              clear H
              have H := H1
              clear H1
              by_cases c12 : x6_1.length < 5864062014805
              · rw [if_pos c12] at H
                have LMc12 := Aside0.mk c12
                clear c12
                obtain ⟨y107, hy107⟩ : ∃ y_ : List (S35), y_ = (x6_1 ++ [(⟨(rd_T35 l1 x7_1).f0, (rd_T35 l1 x7_1).f1, (rd_T35 l1 x7_1).f2⟩ : S35)]) := ⟨_, rfl⟩
                replace H : (rowlockref22_At.l0 k1 a0 l1 y107 (wrap64 (x7_1 + 1))) = some (r1, r2) := by first | (rw [hy107]; with_reducible exact H) | (have H2_ := (Option.bind_some _ _).symm.trans H; rw [hy107]; with_reducible exact H2_) | (have H2_ := (Option.bind_some _ _).symm.trans H; with_reducible exact H2_) | with_reducible exact H | (rw [hy107]; exact H) | exact H
                have Ny107 := Aside0.mk hy107
                clear hy107
                have H' := Aside0.mk H
                clear H
                have p101 : 0 ≤ (x7_1 : Int) := of_decide_eq_true (by first | (with_reducible assumption) | assumption)
                have q101 : x7_1 < (l1.length : Int) := of_decide_eq_true (by first | (with_reducible assumption) | assumption)
                obtain ⟨ad101, e101, hx101_0, hx101_1, hx101_2⟩ := at_T35 HR1.out x7_1 p101 q101
                cases e101
                replace hx101_0 := (HB.out.cell (World.block_lt_of_cell? w _ hx101_0)).trans hx101_0
                replace hx101_1 := (HB.out.cell (World.block_lt_of_cell? w _ hx101_1)).trans hx101_1
                replace hx101_2 := (HB.out.cell (World.block_lt_of_cell? w _ hx101_2)).trans hx101_2
                replace p101 := eq_true p101
                replace q101 := eq_true q101
                go_wp2_with (first | ((with_reducible refine gate_dst (N := 8) rfl ?_); refine box_event ?hg (N := 8) ?hd (cs := #[.int .u8 0, .int .i64 0, .int .u64 0]) (t := 35) ?hr ?_; (case hd => rfl); (case hg => rfl); (case hr => first | (go_simp; done) | (go_simp; rfl)); intro gb102 hg w13 hbox hb; have n0_ := Aside0.mk (Kd.R_below (Kd.R_elderB (by (with_reducible repeat (first | apply Kd.R_alloc | apply Kd.R_drewN | apply Kd.R_drew)); exact HO_6.out) gb102 (Nat.le_of_eq hg.symm)) hb); have n1_ := Aside0.mk (below_step (by repeat (first | (with_reducible first | exact HB.out | apply below_alloc | apply pw_below_drewN | apply below_drew1) | exact HB.out)) hb); have n2_ := Aside0.mk (hbox); have n3_ := Aside0.mk ((by rw [hg]; exact (below_size (by repeat (first | (with_reducible first | exact HB.out | apply below_alloc | apply pw_below_drewN | apply below_drew1) | exact HB.out))) : w.heap.size ≤ gb102)); have n4_ := Aside0.mk ((by rw [hg]; exact (below_size (by repeat (first | (with_reducible first | exact HB.out | apply below_alloc | apply pw_below_drewN | apply below_drew1) | exact HB.out))) : w.heap.size ≤ gb102)); clear HO_6; clear HB; have HO_6 := n0_; have HB := n1_; have BK102 := n2_; have GW102 := n3_; have GE102 := n4_; clear n0_ n1_ n2_ n3_ n4_; clear hb hbox hg; have hcz14_0 : w13.cell? ⟨gb102, 0, none⟩ = some (.int .u8 0) := (blk_cell BK102.out 0).trans rfl; have hcz14_1 : w13.cell? ⟨gb102, 1, none⟩ = some (.int .i64 0) := (blk_cell BK102.out 1).trans rfl; have hcz14_2 : w13.cell? ⟨gb102, 2, none⟩ = some (.int .u64 0) := (blk_cell BK102.out 2).trans rfl; have hfz14_0 := blk_frozen BK102.out 0; have hfz14_1 := blk_frozen BK102.out 1; have hfz14_2 := blk_frozen BK102.out 2) | ((with_reducible refine gate_callee (f := 78) rfl ?_); refine goesL_ (some 26) rfl rfl Try.func78 (by kernel_rfl) rfl #[.int .u8 ((rd_T35 l1 x7_1).f0)] rfl (by (try simp only [List.map_toArray, List.map_cons, List.map_nil]); first | done | rfl | (simp only [List.length_drop, List.length_take]; rfl)) ?_; (with_reducible refine (rowlockref22_place.calls ((rd_T35 l1 x7_1).f0) false _ A6.out).mono ?_); rintro e w' ⟨rfl, ⟨nd, rfl⟩⟩; refine ⟨_, rfl, ?_⟩) | ((with_reducible refine gate_builtin (b := .append) (xs := #[.tmp 32, .tmp 34]) rfl ?_); at_builtin; refine Kd.R_append k35 (w0 := w) w.heap.size rfl (.tmp 32) (.tmp 34) 22 35 (.agg #[(.int .u8 0), (.int .i64 0), (.int .u64 0)]) 24 rfl Try.underlying22 info35 rfl (by decide) (by omega) u6 x6_1 (⟨(rd_T35 l1 x7_1).f0, (rd_T35 l1 x7_1).f1, (rd_T35 l1 x7_1).f2⟩ : S35) [.int .u8 ((rd_T35 l1 x7_1).f0), .int .i64 ((rd_T35 l1 x7_1).f1), .int .u64 ((rd_T35 l1 x7_1).f2)] (fun k_ => k_ ≠ gb102) (fun _ => False) rfl (by first | (go_simp; done) | (go_simp; rfl)) ?aP (fun _ hk => hk.elim) ?aF ?aO ?aB ?aS ?aL ?_; (case aP => exact k35_mkM _ _ _ (⟨(rd_T35 l1 x7_1).f0, (rd_T35 l1 x7_1).f1, (rd_T35 l1 x7_1).f2⟩ : S35)); (case aB => exact (by repeat (first | (with_reducible first | exact HB.out | apply below_alloc | apply pw_below_drewN | apply below_drew1 | refine below_set ?_ GE102.out) | exact HB.out))); (case aF => exact (fun k_ hk => Kd.freshB (g := gb102) (o := .cells #[.int .u8 ((rd_T35 l1 x7_1).f0), .int .i64 ((rd_T35 l1 x7_1).f1), .int .u64 ((rd_T35 l1 x7_1).f2)] 35 (0, 0)) (by (with_reducible repeat (first | refine blk_drewN ?_ _ | refine blk_drew ?_ | refine blk_alloc ?_ _)); refine blk_put (cs := #[.int .u8 ((rd_T35 l1 x7_1).f0), .int .i64 ((rd_T35 l1 x7_1).f1), .int .u64 0]) ?_ 2 _ rfl; (with_reducible repeat (first | refine blk_drewN ?_ _ | refine blk_drew ?_ | refine blk_alloc ?_ _)); refine blk_put (cs := #[.int .u8 ((rd_T35 l1 x7_1).f0), .int .i64 0, .int .u64 0]) ?_ 1 _ rfl; (with_reducible repeat (first | refine blk_drewN ?_ _ | refine blk_drew ?_ | refine blk_alloc ?_ _)); refine blk_put (cs := #[.int .u8 0, .int .i64 0, .int .u64 0]) ?_ 0 _ rfl; (with_reducible repeat (first | refine blk_drewN ?_ _ | refine blk_drew ?_ | refine blk_alloc ?_ _)); exact BK102.out) k_ hk)); (case aO => exact (by (with_reducible repeat (first | apply Kd.R_alloc | apply Kd.R_drewN | apply Kd.R_drew)); exact Kd.R_mono (Kd.R_far (p := ⟨gb102, 2, none⟩) (Kd.R_far (p := ⟨gb102, 1, none⟩) (Kd.R_far (p := ⟨gb102, 0, none⟩) (Kd.R_mono HO_6.out (fun k_ hk => (⟨hk, hk.2⟩ : _ ∧ k_ ≠ gb102))) (fun _ hk => hk.2) (.int .u8 ((rd_T35 l1 x7_1).f0))) (fun _ hk => hk.2) (.int .i64 ((rd_T35 l1 x7_1).f1))) (fun _ hk => hk.2) (.int .u64 ((rd_T35 l1 x7_1).f2))) (fun _ hk => hk.1.2))); (case aS => exact (below_size (by repeat (first | (with_reducible first | exact HB.out | apply below_alloc | apply pw_below_drewN | apply below_drew1 | refine below_set ?_ GE102.out) | exact HB.out)))); (case aL => have := LMc12.out; omega); intro v108 w15 ho hb hg hat; rw [← Ny107.out] at ho; have n0_ := Aside0.mk (blk_grown (g := gb102) (o := .cells #[.int .u8 ((rd_T35 l1 x7_1).f0), .int .i64 ((rd_T35 l1 x7_1).f1), .int .u64 ((rd_T35 l1 x7_1).f2)] 35 (0, 0)) (by (with_reducible repeat (first | refine blk_drewN ?_ _ | refine blk_drew ?_ | refine blk_alloc ?_ _)); refine blk_put (cs := #[.int .u8 ((rd_T35 l1 x7_1).f0), .int .i64 ((rd_T35 l1 x7_1).f1), .int .u64 0]) ?_ 2 _ rfl; (with_reducible repeat (first | refine blk_drewN ?_ _ | refine blk_drew ?_ | refine blk_alloc ?_ _)); refine blk_put (cs := #[.int .u8 ((rd_T35 l1 x7_1).f0), .int .i64 0, .int .u64 0]) ?_ 1 _ rfl; (with_reducible repeat (first | refine blk_drewN ?_ _ | refine blk_drew ?_ | refine blk_alloc ?_ _)); refine blk_put (cs := #[.int .u8 0, .int .i64 0, .int .u64 0]) ?_ 0 _ rfl; (with_reducible repeat (first | refine blk_drewN ?_ _ | refine blk_drew ?_ | refine blk_alloc ?_ _)); exact BK102.out) hg (Kd.R_away HO_6.out (fun _ hk => hk.2))); have n1_ := Aside0.mk (hb); have n2_ := Aside0.mk (ho); clear BK102; clear HB; clear HO_6; have BK102 := n0_; have HB := n1_; have HO109 := n2_; clear n0_ n1_ n2_; clear ho hb hg hat))
                go_roundg k1
                case measure => have := HK1.out; omega
                case rel => exact ⟨(y107), (wrap64 (x7_1 + 1)), (by first | rfl | (simp; done) | (simp [*]; done)), H', ⟨by have := HK1.out; omega⟩, ⟨by (with_reducible repeat (first | apply Kd.R_alloc | apply Kd.R_drewN | apply Kd.R_drew)); exact Kd.R_mono HO109.out (fun _ hk => trivial)⟩, ⟨by repeat (first | (with_reducible first | exact HB.out | apply below_alloc | apply pw_below_drewN | apply below_drew1 | refine below_set ?_ GE102.out) | exact HB.out)⟩⟩
              · rw [if_neg c12] at H
                exact absurd H (by simp)
          · rw [if_neg c5] at H
            exact absurd H (by simp)
        · rw [if_neg c4] at H
          have c4b0 : decide (x7_1 < (l1.length : Int)) = false := decide_eq_false c4
          clear c4
          simp only [Option.some.injEq, Prod.mk.injEq] at H
          obtain ⟨rfl, rfl⟩ := H
          go_wp2
          go_ret2
          exact ⟨_, by first | rfl | (simp [errW_none, errW_some] <;> rfl) | (simp [*, errW_none, errW_some] <;> rfl), by (with_reducible repeat (first | apply Kd.R_alloc | apply Kd.R_drewN | apply Kd.R_drew)); exact HO_6.out, by repeat (first | (with_reducible first | exact HB.out | apply below_alloc | apply pw_below_drewN | apply below_drew1) | exact HB.out)⟩

/-! ### locks_block: function 60 -/
def locks_block.dom (a0 : Int) (l1 : List (S35)) : Bool := decide (0 ≤ a0 ∧ a0 ≤ 64 ∧ 0 < l1.length ∧ l1.length ≤ 64) && l1.all (fun x => decide (0 ≤ x.f0 ∧ x.f0 ≤ 255 ∧ 0 ≤ x.f1 ∧ x.f1 ≤ 1000))
def locks_block.f (a0 : Int) (l1 : List (S35)) : Option ((List (S35)) × Int) :=
  if locks_block.dom a0 l1 = true then (if 64 < a0 + (l1.length : Int) then some ([], 4) else some (l1.map (fun x => if jumpB x.f0 = true then (⟨x.f0, x.f1 + a0, x.f2⟩ : S35) else x), 0)) else none

def locks_block.tri (l : List (S35)) : List (Int × Int × Int) := l.map fun x => (x.f0, x.f1, x.f2)
theorem locks_block.cells {w : World} {ad : Addr} {l : List (S35)} (hc : ∀ j p, l[j]? = some p → ∃ c, c.length = k35.sz ∧ k35.K w p c ∧ ∀ i u, c[i]? = some u → w.cell? (ad.add (j * k35.sz + i)) = some u) :
    ∀ j u, (insC (locks_block.tri l))[j]? = some u → w.cell? (ad.add j) = some u := by
  intro j u hj
  have hlen := insC_len (locks_block.tri l)
  have hlt : j < l.length * 3 := by
    have := (List.getElem?_eq_some_iff.1 hj).1
    rw [hlen] at this
    simpa [locks_block.tri] using this
  have hq : j / 3 < l.length := by omega
  obtain ⟨c, _, hk, hcell⟩ := hc (j / 3) l[j / 3] (List.getElem?_eq_getElem hq)
  have hk' := k35_open hk
  subst hk'
  have hx : (locks_block.tri l)[j / 3]? = some (l[j / 3].f0, l[j / 3].f1, l[j / 3].f2) := by simp [locks_block.tri, hq]
  obtain ⟨i0, i1, i2⟩ := insC_at _ _ _ hx
  have hm : j % 3 = 0 ∨ j % 3 = 1 ∨ j % 3 = 2 := by omega
  have hsz : k35.sz = 3 := rfl
  rw [hsz] at hcell
  rcases hm with m | m | m
  · have e : j = j / 3 * 3 := by omega
    rw [e, i0] at hj
    rw [e]
    exact hcell 0 u (by simpa using hj)
  · have e : j = j / 3 * 3 + 1 := by omega
    rw [e, i1] at hj
    rw [e]
    exact hcell 1 u (by simpa using hj)
  · have e : j = j / 3 * 3 + 2 := by omega
    rw [e, i2] at hj
    rw [e]
    exact hcell 2 u (by simpa using hj)
theorem locks_block.own {w : World} {base : Nat} {v : Value} {l : List (S35)} (h : w.ownsRow base 35 3 v l.length (insC (locks_block.tri l))) : Kd.R k35 35 w base (fun _ => True) v l := by
  refine ⟨fun _ _ => trivial, _, h, ?_, ?_⟩
  · rw [insC_len]; simp [locks_block.tri]; rfl
  · intro j p hp
    have hx : (locks_block.tri l)[j]? = some (p.f0, p.f1, p.f2) := by simp [locks_block.tri, hp]
    obtain ⟨i0, i1, i2⟩ := insC_at _ _ _ hx
    have e : ((insC (locks_block.tri l)).drop (j * 3)).take 3 = [.int .u8 p.f0, .int .i64 p.f1, .int .u64 p.f2] := by
      apply List.ext_getElem?
      intro i
      rw [List.getElem?_take]
      by_cases hi : i < 3
      · rw [if_pos hi, List.getElem?_drop]
        have hi' : i = 0 ∨ i = 1 ∨ i = 2 := by omega
        rcases hi' with rfl | rfl | rfl
        · rw [Nat.add_zero, i0]; rfl
        · rw [i1]; rfl
        · rw [i2]; rfl
      · rw [if_neg hi, List.getElem?_eq_none (by simp; omega)]
    show k35.M _ _ _ p (((insC (locks_block.tri l)).drop (j * 3)).take 3)
    rw [e]
    exact k35_mkM _ _ _ p
set_option maxHeartbeats 8000000 in
set_option maxRecDepth 100000 in
theorem locks_block.calls (a0 : Int) (A1 : Option Addr) (c1 : Nat) (l1 : List (S35)) (r1 : List (S35)) (r2 : Int) (w : World) (hr1 : Kd.C k35 w A1 l1.length l1) (hc1 : l1.length ≤ c1) (h : locks_block.f a0 l1 = some (r1, r2)) :
    Calls Try.prog 60 #[.int .i64 a0, .slice A1 l1.length c1] w fun e w' => ∃ v0_ : Value, e = .returned (.tuple #[v0_, .int .i64 r2]) ∧ Kd.R k35 35 w' w.heap.size (fun _ => True) v0_ r1 ∧ Below w.heap.size w w' := by
  unfold locks_block.f at h
  split at h
  · rename_i hd
    unfold locks_block.dom at hd
    simp only [Bool.and_eq_true, decide_eq_true_eq, List.all_eq_true] at hd
    obtain ⟨⟨d0, d1, d2, d3⟩, d4⟩ := hd
    obtain ⟨_, _, hr⟩ := hr1
    obtain ⟨ad, rfl, hcs⟩ := hr d2
    have hcell := locks_block.cells hcs
    obtain ⟨b, off, spot⟩ := ad
    have hspot : spot = none := by
      cases spot with
      | none => rfl
      | some sp =>
        exfalso
        have hx : (locks_block.tri l1)[0]? = some (l1[0].f0, l1[0].f1, l1[0].f2) := by simp [locks_block.tri, d2]
        have h0 := hcell 0 _ (insC_at _ 0 _ hx).1
        simp [Addr.add, World.cell?] at h0
        split at h0 <;> simp at h0
    subst hspot
    have hlen : (locks_block.tri l1).length = l1.length := by simp [locks_block.tri]
    have hb := block_any a0 d0 d1 (locks_block.tri l1) (by omega) (by omega) (by
      intro x hx
      simp only [locks_block.tri, List.mem_map] at hx
      obtain ⟨y, hy, rfl⟩ := hx
      exact d4 y hy) b off c1 w hcell
    rw [hlen] at hb
    refine hb.mono ?_
    intro e w' hp
    unfold BlockPost at hp
    rw [hlen] at hp
    split at h
    · rename_i hl
      rw [if_pos hl] at hp
      obtain ⟨rfl, rfl⟩ := Prod.mk.inj (Option.some.inj h)
      obtain ⟨rfl, hbl⟩ := hp
      exact ⟨_, rfl, Kd.R_nil _ _ _ _ _, hbl⟩
    · rename_i hl
      rw [if_neg hl] at hp
      obtain ⟨rfl, rfl⟩ := Prod.mk.inj (Option.some.inj h)
      obtain ⟨v, rfl, ho, hbl⟩ := hp
      refine ⟨v, rfl, locks_block.own ?_, hbl⟩
      have e1 : locks_block.tri (l1.map (fun x => if jumpB x.f0 = true then (⟨x.f0, x.f1 + a0, x.f2⟩ : S35) else x)) = (locks_block.tri l1).map (shiftI a0) := by
        unfold locks_block.tri
        rw [List.map_map, List.map_map]
        apply List.map_congr_left
        intro x _
        simp only [Function.comp, shiftI]
        cases jumpB x.f0 <;> rfl
      rw [e1, List.length_map]
      exact ho
  · cases h

/-! ### locks_with: function 61 -/
def locks_with.f (a0 : Int) (a1 : Int) : Option (Int × Int × Int) := some (a0, a1, 0)
set_option maxHeartbeats 8000000 in
set_option maxRecDepth 100000 in
theorem locks_with.calls (a0 : Int) (a1 : Int) (r1 : Int) (r2 : Int) (r3 : Int) (w : World) (h : locks_with.f a0 a1 = some (r1, r2, r3)) :
    Calls Try.prog 61 #[.int .u8 a0, .int .i64 a1] w fun e w' => e = .returned (.agg #[.int .u8 r1, .int .i64 r2, .int .u64 r3]) ∧ Below w.heap.size w w' := by
  have hu35 := Try.underlying35
  have HB := Aside0.mk (Below.refl w.heap.size w)
  have H : (some (a0, a1, 0)) = some (r1, r2, r3) := h
  clear h
  simp only [Option.some.injEq, Prod.mk.injEq] at H
  obtain ⟨rfl, rfl, rfl⟩ := H
  go_enter Try.func61, Try.ntmps61
  go_wp2_with (first | ((with_reducible refine gate_dst (N := 4) rfl ?_); refine box_event ?hg (N := 4) ?hd (cs := #[.int .u8 0, .int .i64 0, .int .u64 0]) (t := 35) ?hr ?_; (case hd => rfl); (case hg => rfl); (case hr => first | (go_simp; done) | (go_simp; rfl)); intro gb119 hg w3 hbox hb; have n0_ := Aside0.mk (below_step (by repeat (first | (with_reducible first | exact HB.out | apply below_alloc | apply pw_below_drewN | apply below_drew1) | exact HB.out)) hb); have n1_ := Aside0.mk (hbox); have n2_ := Aside0.mk ((by rw [hg]; exact (below_size (by repeat (first | (with_reducible first | exact HB.out | apply below_alloc | apply pw_below_drewN | apply below_drew1) | exact HB.out))) : w.heap.size ≤ gb119)); have n3_ := Aside0.mk ((by rw [hg]; exact (below_size (by repeat (first | (with_reducible first | exact HB.out | apply below_alloc | apply pw_below_drewN | apply below_drew1) | exact HB.out))) : w.heap.size ≤ gb119)); clear HB; have HB := n0_; have BK119 := n1_; have GW119 := n2_; have GE119 := n3_; clear n0_ n1_ n2_ n3_; clear hb hbox hg; have hcz4_0 : w3.cell? ⟨gb119, 0, none⟩ = some (.int .u8 0) := (blk_cell BK119.out 0).trans rfl; have hcz4_1 : w3.cell? ⟨gb119, 1, none⟩ = some (.int .i64 0) := (blk_cell BK119.out 1).trans rfl; have hcz4_2 : w3.cell? ⟨gb119, 2, none⟩ = some (.int .u64 0) := (blk_cell BK119.out 2).trans rfl; have hfz4_0 := blk_frozen BK119.out 0; have hfz4_1 := blk_frozen BK119.out 1; have hfz4_2 := blk_frozen BK119.out 2))
  refine bodyPost_ret (results_cell_row rfl _ _ gb119 35 #[.int .u8 a0, .int .i64 a1, .int .u64 0] (0, 0) _ rfl (by (with_reducible repeat (first | refine blk_drewN ?_ _ | refine blk_drew ?_ | refine blk_alloc ?_ _)); refine blk_put (cs := #[.int .u8 a0, .int .i64 a1, .int .u64 0]) ?_ 2 _ rfl; (with_reducible repeat (first | refine blk_drewN ?_ _ | refine blk_drew ?_ | refine blk_alloc ?_ _)); refine blk_put (cs := #[.int .u8 a0, .int .i64 0, .int .u64 0]) ?_ 1 _ rfl; (with_reducible repeat (first | refine blk_drewN ?_ _ | refine blk_drew ?_ | refine blk_alloc ?_ _)); refine blk_put (cs := #[.int .u8 0, .int .i64 0, .int .u64 0]) ?_ 0 _ rfl; (with_reducible repeat (first | refine blk_drewN ?_ _ | refine blk_drew ?_ | refine blk_alloc ?_ _)); exact BK119.out) Try.underlying35 rfl (by kernel_rfl)) rfl ?_
  exact ⟨by first | rfl | (simp [errW_none, errW_some] <;> rfl) | (simp [*, errW_none, errW_some] <;> rfl), by repeat (first | (with_reducible first | exact HB.out | apply below_alloc | apply pw_below_drewN | apply below_drew1 | refine below_set ?_ GE119.out) | exact HB.out)⟩

/-! ### locks_op: function 62 -/
def locks_op.f (a0 : Int) : Option (Int × Int × Int) := some (a0, 0, 0)
set_option maxHeartbeats 8000000 in
set_option maxRecDepth 100000 in
theorem locks_op.calls (a0 : Int) (r1 : Int) (r2 : Int) (r3 : Int) (w : World) (h : locks_op.f a0 = some (r1, r2, r3)) :
    Calls Try.prog 62 #[.int .u8 a0] w fun e w' => e = .returned (.agg #[.int .u8 r1, .int .i64 r2, .int .u64 r3]) ∧ Below w.heap.size w w' := by
  have hu35 := Try.underlying35
  have HB := Aside0.mk (Below.refl w.heap.size w)
  have H : (some (a0, 0, 0)) = some (r1, r2, r3) := h
  clear h
  simp only [Option.some.injEq, Prod.mk.injEq] at H
  obtain ⟨rfl, rfl, rfl⟩ := H
  go_enter Try.func62, Try.ntmps62
  go_wp2_with (first | ((with_reducible refine gate_dst (N := 2) rfl ?_); refine box_event ?hg (N := 2) ?hd (cs := #[.int .u8 0, .int .i64 0, .int .u64 0]) (t := 35) ?hr ?_; (case hd => rfl); (case hg => rfl); (case hr => first | (go_simp; done) | (go_simp; rfl)); intro gb120 hg w2 hbox hb; have n0_ := Aside0.mk (below_step (by repeat (first | (with_reducible first | exact HB.out | apply below_alloc | apply pw_below_drewN | apply below_drew1) | exact HB.out)) hb); have n1_ := Aside0.mk (hbox); have n2_ := Aside0.mk ((by rw [hg]; exact (below_size (by repeat (first | (with_reducible first | exact HB.out | apply below_alloc | apply pw_below_drewN | apply below_drew1) | exact HB.out))) : w.heap.size ≤ gb120)); have n3_ := Aside0.mk ((by rw [hg]; exact (below_size (by repeat (first | (with_reducible first | exact HB.out | apply below_alloc | apply pw_below_drewN | apply below_drew1) | exact HB.out))) : w.heap.size ≤ gb120)); clear HB; have HB := n0_; have BK120 := n1_; have GW120 := n2_; have GE120 := n3_; clear n0_ n1_ n2_ n3_; clear hb hbox hg; have hcz3_0 : w2.cell? ⟨gb120, 0, none⟩ = some (.int .u8 0) := (blk_cell BK120.out 0).trans rfl; have hcz3_1 : w2.cell? ⟨gb120, 1, none⟩ = some (.int .i64 0) := (blk_cell BK120.out 1).trans rfl; have hcz3_2 : w2.cell? ⟨gb120, 2, none⟩ = some (.int .u64 0) := (blk_cell BK120.out 2).trans rfl; have hfz3_0 := blk_frozen BK120.out 0; have hfz3_1 := blk_frozen BK120.out 1; have hfz3_2 := blk_frozen BK120.out 2))
  refine bodyPost_ret (results_cell_row rfl _ _ gb120 35 #[.int .u8 a0, .int .i64 0, .int .u64 0] (0, 0) _ rfl (by (with_reducible repeat (first | refine blk_drewN ?_ _ | refine blk_drew ?_ | refine blk_alloc ?_ _)); refine blk_put (cs := #[.int .u8 a0, .int .i64 0, .int .u64 0]) ?_ 2 _ rfl; (with_reducible repeat (first | refine blk_drewN ?_ _ | refine blk_drew ?_ | refine blk_alloc ?_ _)); refine blk_put (cs := #[.int .u8 a0, .int .i64 0, .int .u64 0]) ?_ 1 _ rfl; (with_reducible repeat (first | refine blk_drewN ?_ _ | refine blk_drew ?_ | refine blk_alloc ?_ _)); refine blk_put (cs := #[.int .u8 0, .int .i64 0, .int .u64 0]) ?_ 0 _ rfl; (with_reducible repeat (first | refine blk_drewN ?_ _ | refine blk_drew ?_ | refine blk_alloc ?_ _)); exact BK120.out) Try.underlying35 rfl (by kernel_rfl)) rfl ?_
  exact ⟨by first | rfl | (simp [errW_none, errW_some] <;> rfl) | (simp [*, errW_none, errW_some] <;> rfl), by repeat (first | (with_reducible first | exact HB.out | apply below_alloc | apply pw_below_drewN | apply below_drew1 | refine below_set ?_ GE120.out) | exact HB.out)⟩

/-! ### value_Int: function 81 -/
def value_Int.f (a0 : Int) : Option (Int × Bool) := some (intV a0, intOk a0)


set_option maxHeartbeats 8000000 in
set_option maxRecDepth 100000 in
theorem value_Int.calls (a0 : Int) (r1 : Int) (r2 : Bool) (w : World) (h : value_Int.f a0 = some (r1, r2)) :
    Calls Try.prog 81 #[.int .i64 a0] w fun e w' => e = .returned (.tuple #[.int .u64 r1, .bool r2]) ∧ Drawn0 w w' := by
  unfold value_Int.f at h
  obtain ⟨rfl, rfl⟩ := Prod.mk.inj (Option.some.inj h)
  refine (int_any a0  w).mono ?_
  rintro e w' ⟨rfl, rfl⟩
  exact ⟨rfl, Drawn0.refl _⟩

/-! ### locks_number: function 63 -/
def locks_number.f (a0 : Int) : Option (Int × Int × Int) := (value_Int.f a0).bind fun bt122 => (some (1, 0, bt122.1))
set_option maxHeartbeats 8000000 in
set_option maxRecDepth 100000 in
theorem locks_number.calls (a0 : Int) (r1 : Int) (r2 : Int) (r3 : Int) (w : World) (h : locks_number.f a0 = some (r1, r2, r3)) :
    Calls Try.prog 63 #[.int .i64 a0] w fun e w' => e = .returned (.agg #[.int .u8 r1, .int .i64 r2, .int .u64 r3]) ∧ Below w.heap.size w w' := by
  have hu35 := Try.underlying35
  have HB := Aside0.mk (Below.refl w.heap.size w)
  have H : ((value_Int.f a0).bind fun bt122 => (some (1, 0, bt122.1))) = some (r1, r2, r3) := h
  clear h
  replace H := Option.bind_eq_some_iff.mp H
  obtain ⟨⟨t122, t123⟩, A20, H⟩ := H
  replace H : (some (1, 0, t122)) = some (r1, r2, r3) := H
  have A2 := Aside0.mk A20
  clear A20
  simp only [Option.some.injEq, Prod.mk.injEq] at H
  obtain ⟨rfl, rfl, rfl⟩ := H
  go_enter Try.func63, Try.ntmps63
  go_wp2_with (first | ((with_reducible refine gate_dst (N := 2) rfl ?_); refine box_event ?hg (N := 2) ?hd (cs := #[.int .u8 0, .int .i64 0, .int .u64 0]) (t := 35) ?hr ?_; (case hd => rfl); (case hg => rfl); (case hr => first | (go_simp; done) | (go_simp; rfl)); intro gb121 hg w3 hbox hb; have n0_ := Aside0.mk (below_step (by repeat (first | (with_reducible first | exact HB.out | apply below_alloc | apply pw_below_drewN | apply below_drew1) | exact HB.out)) hb); have n1_ := Aside0.mk (hbox); have n2_ := Aside0.mk ((by rw [hg]; exact (below_size (by repeat (first | (with_reducible first | exact HB.out | apply below_alloc | apply pw_below_drewN | apply below_drew1) | exact HB.out))) : w.heap.size ≤ gb121)); have n3_ := Aside0.mk ((by rw [hg]; exact (below_size (by repeat (first | (with_reducible first | exact HB.out | apply below_alloc | apply pw_below_drewN | apply below_drew1) | exact HB.out))) : w.heap.size ≤ gb121)); clear HB; have HB := n0_; have BK121 := n1_; have GW121 := n2_; have GE121 := n3_; clear n0_ n1_ n2_ n3_; clear hb hbox hg) | ((with_reducible refine gate_callee (f := 81) rfl ?_); refine goesL_ (some 7) rfl rfl Try.func81 (by kernel_rfl) rfl #[.int .i64 a0] rfl (by (try simp only [List.map_toArray, List.map_cons, List.map_nil]); first | done | rfl | (simp only [List.length_drop, List.length_take]; rfl)) ?_; (with_reducible refine (value_Int.calls a0 t122 t123 _ A2.out).mono ?_); rintro e w' ⟨rfl, ⟨nd, rfl⟩⟩; refine ⟨_, rfl, ?_⟩; (try (rw [drewN_self w3]; generalize hq_ : World.drewN w3 _ = w3; have n0_ : Aside0 (w3.heap[gb121]? = some (.cells #[.int .u8 0, .int .i64 0, .int .u64 0] 35 (0, 0))) := ⟨by rw [← hq_]; exact (by (with_reducible repeat (first | refine blk_drewN ?_ _ | refine blk_drew ?_ | refine blk_alloc ?_ _)); exact BK121.out)⟩; have n1_ : Aside0 (Below w.heap.size w w3) := ⟨by rw [← hq_]; exact (by repeat (first | (with_reducible first | exact HB.out | apply below_alloc | apply pw_below_drewN | apply below_drew1 | refine below_set ?_ GE121.out) | exact HB.out))⟩; clear BK121 HB hq_; have BK121 := n0_; have HB := n1_; clear n0_ n1_)); have hcz4_0 : w3.cell? ⟨gb121, 0, none⟩ = some (.int .u8 0) := (blk_cell BK121.out 0).trans rfl; have hcz4_1 : w3.cell? ⟨gb121, 1, none⟩ = some (.int .i64 0) := (blk_cell BK121.out 1).trans rfl; have hcz4_2 : w3.cell? ⟨gb121, 2, none⟩ = some (.int .u64 0) := (blk_cell BK121.out 2).trans rfl; have hfz4_0 := blk_frozen BK121.out 0; have hfz4_1 := blk_frozen BK121.out 1; have hfz4_2 := blk_frozen BK121.out 2))
  refine bodyPost_ret (results_cell_row rfl _ _ gb121 35 #[.int .u8 1, .int .i64 0, .int .u64 t122] (0, 0) _ rfl (by (with_reducible repeat (first | refine blk_drewN ?_ _ | refine blk_drew ?_ | refine blk_alloc ?_ _)); refine blk_put (cs := #[.int .u8 1, .int .i64 0, .int .u64 0]) ?_ 2 _ rfl; (with_reducible repeat (first | refine blk_drewN ?_ _ | refine blk_drew ?_ | refine blk_alloc ?_ _)); refine blk_put (cs := #[.int .u8 1, .int .i64 0, .int .u64 0]) ?_ 1 _ rfl; (with_reducible repeat (first | refine blk_drewN ?_ _ | refine blk_drew ?_ | refine blk_alloc ?_ _)); refine blk_put (cs := #[.int .u8 0, .int .i64 0, .int .u64 0]) ?_ 0 _ rfl; (with_reducible repeat (first | refine blk_drewN ?_ _ | refine blk_drew ?_ | refine blk_alloc ?_ _)); exact BK121.out) Try.underlying35 rfl (by kernel_rfl)) rfl ?_
  exact ⟨by first | rfl | (simp [errW_none, errW_some] <;> rfl) | (simp [*, errW_none, errW_some] <;> rfl), by repeat (first | (with_reducible first | exact HB.out | apply below_alloc | apply pw_below_drewN | apply below_drew1 | refine below_set ?_ GE121.out) | exact HB.out)⟩

/-! ### locks_Lock: function 30 -/
def locks_Lock.f (a0 : Int) (a1 : Int) (a2 : Int) : Option ((List (S35)) × Int) := (locks_may.f a0 a1 a2).bind fun t124 => (if t124 = true then ((locks_with.f 21 6).bind fun bt125 => ((locks_with.f 4 a1).bind fun bt128 => ((locks_with.f 20 4).bind fun bt131 => ((locks_op.f 26).bind fun bt134 => ((locks_number.f (wrap64 (a2 + 1))).bind fun bt137 => ((locks_with.f 5 a1).bind fun bt140 => ((locks_op.f 22).bind fun bt143 => ((locks_block.f a0 (([(⟨bt125.1, bt125.2.1, bt125.2.2⟩ : S35), (⟨bt128.1, bt128.2.1, bt128.2.2⟩ : S35), (⟨bt131.1, bt131.2.1, bt131.2.2⟩ : S35), (⟨bt134.1, bt134.2.1, bt134.2.2⟩ : S35), (⟨bt137.1, bt137.2.1, bt137.2.2⟩ : S35), (⟨bt140.1, bt140.2.1, bt140.2.2⟩ : S35), (⟨bt143.1, bt143.2.1, bt143.2.2⟩ : S35)] : List (S35)))).bind fun bt149 => (some (bt149.1, bt149.2)))))))))) else (some (([] : List (S35)), 2)))
set_option maxHeartbeats 8000000 in
set_option maxRecDepth 100000 in
theorem locks_Lock.calls (a0 : Int) (a1 : Int) (a2 : Int) (r1 : List (S35)) (r2 : Int) (w : World) (h : locks_Lock.f a0 a1 a2 = some (r1, r2)) :
    Calls Try.prog 30 #[.int .i64 a0, .int .i64 a1, .int .i64 a2] w fun e w' => ∃ v0_ : Value, e = .returned (.tuple #[v0_, .int .i64 r2]) ∧ Kd.R k35 35 w' w.heap.size (fun _ => True) v0_ r1 ∧ Below w.heap.size w w' := by
  have HB := Aside0.mk (Below.refl w.heap.size w)
  have H : ((locks_may.f a0 a1 a2).bind fun t124 => (if t124 = true then ((locks_with.f 21 6).bind fun bt125 => ((locks_with.f 4 a1).bind fun bt128 => ((locks_with.f 20 4).bind fun bt131 => ((locks_op.f 26).bind fun bt134 => ((locks_number.f (wrap64 (a2 + 1))).bind fun bt137 => ((locks_with.f 5 a1).bind fun bt140 => ((locks_op.f 22).bind fun bt143 => ((locks_block.f a0 (([(⟨bt125.1, bt125.2.1, bt125.2.2⟩ : S35), (⟨bt128.1, bt128.2.1, bt128.2.2⟩ : S35), (⟨bt131.1, bt131.2.1, bt131.2.2⟩ : S35), (⟨bt134.1, bt134.2.1, bt134.2.2⟩ : S35), (⟨bt137.1, bt137.2.1, bt137.2.2⟩ : S35), (⟨bt140.1, bt140.2.1, bt140.2.2⟩ : S35), (⟨bt143.1, bt143.2.1, bt143.2.2⟩ : S35)] : List (S35)))).bind fun bt149 => (some (bt149.1, bt149.2)))))))))) else (some (([] : List (S35)), 2)))) = some (r1, r2) := h
  clear h
  replace H := Option.bind_eq_some_iff.mp H
  obtain ⟨t124, A40, H⟩ := H
  replace H : (if t124 = true then ((locks_with.f 21 6).bind fun bt125 => ((locks_with.f 4 a1).bind fun bt128 => ((locks_with.f 20 4).bind fun bt131 => ((locks_op.f 26).bind fun bt134 => ((locks_number.f (wrap64 (a2 + 1))).bind fun bt137 => ((locks_with.f 5 a1).bind fun bt140 => ((locks_op.f 22).bind fun bt143 => ((locks_block.f a0 (([(⟨bt125.1, bt125.2.1, bt125.2.2⟩ : S35), (⟨bt128.1, bt128.2.1, bt128.2.2⟩ : S35), (⟨bt131.1, bt131.2.1, bt131.2.2⟩ : S35), (⟨bt134.1, bt134.2.1, bt134.2.2⟩ : S35), (⟨bt137.1, bt137.2.1, bt137.2.2⟩ : S35), (⟨bt140.1, bt140.2.1, bt140.2.2⟩ : S35), (⟨bt143.1, bt143.2.1, bt143.2.2⟩ : S35)] : List (S35)))).bind fun bt149 => (some (bt149.1, bt149.2)))))))))) else (some (([] : List (S35)), 2))) = some (r1, r2) := H
  have A4 := Aside0.mk A40
  clear A40
  by_cases c5 : t124 = true
  · subst c5
    have H1 : ((locks_with.f 21 6).bind fun bt125 => ((locks_with.f 4 a1).bind fun bt128 => ((locks_with.f 20 4).bind fun bt131 => ((locks_op.f 26).bind fun bt134 => ((locks_number.f (wrap64 (a2 + 1))).bind fun bt137 => ((locks_with.f 5 a1).bind fun bt140 => ((locks_op.f 22).bind fun bt143 => ((locks_block.f a0 (([(⟨bt125.1, bt125.2.1, bt125.2.2⟩ : S35), (⟨bt128.1, bt128.2.1, bt128.2.2⟩ : S35), (⟨bt131.1, bt131.2.1, bt131.2.2⟩ : S35), (⟨bt134.1, bt134.2.1, bt134.2.2⟩ : S35), (⟨bt137.1, bt137.2.1, bt137.2.2⟩ : S35), (⟨bt140.1, bt140.2.1, bt140.2.2⟩ : S35), (⟨bt143.1, bt143.2.1, bt143.2.2⟩ : S35)] : List (S35)))).bind fun bt149 => (some (bt149.1, bt149.2)))))))))) = some (r1, r2) := by rw [if_pos rfl] at H; exact H
    clear H
    have H := H1
    clear H1
    replace H := Option.bind_eq_some_iff.mp H
    obtain ⟨⟨t125, t126, t127⟩, A60, H⟩ := H
    replace H : ((locks_with.f 4 a1).bind fun bt128 => ((locks_with.f 20 4).bind fun bt131 => ((locks_op.f 26).bind fun bt134 => ((locks_number.f (wrap64 (a2 + 1))).bind fun bt137 => ((locks_with.f 5 a1).bind fun bt140 => ((locks_op.f 22).bind fun bt143 => ((locks_block.f a0 (([(⟨t125, t126, t127⟩ : S35), (⟨bt128.1, bt128.2.1, bt128.2.2⟩ : S35), (⟨bt131.1, bt131.2.1, bt131.2.2⟩ : S35), (⟨bt134.1, bt134.2.1, bt134.2.2⟩ : S35), (⟨bt137.1, bt137.2.1, bt137.2.2⟩ : S35), (⟨bt140.1, bt140.2.1, bt140.2.2⟩ : S35), (⟨bt143.1, bt143.2.1, bt143.2.2⟩ : S35)] : List (S35)))).bind fun bt149 => (some (bt149.1, bt149.2))))))))) = some (r1, r2) := H
    have A6 := Aside0.mk A60
    clear A60
    replace H := Option.bind_eq_some_iff.mp H
    obtain ⟨⟨t128, t129, t130⟩, A70, H⟩ := H
    replace H : ((locks_with.f 20 4).bind fun bt131 => ((locks_op.f 26).bind fun bt134 => ((locks_number.f (wrap64 (a2 + 1))).bind fun bt137 => ((locks_with.f 5 a1).bind fun bt140 => ((locks_op.f 22).bind fun bt143 => ((locks_block.f a0 (([(⟨t125, t126, t127⟩ : S35), (⟨t128, t129, t130⟩ : S35), (⟨bt131.1, bt131.2.1, bt131.2.2⟩ : S35), (⟨bt134.1, bt134.2.1, bt134.2.2⟩ : S35), (⟨bt137.1, bt137.2.1, bt137.2.2⟩ : S35), (⟨bt140.1, bt140.2.1, bt140.2.2⟩ : S35), (⟨bt143.1, bt143.2.1, bt143.2.2⟩ : S35)] : List (S35)))).bind fun bt149 => (some (bt149.1, bt149.2)))))))) = some (r1, r2) := H
    have A7 := Aside0.mk A70
    clear A70
    replace H := Option.bind_eq_some_iff.mp H
    obtain ⟨⟨t131, t132, t133⟩, A80, H⟩ := H
    replace H : ((locks_op.f 26).bind fun bt134 => ((locks_number.f (wrap64 (a2 + 1))).bind fun bt137 => ((locks_with.f 5 a1).bind fun bt140 => ((locks_op.f 22).bind fun bt143 => ((locks_block.f a0 (([(⟨t125, t126, t127⟩ : S35), (⟨t128, t129, t130⟩ : S35), (⟨t131, t132, t133⟩ : S35), (⟨bt134.1, bt134.2.1, bt134.2.2⟩ : S35), (⟨bt137.1, bt137.2.1, bt137.2.2⟩ : S35), (⟨bt140.1, bt140.2.1, bt140.2.2⟩ : S35), (⟨bt143.1, bt143.2.1, bt143.2.2⟩ : S35)] : List (S35)))).bind fun bt149 => (some (bt149.1, bt149.2))))))) = some (r1, r2) := H
    have A8 := Aside0.mk A80
    clear A80
    replace H := Option.bind_eq_some_iff.mp H
    obtain ⟨⟨t134, t135, t136⟩, A90, H⟩ := H
    replace H : ((locks_number.f (wrap64 (a2 + 1))).bind fun bt137 => ((locks_with.f 5 a1).bind fun bt140 => ((locks_op.f 22).bind fun bt143 => ((locks_block.f a0 (([(⟨t125, t126, t127⟩ : S35), (⟨t128, t129, t130⟩ : S35), (⟨t131, t132, t133⟩ : S35), (⟨t134, t135, t136⟩ : S35), (⟨bt137.1, bt137.2.1, bt137.2.2⟩ : S35), (⟨bt140.1, bt140.2.1, bt140.2.2⟩ : S35), (⟨bt143.1, bt143.2.1, bt143.2.2⟩ : S35)] : List (S35)))).bind fun bt149 => (some (bt149.1, bt149.2)))))) = some (r1, r2) := H
    have A9 := Aside0.mk A90
    clear A90
    replace H := Option.bind_eq_some_iff.mp H
    obtain ⟨⟨t137, t138, t139⟩, A100, H⟩ := H
    replace H : ((locks_with.f 5 a1).bind fun bt140 => ((locks_op.f 22).bind fun bt143 => ((locks_block.f a0 (([(⟨t125, t126, t127⟩ : S35), (⟨t128, t129, t130⟩ : S35), (⟨t131, t132, t133⟩ : S35), (⟨t134, t135, t136⟩ : S35), (⟨t137, t138, t139⟩ : S35), (⟨bt140.1, bt140.2.1, bt140.2.2⟩ : S35), (⟨bt143.1, bt143.2.1, bt143.2.2⟩ : S35)] : List (S35)))).bind fun bt149 => (some (bt149.1, bt149.2))))) = some (r1, r2) := H
    have A10 := Aside0.mk A100
    clear A100
    replace H := Option.bind_eq_some_iff.mp H
    obtain ⟨⟨t140, t141, t142⟩, A110, H⟩ := H
    replace H : ((locks_op.f 22).bind fun bt143 => ((locks_block.f a0 (([(⟨t125, t126, t127⟩ : S35), (⟨t128, t129, t130⟩ : S35), (⟨t131, t132, t133⟩ : S35), (⟨t134, t135, t136⟩ : S35), (⟨t137, t138, t139⟩ : S35), (⟨t140, t141, t142⟩ : S35), (⟨bt143.1, bt143.2.1, bt143.2.2⟩ : S35)] : List (S35)))).bind fun bt149 => (some (bt149.1, bt149.2)))) = some (r1, r2) := H
    have A11 := Aside0.mk A110
    clear A110
    replace H := Option.bind_eq_some_iff.mp H
    obtain ⟨⟨t143, t144, t145⟩, A120, H⟩ := H
    replace H : ((locks_block.f a0 (([(⟨t125, t126, t127⟩ : S35), (⟨t128, t129, t130⟩ : S35), (⟨t131, t132, t133⟩ : S35), (⟨t134, t135, t136⟩ : S35), (⟨t137, t138, t139⟩ : S35), (⟨t140, t141, t142⟩ : S35), (⟨t143, t144, t145⟩ : S35)] : List (S35)))).bind fun bt149 => (some (bt149.1, bt149.2))) = some (r1, r2) := H
    have A12 := Aside0.mk A120
    clear A120
    obtain ⟨y146, hy146⟩ : ∃ y_ : List (S35), y_ = (([(⟨t125, t126, t127⟩ : S35), (⟨t128, t129, t130⟩ : S35), (⟨t131, t132, t133⟩ : S35), (⟨t134, t135, t136⟩ : S35), (⟨t137, t138, t139⟩ : S35), (⟨t140, t141, t142⟩ : S35), (⟨t143, t144, t145⟩ : S35)] : List (S35))) := ⟨_, rfl⟩
    replace H : ((locks_block.f a0 y146).bind fun bt149 => (some (bt149.1, bt149.2))) = some (r1, r2) := by first | (rw [hy146]; with_reducible exact H) | (have H2_ := (Option.bind_some _ _).symm.trans H; rw [hy146]; with_reducible exact H2_) | (have H2_ := (Option.bind_some _ _).symm.trans H; with_reducible exact H2_) | with_reducible exact H | (rw [hy146]; exact H) | exact H
    have Ny146 := Aside0.mk hy146
    clear hy146
    replace H := Option.bind_eq_some_iff.mp H
    obtain ⟨⟨t149, t150⟩, A130, H⟩ := H
    replace H : (some (t149, t150)) = some (r1, r2) := H
    have A13 := Aside0.mk A130
    clear A130
    simp only [Option.some.injEq, Prod.mk.injEq] at H
    obtain ⟨rfl, rfl⟩ := H
    go_enter Try.func30, Try.ntmps30
    go_wp2_with (first | ((with_reducible refine gate_callee (f := 59) rfl ?_); refine goesL_ (some 11) rfl rfl Try.func59 (by kernel_rfl) rfl #[.int .i64 a0, .int .i64 a1, .int .i64 a2] rfl (by (try simp only [List.map_toArray, List.map_cons, List.map_nil]); first | done | rfl | (simp only [List.length_drop, List.length_take]; rfl)) ?_; (with_reducible refine (locks_may.calls a0 a1 a2 true _ A4.out).mono ?_); rintro e w' ⟨rfl, ⟨nd, rfl⟩⟩; refine ⟨_, rfl, ?_⟩) | ((with_reducible refine gate_callee (f := 61) rfl ?_); refine goesL_ (some 14) rfl rfl Try.func61 (by kernel_rfl) rfl #[.int .u8 21, .int .i64 6] rfl (by (try simp only [List.map_toArray, List.map_cons, List.map_nil]); first | done | rfl | (simp only [List.length_drop, List.length_take]; rfl)) ?_; (with_reducible refine (locks_with.calls 21 6 t125 t126 t127 _ A6.out).mono ?_); rintro e w14 ⟨rfl, hb⟩; refine ⟨_, rfl, ?_⟩; have n0_ := Aside0.mk (below_step (by repeat (first | (with_reducible first | exact HB.out | apply below_alloc | apply pw_below_drewN | apply below_drew1) | exact HB.out)) hb); clear HB; have HB := n0_; clear n0_; (try clear hb); (try clear hb2); (try clear hk); (try clear hi)) | ((with_reducible refine gate_callee (f := 61) rfl ?_); refine goesL_ (some 16) rfl rfl Try.func61 (by kernel_rfl) rfl #[.int .u8 4, .int .i64 a1] rfl (by (try simp only [List.map_toArray, List.map_cons, List.map_nil]); first | done | rfl | (simp only [List.length_drop, List.length_take]; rfl)) ?_; (with_reducible refine (locks_with.calls 4 a1 t128 t129 t130 _ A7.out).mono ?_); rintro e w15 ⟨rfl, hb⟩; refine ⟨_, rfl, ?_⟩; have n0_ := Aside0.mk (below_step (by repeat (first | (with_reducible first | exact HB.out | apply below_alloc | apply pw_below_drewN | apply below_drew1) | exact HB.out)) hb); clear HB; have HB := n0_; clear n0_; (try clear hb); (try clear hb2); (try clear hk); (try clear hi)) | ((with_reducible refine gate_callee (f := 61) rfl ?_); refine goesL_ (some 17) rfl rfl Try.func61 (by kernel_rfl) rfl #[.int .u8 20, .int .i64 4] rfl (by (try simp only [List.map_toArray, List.map_cons, List.map_nil]); first | done | rfl | (simp only [List.length_drop, List.length_take]; rfl)) ?_; (with_reducible refine (locks_with.calls 20 4 t131 t132 t133 _ A8.out).mono ?_); rintro e w16 ⟨rfl, hb⟩; refine ⟨_, rfl, ?_⟩; have n0_ := Aside0.mk (below_step (by repeat (first | (with_reducible first | exact HB.out | apply below_alloc | apply pw_below_drewN | apply below_drew1) | exact HB.out)) hb); clear HB; have HB := n0_; clear n0_; (try clear hb); (try clear hb2); (try clear hk); (try clear hi)) | ((with_reducible refine gate_callee (f := 62) rfl ?_); refine goesL_ (some 18) rfl rfl Try.func62 (by kernel_rfl) rfl #[.int .u8 26] rfl (by (try simp only [List.map_toArray, List.map_cons, List.map_nil]); first | done | rfl | (simp only [List.length_drop, List.length_take]; rfl)) ?_; (with_reducible refine (locks_op.calls 26 t134 t135 t136 _ A9.out).mono ?_); rintro e w17 ⟨rfl, hb⟩; refine ⟨_, rfl, ?_⟩; have n0_ := Aside0.mk (below_step (by repeat (first | (with_reducible first | exact HB.out | apply below_alloc | apply pw_below_drewN | apply below_drew1) | exact HB.out)) hb); clear HB; have HB := n0_; clear n0_; (try clear hb); (try clear hb2); (try clear hk); (try clear hi)) | ((with_reducible refine gate_callee (f := 63) rfl ?_); refine goesL_ (some 21) rfl rfl Try.func63 (by kernel_rfl) rfl #[.int .i64 (wrap64 (a2 + 1))] rfl (by (try simp only [List.map_toArray, List.map_cons, List.map_nil]); first | done | rfl | (simp only [List.length_drop, List.length_take]; rfl)) ?_; (with_reducible refine (locks_number.calls (wrap64 (a2 + 1)) t137 t138 t139 _ A10.out).mono ?_); rintro e w18 ⟨rfl, hb⟩; refine ⟨_, rfl, ?_⟩; have n0_ := Aside0.mk (below_step (by repeat (first | (with_reducible first | exact HB.out | apply below_alloc | apply pw_below_drewN | apply below_drew1) | exact HB.out)) hb); clear HB; have HB := n0_; clear n0_; (try clear hb); (try clear hb2); (try clear hk); (try clear hi)) | ((with_reducible refine gate_callee (f := 61) rfl ?_); refine goesL_ (some 23) rfl rfl Try.func61 (by kernel_rfl) rfl #[.int .u8 5, .int .i64 a1] rfl (by (try simp only [List.map_toArray, List.map_cons, List.map_nil]); first | done | rfl | (simp only [List.length_drop, List.length_take]; rfl)) ?_; (with_reducible refine (locks_with.calls 5 a1 t140 t141 t142 _ A11.out).mono ?_); rintro e w19 ⟨rfl, hb⟩; refine ⟨_, rfl, ?_⟩; have n0_ := Aside0.mk (below_step (by repeat (first | (with_reducible first | exact HB.out | apply below_alloc | apply pw_below_drewN | apply below_drew1) | exact HB.out)) hb); clear HB; have HB := n0_; clear n0_; (try clear hb); (try clear hb2); (try clear hk); (try clear hi)) | ((with_reducible refine gate_callee (f := 62) rfl ?_); refine goesL_ (some 24) rfl rfl Try.func62 (by kernel_rfl) rfl #[.int .u8 22] rfl (by (try simp only [List.map_toArray, List.map_cons, List.map_nil]); first | done | rfl | (simp only [List.length_drop, List.length_take]; rfl)) ?_; (with_reducible refine (locks_op.calls 22 t143 t144 t145 _ A12.out).mono ?_); rintro e w20 ⟨rfl, hb⟩; refine ⟨_, rfl, ?_⟩; have n0_ := Aside0.mk (below_step (by repeat (first | (with_reducible first | exact HB.out | apply below_alloc | apply pw_below_drewN | apply below_drew1) | exact HB.out)) hb); clear HB; have HB := n0_; clear n0_; (try clear hb); (try clear hb2); (try clear hk); (try clear hi)) | ((with_reducible refine gate_dst (N := 25) rfl ?_); refine Kd.R_lit k35 _ 35 ?hg (N := 25) ?hd (xs := ([(⟨t125, t126, t127⟩ : S35), (⟨t128, t129, t130⟩ : S35), (⟨t131, t132, t133⟩ : S35), (⟨t134, t135, t136⟩ : S35), (⟨t137, t138, t139⟩ : S35), (⟨t140, t141, t142⟩ : S35), (⟨t143, t144, t145⟩ : S35)] : List (S35))) (inner := [.int .u8 t125, .int .i64 t126, .int .u64 t127, .int .u8 t128, .int .i64 t129, .int .u64 t130, .int .u8 t131, .int .i64 t132, .int .u64 t133, .int .u8 t134, .int .i64 t135, .int .u64 t136, .int .u8 t137, .int .i64 t138, .int .u64 t139, .int .u8 t140, .int .i64 t141, .int .u64 t142, .int .u8 t143, .int .i64 t144, .int .u64 t145]) (ok := fun _ => True) (okp := fun _ => True) ?hr ?hp (fun _ hk => hk) trivial (Below.refl _ _) (Nat.le_refl _) (by simp) ?_; (case hd => rfl); (case hg => rfl); (case hr => first | (go_simp; done) | (go_simp; rfl)); (case hp => exact (Reps.c3 (show Kd.M k35 _ _ _ (⟨t125, t126, t127⟩ : S35) [.int .u8 t125, .int .i64 t126, .int .u64 t127] from (k35_mkM _ _ _ (⟨t125, t126, t127⟩ : S35) )) (Reps.c3 (show Kd.M k35 _ _ _ (⟨t128, t129, t130⟩ : S35) [.int .u8 t128, .int .i64 t129, .int .u64 t130] from (k35_mkM _ _ _ (⟨t128, t129, t130⟩ : S35) )) (Reps.c3 (show Kd.M k35 _ _ _ (⟨t131, t132, t133⟩ : S35) [.int .u8 t131, .int .i64 t132, .int .u64 t133] from (k35_mkM _ _ _ (⟨t131, t132, t133⟩ : S35) )) (Reps.c3 (show Kd.M k35 _ _ _ (⟨t134, t135, t136⟩ : S35) [.int .u8 t134, .int .i64 t135, .int .u64 t136] from (k35_mkM _ _ _ (⟨t134, t135, t136⟩ : S35) )) (Reps.c3 (show Kd.M k35 _ _ _ (⟨t137, t138, t139⟩ : S35) [.int .u8 t137, .int .i64 t138, .int .u64 t139] from (k35_mkM _ _ _ (⟨t137, t138, t139⟩ : S35) )) (Reps.c3 (show Kd.M k35 _ _ _ (⟨t140, t141, t142⟩ : S35) [.int .u8 t140, .int .i64 t141, .int .u64 t142] from (k35_mkM _ _ _ (⟨t140, t141, t142⟩ : S35) )) (Reps.c3 (show Kd.M k35 _ _ _ (⟨t143, t144, t145⟩ : S35) [.int .u8 t143, .int .i64 t144, .int .u64 t145] from (k35_mkM _ _ _ (⟨t143, t144, t145⟩ : S35) )) (Reps.none _ _))))))))); intro v147 w21 ho22 hb hg_ hnew_; clear hg_ hnew_; (first | rw [← Ny146.out] at ho22 | (simp only [Int.reduceToNat] at ho22; rw [← Ny146.out] at ho22)); have n0_ := Aside0.mk (Kd.R_lower ho22 (below_size (by repeat (first | (with_reducible first | exact HB.out | apply below_alloc | apply pw_below_drewN | apply below_drew1) | exact HB.out)))); have n1_ := Aside0.mk (below_step (by repeat (first | (with_reducible first | exact HB.out | apply below_alloc | apply pw_below_drewN | apply below_drew1) | exact HB.out)) hb); clear HB; have HO148 := n0_; have HB := n1_; clear n0_ n1_; clear hb ho22; obtain ⟨Ao23, co23, eo23⟩ := Kd.R_slice HO148.out; subst eo23) | ((with_reducible refine gate_callee (f := 60) rfl ?_); refine goesL_ (some 26) rfl rfl Try.func60 (by kernel_rfl) rfl #[.int .i64 a0, .slice Ao23 y146.length co23] rfl (by (try simp only [List.map_toArray, List.map_cons, List.map_nil]); first | done | rfl | (simp only [List.length_drop, List.length_take]; rfl)) ?_; (with_reducible refine (locks_block.calls a0 _ _ y146 t149 t150 _ ?side1 ?side2 A13.out).mono ?_); (case side1 => repeat (first | exact (Kd.R_reads' HO148.out).2.2 | (with_reducible refine Kd.C_alloc ?_ _) | (with_reducible refine Kd.C_drewN ?_ _) | (with_reducible refine Kd.C_drew ?_))); (case side2 => exact (Kd.R_reads' HO148.out).2.1); rintro e w24 ⟨v151, rfl, ho0, hb⟩; refine ⟨_, rfl, ?_⟩; have n0_ := Aside0.mk (Kd.R_elder' (by (with_reducible repeat (first | apply Kd.R_alloc | apply Kd.R_drewN | apply Kd.R_drew)); exact HO148.out) (Kd.R_base ho0) hb); have n1_ := Aside0.mk (Kd.R_lower (Kd.R_new' ho0 (Kd.R_lt (by (with_reducible repeat (first | apply Kd.R_alloc | apply Kd.R_drewN | apply Kd.R_drew)); exact HO148.out))) (below_size (by repeat (first | (with_reducible first | exact HB.out | apply below_alloc | apply pw_below_drewN | apply below_drew1) | exact HB.out)))); have n2_ := Aside0.mk (below_step (by repeat (first | (with_reducible first | exact HB.out | apply below_alloc | apply pw_below_drewN | apply below_drew1) | exact HB.out)) hb); clear HO148; clear HB; have HO148 := n0_; have HO152 := n1_; have HB := n2_; clear n0_ n1_ n2_; (try clear hb); (try clear hb2); (try clear hk); (try clear hi); (try clear ho0)))
    go_ret2
    exact ⟨_, by first | rfl | (simp [errW_none, errW_some] <;> rfl) | (simp [*, errW_none, errW_some] <;> rfl), by (with_reducible repeat (first | apply Kd.R_alloc | apply Kd.R_drewN | apply Kd.R_drew)); exact Kd.R_mono HO152.out (fun _ hk => trivial), by repeat (first | (with_reducible first | exact HB.out | apply below_alloc | apply pw_below_drewN | apply below_drew1) | exact HB.out)⟩
  · replace c5 := Bool.eq_false_iff.mpr c5
    subst c5
    have H1 : (some (([] : List (S35)), 2)) = some (r1, r2) := by rw [if_neg (show ¬ (false = true) by decide)] at H; exact H
    clear H
    have H := H1
    clear H1
    simp only [Option.some.injEq, Prod.mk.injEq] at H
    obtain ⟨rfl, rfl⟩ := H
    go_enter Try.func30, Try.ntmps30
    go_wp2_with (first | ((with_reducible refine gate_callee (f := 59) rfl ?_); refine goesL_ (some 11) rfl rfl Try.func59 (by kernel_rfl) rfl #[.int .i64 a0, .int .i64 a1, .int .i64 a2] rfl (by (try simp only [List.map_toArray, List.map_cons, List.map_nil]); first | done | rfl | (simp only [List.length_drop, List.length_take]; rfl)) ?_; (with_reducible refine (locks_may.calls a0 a1 a2 false _ A4.out).mono ?_); rintro e w' ⟨rfl, ⟨nd, rfl⟩⟩; refine ⟨_, rfl, ?_⟩))
    go_ret2
    exact ⟨_, by first | rfl | (simp [errW_none, errW_some] <;> rfl) | (simp [*, errW_none, errW_some] <;> rfl), by first | exact Kd.R_nil _ _ _ _ _ | exact Kd.N_nil _ _ _ _ _ | exact Kd.V_nil _ _ _ _ _ | exact Kd.Q_nil _ _ _ _ _ | exact Kd.S_nil _ _ _ _ _, by repeat (first | (with_reducible first | exact HB.out | apply below_alloc | apply pw_below_drewN | apply below_drew1) | exact HB.out)⟩

/-! ### locks_Unlock: function 31 -/
def locks_Unlock.f (a0 : Int) (a1 : Int) (a2 : Int) : Option ((List (S35)) × Int) := (locks_may.f a0 a1 a2).bind fun t153 => (if t153 = true then ((locks_with.f 21 10).bind fun bt154 => ((locks_with.f 4 a1).bind fun bt157 => ((locks_number.f (wrap64 (a2 + 1))).bind fun bt160 => ((locks_op.f 14).bind fun bt163 => ((locks_with.f 20 9).bind fun bt166 => ((locks_number.f 0).bind fun bt169 => ((locks_with.f 5 a1).bind fun bt172 => ((locks_number.f 1).bind fun bt175 => ((locks_with.f 19 10).bind fun bt178 => ((locks_number.f 0).bind fun bt181 => ((locks_op.f 22).bind fun bt184 => ((locks_block.f a0 (([(⟨bt154.1, bt154.2.1, bt154.2.2⟩ : S35), (⟨bt157.1, bt157.2.1, bt157.2.2⟩ : S35), (⟨bt160.1, bt160.2.1, bt160.2.2⟩ : S35), (⟨bt163.1, bt163.2.1, bt163.2.2⟩ : S35), (⟨bt166.1, bt166.2.1, bt166.2.2⟩ : S35), (⟨bt169.1, bt169.2.1, bt169.2.2⟩ : S35), (⟨bt172.1, bt172.2.1, bt172.2.2⟩ : S35), (⟨bt175.1, bt175.2.1, bt175.2.2⟩ : S35), (⟨bt178.1, bt178.2.1, bt178.2.2⟩ : S35), (⟨bt181.1, bt181.2.1, bt181.2.2⟩ : S35), (⟨bt184.1, bt184.2.1, bt184.2.2⟩ : S35)] : List (S35)))).bind fun bt190 => (some (bt190.1, bt190.2)))))))))))))) else (some (([] : List (S35)), 2)))
set_option maxHeartbeats 8000000 in
set_option maxRecDepth 100000 in
theorem locks_Unlock.calls (a0 : Int) (a1 : Int) (a2 : Int) (r1 : List (S35)) (r2 : Int) (w : World) (h : locks_Unlock.f a0 a1 a2 = some (r1, r2)) :
    Calls Try.prog 31 #[.int .i64 a0, .int .i64 a1, .int .i64 a2] w fun e w' => ∃ v0_ : Value, e = .returned (.tuple #[v0_, .int .i64 r2]) ∧ Kd.R k35 35 w' w.heap.size (fun _ => True) v0_ r1 ∧ Below w.heap.size w w' := by
  have HB := Aside0.mk (Below.refl w.heap.size w)
  have H : ((locks_may.f a0 a1 a2).bind fun t153 => (if t153 = true then ((locks_with.f 21 10).bind fun bt154 => ((locks_with.f 4 a1).bind fun bt157 => ((locks_number.f (wrap64 (a2 + 1))).bind fun bt160 => ((locks_op.f 14).bind fun bt163 => ((locks_with.f 20 9).bind fun bt166 => ((locks_number.f 0).bind fun bt169 => ((locks_with.f 5 a1).bind fun bt172 => ((locks_number.f 1).bind fun bt175 => ((locks_with.f 19 10).bind fun bt178 => ((locks_number.f 0).bind fun bt181 => ((locks_op.f 22).bind fun bt184 => ((locks_block.f a0 (([(⟨bt154.1, bt154.2.1, bt154.2.2⟩ : S35), (⟨bt157.1, bt157.2.1, bt157.2.2⟩ : S35), (⟨bt160.1, bt160.2.1, bt160.2.2⟩ : S35), (⟨bt163.1, bt163.2.1, bt163.2.2⟩ : S35), (⟨bt166.1, bt166.2.1, bt166.2.2⟩ : S35), (⟨bt169.1, bt169.2.1, bt169.2.2⟩ : S35), (⟨bt172.1, bt172.2.1, bt172.2.2⟩ : S35), (⟨bt175.1, bt175.2.1, bt175.2.2⟩ : S35), (⟨bt178.1, bt178.2.1, bt178.2.2⟩ : S35), (⟨bt181.1, bt181.2.1, bt181.2.2⟩ : S35), (⟨bt184.1, bt184.2.1, bt184.2.2⟩ : S35)] : List (S35)))).bind fun bt190 => (some (bt190.1, bt190.2)))))))))))))) else (some (([] : List (S35)), 2)))) = some (r1, r2) := h
  clear h
  replace H := Option.bind_eq_some_iff.mp H
  obtain ⟨t153, A40, H⟩ := H
  replace H : (if t153 = true then ((locks_with.f 21 10).bind fun bt154 => ((locks_with.f 4 a1).bind fun bt157 => ((locks_number.f (wrap64 (a2 + 1))).bind fun bt160 => ((locks_op.f 14).bind fun bt163 => ((locks_with.f 20 9).bind fun bt166 => ((locks_number.f 0).bind fun bt169 => ((locks_with.f 5 a1).bind fun bt172 => ((locks_number.f 1).bind fun bt175 => ((locks_with.f 19 10).bind fun bt178 => ((locks_number.f 0).bind fun bt181 => ((locks_op.f 22).bind fun bt184 => ((locks_block.f a0 (([(⟨bt154.1, bt154.2.1, bt154.2.2⟩ : S35), (⟨bt157.1, bt157.2.1, bt157.2.2⟩ : S35), (⟨bt160.1, bt160.2.1, bt160.2.2⟩ : S35), (⟨bt163.1, bt163.2.1, bt163.2.2⟩ : S35), (⟨bt166.1, bt166.2.1, bt166.2.2⟩ : S35), (⟨bt169.1, bt169.2.1, bt169.2.2⟩ : S35), (⟨bt172.1, bt172.2.1, bt172.2.2⟩ : S35), (⟨bt175.1, bt175.2.1, bt175.2.2⟩ : S35), (⟨bt178.1, bt178.2.1, bt178.2.2⟩ : S35), (⟨bt181.1, bt181.2.1, bt181.2.2⟩ : S35), (⟨bt184.1, bt184.2.1, bt184.2.2⟩ : S35)] : List (S35)))).bind fun bt190 => (some (bt190.1, bt190.2)))))))))))))) else (some (([] : List (S35)), 2))) = some (r1, r2) := H
  have A4 := Aside0.mk A40
  clear A40
  by_cases c5 : t153 = true
  · subst c5
    have H1 : ((locks_with.f 21 10).bind fun bt154 => ((locks_with.f 4 a1).bind fun bt157 => ((locks_number.f (wrap64 (a2 + 1))).bind fun bt160 => ((locks_op.f 14).bind fun bt163 => ((locks_with.f 20 9).bind fun bt166 => ((locks_number.f 0).bind fun bt169 => ((locks_with.f 5 a1).bind fun bt172 => ((locks_number.f 1).bind fun bt175 => ((locks_with.f 19 10).bind fun bt178 => ((locks_number.f 0).bind fun bt181 => ((locks_op.f 22).bind fun bt184 => ((locks_block.f a0 (([(⟨bt154.1, bt154.2.1, bt154.2.2⟩ : S35), (⟨bt157.1, bt157.2.1, bt157.2.2⟩ : S35), (⟨bt160.1, bt160.2.1, bt160.2.2⟩ : S35), (⟨bt163.1, bt163.2.1, bt163.2.2⟩ : S35), (⟨bt166.1, bt166.2.1, bt166.2.2⟩ : S35), (⟨bt169.1, bt169.2.1, bt169.2.2⟩ : S35), (⟨bt172.1, bt172.2.1, bt172.2.2⟩ : S35), (⟨bt175.1, bt175.2.1, bt175.2.2⟩ : S35), (⟨bt178.1, bt178.2.1, bt178.2.2⟩ : S35), (⟨bt181.1, bt181.2.1, bt181.2.2⟩ : S35), (⟨bt184.1, bt184.2.1, bt184.2.2⟩ : S35)] : List (S35)))).bind fun bt190 => (some (bt190.1, bt190.2)))))))))))))) = some (r1, r2) := by rw [if_pos rfl] at H; exact H
    clear H
    have H := H1
    clear H1
    replace H := Option.bind_eq_some_iff.mp H
    obtain ⟨⟨t154, t155, t156⟩, A60, H⟩ := H
    replace H : ((locks_with.f 4 a1).bind fun bt157 => ((locks_number.f (wrap64 (a2 + 1))).bind fun bt160 => ((locks_op.f 14).bind fun bt163 => ((locks_with.f 20 9).bind fun bt166 => ((locks_number.f 0).bind fun bt169 => ((locks_with.f 5 a1).bind fun bt172 => ((locks_number.f 1).bind fun bt175 => ((locks_with.f 19 10).bind fun bt178 => ((locks_number.f 0).bind fun bt181 => ((locks_op.f 22).bind fun bt184 => ((locks_block.f a0 (([(⟨t154, t155, t156⟩ : S35), (⟨bt157.1, bt157.2.1, bt157.2.2⟩ : S35), (⟨bt160.1, bt160.2.1, bt160.2.2⟩ : S35), (⟨bt163.1, bt163.2.1, bt163.2.2⟩ : S35), (⟨bt166.1, bt166.2.1, bt166.2.2⟩ : S35), (⟨bt169.1, bt169.2.1, bt169.2.2⟩ : S35), (⟨bt172.1, bt172.2.1, bt172.2.2⟩ : S35), (⟨bt175.1, bt175.2.1, bt175.2.2⟩ : S35), (⟨bt178.1, bt178.2.1, bt178.2.2⟩ : S35), (⟨bt181.1, bt181.2.1, bt181.2.2⟩ : S35), (⟨bt184.1, bt184.2.1, bt184.2.2⟩ : S35)] : List (S35)))).bind fun bt190 => (some (bt190.1, bt190.2))))))))))))) = some (r1, r2) := H
    have A6 := Aside0.mk A60
    clear A60
    replace H := Option.bind_eq_some_iff.mp H
    obtain ⟨⟨t157, t158, t159⟩, A70, H⟩ := H
    replace H : ((locks_number.f (wrap64 (a2 + 1))).bind fun bt160 => ((locks_op.f 14).bind fun bt163 => ((locks_with.f 20 9).bind fun bt166 => ((locks_number.f 0).bind fun bt169 => ((locks_with.f 5 a1).bind fun bt172 => ((locks_number.f 1).bind fun bt175 => ((locks_with.f 19 10).bind fun bt178 => ((locks_number.f 0).bind fun bt181 => ((locks_op.f 22).bind fun bt184 => ((locks_block.f a0 (([(⟨t154, t155, t156⟩ : S35), (⟨t157, t158, t159⟩ : S35), (⟨bt160.1, bt160.2.1, bt160.2.2⟩ : S35), (⟨bt163.1, bt163.2.1, bt163.2.2⟩ : S35), (⟨bt166.1, bt166.2.1, bt166.2.2⟩ : S35), (⟨bt169.1, bt169.2.1, bt169.2.2⟩ : S35), (⟨bt172.1, bt172.2.1, bt172.2.2⟩ : S35), (⟨bt175.1, bt175.2.1, bt175.2.2⟩ : S35), (⟨bt178.1, bt178.2.1, bt178.2.2⟩ : S35), (⟨bt181.1, bt181.2.1, bt181.2.2⟩ : S35), (⟨bt184.1, bt184.2.1, bt184.2.2⟩ : S35)] : List (S35)))).bind fun bt190 => (some (bt190.1, bt190.2)))))))))))) = some (r1, r2) := H
    have A7 := Aside0.mk A70
    clear A70
    replace H := Option.bind_eq_some_iff.mp H
    obtain ⟨⟨t160, t161, t162⟩, A80, H⟩ := H
    replace H : ((locks_op.f 14).bind fun bt163 => ((locks_with.f 20 9).bind fun bt166 => ((locks_number.f 0).bind fun bt169 => ((locks_with.f 5 a1).bind fun bt172 => ((locks_number.f 1).bind fun bt175 => ((locks_with.f 19 10).bind fun bt178 => ((locks_number.f 0).bind fun bt181 => ((locks_op.f 22).bind fun bt184 => ((locks_block.f a0 (([(⟨t154, t155, t156⟩ : S35), (⟨t157, t158, t159⟩ : S35), (⟨t160, t161, t162⟩ : S35), (⟨bt163.1, bt163.2.1, bt163.2.2⟩ : S35), (⟨bt166.1, bt166.2.1, bt166.2.2⟩ : S35), (⟨bt169.1, bt169.2.1, bt169.2.2⟩ : S35), (⟨bt172.1, bt172.2.1, bt172.2.2⟩ : S35), (⟨bt175.1, bt175.2.1, bt175.2.2⟩ : S35), (⟨bt178.1, bt178.2.1, bt178.2.2⟩ : S35), (⟨bt181.1, bt181.2.1, bt181.2.2⟩ : S35), (⟨bt184.1, bt184.2.1, bt184.2.2⟩ : S35)] : List (S35)))).bind fun bt190 => (some (bt190.1, bt190.2))))))))))) = some (r1, r2) := H
    have A8 := Aside0.mk A80
    clear A80
    replace H := Option.bind_eq_some_iff.mp H
    obtain ⟨⟨t163, t164, t165⟩, A90, H⟩ := H
    replace H : ((locks_with.f 20 9).bind fun bt166 => ((locks_number.f 0).bind fun bt169 => ((locks_with.f 5 a1).bind fun bt172 => ((locks_number.f 1).bind fun bt175 => ((locks_with.f 19 10).bind fun bt178 => ((locks_number.f 0).bind fun bt181 => ((locks_op.f 22).bind fun bt184 => ((locks_block.f a0 (([(⟨t154, t155, t156⟩ : S35), (⟨t157, t158, t159⟩ : S35), (⟨t160, t161, t162⟩ : S35), (⟨t163, t164, t165⟩ : S35), (⟨bt166.1, bt166.2.1, bt166.2.2⟩ : S35), (⟨bt169.1, bt169.2.1, bt169.2.2⟩ : S35), (⟨bt172.1, bt172.2.1, bt172.2.2⟩ : S35), (⟨bt175.1, bt175.2.1, bt175.2.2⟩ : S35), (⟨bt178.1, bt178.2.1, bt178.2.2⟩ : S35), (⟨bt181.1, bt181.2.1, bt181.2.2⟩ : S35), (⟨bt184.1, bt184.2.1, bt184.2.2⟩ : S35)] : List (S35)))).bind fun bt190 => (some (bt190.1, bt190.2)))))))))) = some (r1, r2) := H
    have A9 := Aside0.mk A90
    clear A90
    replace H := Option.bind_eq_some_iff.mp H
    obtain ⟨⟨t166, t167, t168⟩, A100, H⟩ := H
    replace H : ((locks_number.f 0).bind fun bt169 => ((locks_with.f 5 a1).bind fun bt172 => ((locks_number.f 1).bind fun bt175 => ((locks_with.f 19 10).bind fun bt178 => ((locks_number.f 0).bind fun bt181 => ((locks_op.f 22).bind fun bt184 => ((locks_block.f a0 (([(⟨t154, t155, t156⟩ : S35), (⟨t157, t158, t159⟩ : S35), (⟨t160, t161, t162⟩ : S35), (⟨t163, t164, t165⟩ : S35), (⟨t166, t167, t168⟩ : S35), (⟨bt169.1, bt169.2.1, bt169.2.2⟩ : S35), (⟨bt172.1, bt172.2.1, bt172.2.2⟩ : S35), (⟨bt175.1, bt175.2.1, bt175.2.2⟩ : S35), (⟨bt178.1, bt178.2.1, bt178.2.2⟩ : S35), (⟨bt181.1, bt181.2.1, bt181.2.2⟩ : S35), (⟨bt184.1, bt184.2.1, bt184.2.2⟩ : S35)] : List (S35)))).bind fun bt190 => (some (bt190.1, bt190.2))))))))) = some (r1, r2) := H
    have A10 := Aside0.mk A100
    clear A100
    replace H := Option.bind_eq_some_iff.mp H
    obtain ⟨⟨t169, t170, t171⟩, A110, H⟩ := H
    replace H : ((locks_with.f 5 a1).bind fun bt172 => ((locks_number.f 1).bind fun bt175 => ((locks_with.f 19 10).bind fun bt178 => ((locks_number.f 0).bind fun bt181 => ((locks_op.f 22).bind fun bt184 => ((locks_block.f a0 (([(⟨t154, t155, t156⟩ : S35), (⟨t157, t158, t159⟩ : S35), (⟨t160, t161, t162⟩ : S35), (⟨t163, t164, t165⟩ : S35), (⟨t166, t167, t168⟩ : S35), (⟨t169, t170, t171⟩ : S35), (⟨bt172.1, bt172.2.1, bt172.2.2⟩ : S35), (⟨bt175.1, bt175.2.1, bt175.2.2⟩ : S35), (⟨bt178.1, bt178.2.1, bt178.2.2⟩ : S35), (⟨bt181.1, bt181.2.1, bt181.2.2⟩ : S35), (⟨bt184.1, bt184.2.1, bt184.2.2⟩ : S35)] : List (S35)))).bind fun bt190 => (some (bt190.1, bt190.2)))))))) = some (r1, r2) := H
    have A11 := Aside0.mk A110
    clear A110
    replace H := Option.bind_eq_some_iff.mp H
    obtain ⟨⟨t172, t173, t174⟩, A120, H⟩ := H
    replace H : ((locks_number.f 1).bind fun bt175 => ((locks_with.f 19 10).bind fun bt178 => ((locks_number.f 0).bind fun bt181 => ((locks_op.f 22).bind fun bt184 => ((locks_block.f a0 (([(⟨t154, t155, t156⟩ : S35), (⟨t157, t158, t159⟩ : S35), (⟨t160, t161, t162⟩ : S35), (⟨t163, t164, t165⟩ : S35), (⟨t166, t167, t168⟩ : S35), (⟨t169, t170, t171⟩ : S35), (⟨t172, t173, t174⟩ : S35), (⟨bt175.1, bt175.2.1, bt175.2.2⟩ : S35), (⟨bt178.1, bt178.2.1, bt178.2.2⟩ : S35), (⟨bt181.1, bt181.2.1, bt181.2.2⟩ : S35), (⟨bt184.1, bt184.2.1, bt184.2.2⟩ : S35)] : List (S35)))).bind fun bt190 => (some (bt190.1, bt190.2))))))) = some (r1, r2) := H
    have A12 := Aside0.mk A120
    clear A120
    replace H := Option.bind_eq_some_iff.mp H
    obtain ⟨⟨t175, t176, t177⟩, A130, H⟩ := H
    replace H : ((locks_with.f 19 10).bind fun bt178 => ((locks_number.f 0).bind fun bt181 => ((locks_op.f 22).bind fun bt184 => ((locks_block.f a0 (([(⟨t154, t155, t156⟩ : S35), (⟨t157, t158, t159⟩ : S35), (⟨t160, t161, t162⟩ : S35), (⟨t163, t164, t165⟩ : S35), (⟨t166, t167, t168⟩ : S35), (⟨t169, t170, t171⟩ : S35), (⟨t172, t173, t174⟩ : S35), (⟨t175, t176, t177⟩ : S35), (⟨bt178.1, bt178.2.1, bt178.2.2⟩ : S35), (⟨bt181.1, bt181.2.1, bt181.2.2⟩ : S35), (⟨bt184.1, bt184.2.1, bt184.2.2⟩ : S35)] : List (S35)))).bind fun bt190 => (some (bt190.1, bt190.2)))))) = some (r1, r2) := H
    have A13 := Aside0.mk A130
    clear A130
    replace H := Option.bind_eq_some_iff.mp H
    obtain ⟨⟨t178, t179, t180⟩, A140, H⟩ := H
    replace H : ((locks_number.f 0).bind fun bt181 => ((locks_op.f 22).bind fun bt184 => ((locks_block.f a0 (([(⟨t154, t155, t156⟩ : S35), (⟨t157, t158, t159⟩ : S35), (⟨t160, t161, t162⟩ : S35), (⟨t163, t164, t165⟩ : S35), (⟨t166, t167, t168⟩ : S35), (⟨t169, t170, t171⟩ : S35), (⟨t172, t173, t174⟩ : S35), (⟨t175, t176, t177⟩ : S35), (⟨t178, t179, t180⟩ : S35), (⟨bt181.1, bt181.2.1, bt181.2.2⟩ : S35), (⟨bt184.1, bt184.2.1, bt184.2.2⟩ : S35)] : List (S35)))).bind fun bt190 => (some (bt190.1, bt190.2))))) = some (r1, r2) := H
    have A14 := Aside0.mk A140
    clear A140
    replace H := Option.bind_eq_some_iff.mp H
    obtain ⟨⟨t181, t182, t183⟩, A150, H⟩ := H
    replace H : ((locks_op.f 22).bind fun bt184 => ((locks_block.f a0 (([(⟨t154, t155, t156⟩ : S35), (⟨t157, t158, t159⟩ : S35), (⟨t160, t161, t162⟩ : S35), (⟨t163, t164, t165⟩ : S35), (⟨t166, t167, t168⟩ : S35), (⟨t169, t170, t171⟩ : S35), (⟨t172, t173, t174⟩ : S35), (⟨t175, t176, t177⟩ : S35), (⟨t178, t179, t180⟩ : S35), (⟨t181, t182, t183⟩ : S35), (⟨bt184.1, bt184.2.1, bt184.2.2⟩ : S35)] : List (S35)))).bind fun bt190 => (some (bt190.1, bt190.2)))) = some (r1, r2) := H
    have A15 := Aside0.mk A150
    clear A150
    replace H := Option.bind_eq_some_iff.mp H
    obtain ⟨⟨t184, t185, t186⟩, A160, H⟩ := H
    replace H : ((locks_block.f a0 (([(⟨t154, t155, t156⟩ : S35), (⟨t157, t158, t159⟩ : S35), (⟨t160, t161, t162⟩ : S35), (⟨t163, t164, t165⟩ : S35), (⟨t166, t167, t168⟩ : S35), (⟨t169, t170, t171⟩ : S35), (⟨t172, t173, t174⟩ : S35), (⟨t175, t176, t177⟩ : S35), (⟨t178, t179, t180⟩ : S35), (⟨t181, t182, t183⟩ : S35), (⟨t184, t185, t186⟩ : S35)] : List (S35)))).bind fun bt190 => (some (bt190.1, bt190.2))) = some (r1, r2) := H
    have A16 := Aside0.mk A160
    clear A160
    obtain ⟨y187, hy187⟩ : ∃ y_ : List (S35), y_ = (([(⟨t154, t155, t156⟩ : S35), (⟨t157, t158, t159⟩ : S35), (⟨t160, t161, t162⟩ : S35), (⟨t163, t164, t165⟩ : S35), (⟨t166, t167, t168⟩ : S35), (⟨t169, t170, t171⟩ : S35), (⟨t172, t173, t174⟩ : S35), (⟨t175, t176, t177⟩ : S35), (⟨t178, t179, t180⟩ : S35), (⟨t181, t182, t183⟩ : S35), (⟨t184, t185, t186⟩ : S35)] : List (S35))) := ⟨_, rfl⟩
    replace H : ((locks_block.f a0 y187).bind fun bt190 => (some (bt190.1, bt190.2))) = some (r1, r2) := by first | (rw [hy187]; with_reducible exact H) | (have H2_ := (Option.bind_some _ _).symm.trans H; rw [hy187]; with_reducible exact H2_) | (have H2_ := (Option.bind_some _ _).symm.trans H; with_reducible exact H2_) | with_reducible exact H | (rw [hy187]; exact H) | exact H
    have Ny187 := Aside0.mk hy187
    clear hy187
    replace H := Option.bind_eq_some_iff.mp H
    obtain ⟨⟨t190, t191⟩, A170, H⟩ := H
    replace H : (some (t190, t191)) = some (r1, r2) := H
    have A17 := Aside0.mk A170
    clear A170
    simp only [Option.some.injEq, Prod.mk.injEq] at H
    obtain ⟨rfl, rfl⟩ := H
    go_enter Try.func31, Try.ntmps31
    go_wp2_with (first | ((with_reducible refine gate_callee (f := 59) rfl ?_); refine goesL_ (some 11) rfl rfl Try.func59 (by kernel_rfl) rfl #[.int .i64 a0, .int .i64 a1, .int .i64 a2] rfl (by (try simp only [List.map_toArray, List.map_cons, List.map_nil]); first | done | rfl | (simp only [List.length_drop, List.length_take]; rfl)) ?_; (with_reducible refine (locks_may.calls a0 a1 a2 true _ A4.out).mono ?_); rintro e w' ⟨rfl, ⟨nd, rfl⟩⟩; refine ⟨_, rfl, ?_⟩) | ((with_reducible refine gate_callee (f := 61) rfl ?_); refine goesL_ (some 14) rfl rfl Try.func61 (by kernel_rfl) rfl #[.int .u8 21, .int .i64 10] rfl (by (try simp only [List.map_toArray, List.map_cons, List.map_nil]); first | done | rfl | (simp only [List.length_drop, List.length_take]; rfl)) ?_; (with_reducible refine (locks_with.calls 21 10 t154 t155 t156 _ A6.out).mono ?_); rintro e w18 ⟨rfl, hb⟩; refine ⟨_, rfl, ?_⟩; have n0_ := Aside0.mk (below_step (by repeat (first | (with_reducible first | exact HB.out | apply below_alloc | apply pw_below_drewN | apply below_drew1) | exact HB.out)) hb); clear HB; have HB := n0_; clear n0_; (try clear hb); (try clear hb2); (try clear hk); (try clear hi)) | ((with_reducible refine gate_callee (f := 61) rfl ?_); refine goesL_ (some 16) rfl rfl Try.func61 (by kernel_rfl) rfl #[.int .u8 4, .int .i64 a1] rfl (by (try simp only [List.map_toArray, List.map_cons, List.map_nil]); first | done | rfl | (simp only [List.length_drop, List.length_take]; rfl)) ?_; (with_reducible refine (locks_with.calls 4 a1 t157 t158 t159 _ A7.out).mono ?_); rintro e w19 ⟨rfl, hb⟩; refine ⟨_, rfl, ?_⟩; have n0_ := Aside0.mk (below_step (by repeat (first | (with_reducible first | exact HB.out | apply below_alloc | apply pw_below_drewN | apply below_drew1) | exact HB.out)) hb); clear HB; have HB := n0_; clear n0_; (try clear hb); (try clear hb2); (try clear hk); (try clear hi)) | ((with_reducible refine gate_callee (f := 63) rfl ?_); refine goesL_ (some 19) rfl rfl Try.func63 (by kernel_rfl) rfl #[.int .i64 (wrap64 (a2 + 1))] rfl (by (try simp only [List.map_toArray, List.map_cons, List.map_nil]); first | done | rfl | (simp only [List.length_drop, List.length_take]; rfl)) ?_; (with_reducible refine (locks_number.calls (wrap64 (a2 + 1)) t160 t161 t162 _ A8.out).mono ?_); rintro e w20 ⟨rfl, hb⟩; refine ⟨_, rfl, ?_⟩; have n0_ := Aside0.mk (below_step (by repeat (first | (with_reducible first | exact HB.out | apply below_alloc | apply pw_below_drewN | apply below_drew1) | exact HB.out)) hb); clear HB; have HB := n0_; clear n0_; (try clear hb); (try clear hb2); (try clear hk); (try clear hi)) | ((with_reducible refine gate_callee (f := 62) rfl ?_); refine goesL_ (some 20) rfl rfl Try.func62 (by kernel_rfl) rfl #[.int .u8 14] rfl (by (try simp only [List.map_toArray, List.map_cons, List.map_nil]); first | done | rfl | (simp only [List.length_drop, List.length_take]; rfl)) ?_; (with_reducible refine (locks_op.calls 14 t163 t164 t165 _ A9.out).mono ?_); rintro e w21 ⟨rfl, hb⟩; refine ⟨_, rfl, ?_⟩; have n0_ := Aside0.mk (below_step (by repeat (first | (with_reducible first | exact HB.out | apply below_alloc | apply pw_below_drewN | apply below_drew1) | exact HB.out)) hb); clear HB; have HB := n0_; clear n0_; (try clear hb); (try clear hb2); (try clear hk); (try clear hi)) | ((with_reducible refine gate_callee (f := 61) rfl ?_); refine goesL_ (some 21) rfl rfl Try.func61 (by kernel_rfl) rfl #[.int .u8 20, .int .i64 9] rfl (by (try simp only [List.map_toArray, List.map_cons, List.map_nil]); first | done | rfl | (simp only [List.length_drop, List.length_take]; rfl)) ?_; (with_reducible refine (locks_with.calls 20 9 t166 t167 t168 _ A10.out).mono ?_); rintro e w22 ⟨rfl, hb⟩; refine ⟨_, rfl, ?_⟩; have n0_ := Aside0.mk (below_step (by repeat (first | (with_reducible first | exact HB.out | apply below_alloc | apply pw_below_drewN | apply below_drew1) | exact HB.out)) hb); clear HB; have HB := n0_; clear n0_; (try clear hb); (try clear hb2); (try clear hk); (try clear hi)) | ((with_reducible refine gate_callee (f := 63) rfl ?_); refine goesL_ (some 22) rfl rfl Try.func63 (by kernel_rfl) rfl #[.int .i64 0] rfl (by (try simp only [List.map_toArray, List.map_cons, List.map_nil]); first | done | rfl | (simp only [List.length_drop, List.length_take]; rfl)) ?_; (with_reducible refine (locks_number.calls 0 t169 t170 t171 _ A11.out).mono ?_); rintro e w23 ⟨rfl, hb⟩; refine ⟨_, rfl, ?_⟩; have n0_ := Aside0.mk (below_step (by repeat (first | (with_reducible first | exact HB.out | apply below_alloc | apply pw_below_drewN | apply below_drew1) | exact HB.out)) hb); clear HB; have HB := n0_; clear n0_; (try clear hb); (try clear hb2); (try clear hk); (try clear hi)) | ((with_reducible refine gate_callee (f := 61) rfl ?_); refine goesL_ (some 24) rfl rfl Try.func61 (by kernel_rfl) rfl #[.int .u8 5, .int .i64 a1] rfl (by (try simp only [List.map_toArray, List.map_cons, List.map_nil]); first | done | rfl | (simp only [List.length_drop, List.length_take]; rfl)) ?_; (with_reducible refine (locks_with.calls 5 a1 t172 t173 t174 _ A12.out).mono ?_); rintro e w24 ⟨rfl, hb⟩; refine ⟨_, rfl, ?_⟩; have n0_ := Aside0.mk (below_step (by repeat (first | (with_reducible first | exact HB.out | apply below_alloc | apply pw_below_drewN | apply below_drew1) | exact HB.out)) hb); clear HB; have HB := n0_; clear n0_; (try clear hb); (try clear hb2); (try clear hk); (try clear hi)) | ((with_reducible refine gate_callee (f := 63) rfl ?_); refine goesL_ (some 25) rfl rfl Try.func63 (by kernel_rfl) rfl #[.int .i64 1] rfl (by (try simp only [List.map_toArray, List.map_cons, List.map_nil]); first | done | rfl | (simp only [List.length_drop, List.length_take]; rfl)) ?_; (with_reducible refine (locks_number.calls 1 t175 t176 t177 _ A13.out).mono ?_); rintro e w25 ⟨rfl, hb⟩; refine ⟨_, rfl, ?_⟩; have n0_ := Aside0.mk (below_step (by repeat (first | (with_reducible first | exact HB.out | apply below_alloc | apply pw_below_drewN | apply below_drew1) | exact HB.out)) hb); clear HB; have HB := n0_; clear n0_; (try clear hb); (try clear hb2); (try clear hk); (try clear hi)) | ((with_reducible refine gate_callee (f := 61) rfl ?_); refine goesL_ (some 26) rfl rfl Try.func61 (by kernel_rfl) rfl #[.int .u8 19, .int .i64 10] rfl (by (try simp only [List.map_toArray, List.map_cons, List.map_nil]); first | done | rfl | (simp only [List.length_drop, List.length_take]; rfl)) ?_; (with_reducible refine (locks_with.calls 19 10 t178 t179 t180 _ A14.out).mono ?_); rintro e w26 ⟨rfl, hb⟩; refine ⟨_, rfl, ?_⟩; have n0_ := Aside0.mk (below_step (by repeat (first | (with_reducible first | exact HB.out | apply below_alloc | apply pw_below_drewN | apply below_drew1) | exact HB.out)) hb); clear HB; have HB := n0_; clear n0_; (try clear hb); (try clear hb2); (try clear hk); (try clear hi)) | ((with_reducible refine gate_callee (f := 63) rfl ?_); refine goesL_ (some 27) rfl rfl Try.func63 (by kernel_rfl) rfl #[.int .i64 0] rfl (by (try simp only [List.map_toArray, List.map_cons, List.map_nil]); first | done | rfl | (simp only [List.length_drop, List.length_take]; rfl)) ?_; (with_reducible refine (locks_number.calls 0 t181 t182 t183 _ A15.out).mono ?_); rintro e w27 ⟨rfl, hb⟩; refine ⟨_, rfl, ?_⟩; have n0_ := Aside0.mk (below_step (by repeat (first | (with_reducible first | exact HB.out | apply below_alloc | apply pw_below_drewN | apply below_drew1) | exact HB.out)) hb); clear HB; have HB := n0_; clear n0_; (try clear hb); (try clear hb2); (try clear hk); (try clear hi)) | ((with_reducible refine gate_callee (f := 62) rfl ?_); refine goesL_ (some 28) rfl rfl Try.func62 (by kernel_rfl) rfl #[.int .u8 22] rfl (by (try simp only [List.map_toArray, List.map_cons, List.map_nil]); first | done | rfl | (simp only [List.length_drop, List.length_take]; rfl)) ?_; (with_reducible refine (locks_op.calls 22 t184 t185 t186 _ A16.out).mono ?_); rintro e w28 ⟨rfl, hb⟩; refine ⟨_, rfl, ?_⟩; have n0_ := Aside0.mk (below_step (by repeat (first | (with_reducible first | exact HB.out | apply below_alloc | apply pw_below_drewN | apply below_drew1) | exact HB.out)) hb); clear HB; have HB := n0_; clear n0_; (try clear hb); (try clear hb2); (try clear hk); (try clear hi)) | ((with_reducible refine gate_dst (N := 29) rfl ?_); refine Kd.R_lit k35 _ 35 ?hg (N := 29) ?hd (xs := ([(⟨t154, t155, t156⟩ : S35), (⟨t157, t158, t159⟩ : S35), (⟨t160, t161, t162⟩ : S35), (⟨t163, t164, t165⟩ : S35), (⟨t166, t167, t168⟩ : S35), (⟨t169, t170, t171⟩ : S35), (⟨t172, t173, t174⟩ : S35), (⟨t175, t176, t177⟩ : S35), (⟨t178, t179, t180⟩ : S35), (⟨t181, t182, t183⟩ : S35), (⟨t184, t185, t186⟩ : S35)] : List (S35))) (inner := [.int .u8 t154, .int .i64 t155, .int .u64 t156, .int .u8 t157, .int .i64 t158, .int .u64 t159, .int .u8 t160, .int .i64 t161, .int .u64 t162, .int .u8 t163, .int .i64 t164, .int .u64 t165, .int .u8 t166, .int .i64 t167, .int .u64 t168, .int .u8 t169, .int .i64 t170, .int .u64 t171, .int .u8 t172, .int .i64 t173, .int .u64 t174, .int .u8 t175, .int .i64 t176, .int .u64 t177, .int .u8 t178, .int .i64 t179, .int .u64 t180, .int .u8 t181, .int .i64 t182, .int .u64 t183, .int .u8 t184, .int .i64 t185, .int .u64 t186]) (ok := fun _ => True) (okp := fun _ => True) ?hr ?hp (fun _ hk => hk) trivial (Below.refl _ _) (Nat.le_refl _) (by simp) ?_; (case hd => rfl); (case hg => rfl); (case hr => first | (go_simp; done) | (go_simp; rfl)); (case hp => exact (Reps.c3 (show Kd.M k35 _ _ _ (⟨t154, t155, t156⟩ : S35) [.int .u8 t154, .int .i64 t155, .int .u64 t156] from (k35_mkM _ _ _ (⟨t154, t155, t156⟩ : S35) )) (Reps.c3 (show Kd.M k35 _ _ _ (⟨t157, t158, t159⟩ : S35) [.int .u8 t157, .int .i64 t158, .int .u64 t159] from (k35_mkM _ _ _ (⟨t157, t158, t159⟩ : S35) )) (Reps.c3 (show Kd.M k35 _ _ _ (⟨t160, t161, t162⟩ : S35) [.int .u8 t160, .int .i64 t161, .int .u64 t162] from (k35_mkM _ _ _ (⟨t160, t161, t162⟩ : S35) )) (Reps.c3 (show Kd.M k35 _ _ _ (⟨t163, t164, t165⟩ : S35) [.int .u8 t163, .int .i64 t164, .int .u64 t165] from (k35_mkM _ _ _ (⟨t163, t164, t165⟩ : S35) )) (Reps.c3 (show Kd.M k35 _ _ _ (⟨t166, t167, t168⟩ : S35) [.int .u8 t166, .int .i64 t167, .int .u64 t168] from (k35_mkM _ _ _ (⟨t166, t167, t168⟩ : S35) )) (Reps.c3 (show Kd.M k35 _ _ _ (⟨t169, t170, t171⟩ : S35) [.int .u8 t169, .int .i64 t170, .int .u64 t171] from (k35_mkM _ _ _ (⟨t169, t170, t171⟩ : S35) )) (Reps.c3 (show Kd.M k35 _ _ _ (⟨t172, t173, t174⟩ : S35) [.int .u8 t172, .int .i64 t173, .int .u64 t174] from (k35_mkM _ _ _ (⟨t172, t173, t174⟩ : S35) )) (Reps.c3 (show Kd.M k35 _ _ _ (⟨t175, t176, t177⟩ : S35) [.int .u8 t175, .int .i64 t176, .int .u64 t177] from (k35_mkM _ _ _ (⟨t175, t176, t177⟩ : S35) )) (Reps.c3 (show Kd.M k35 _ _ _ (⟨t178, t179, t180⟩ : S35) [.int .u8 t178, .int .i64 t179, .int .u64 t180] from (k35_mkM _ _ _ (⟨t178, t179, t180⟩ : S35) )) (Reps.c3 (show Kd.M k35 _ _ _ (⟨t181, t182, t183⟩ : S35) [.int .u8 t181, .int .i64 t182, .int .u64 t183] from (k35_mkM _ _ _ (⟨t181, t182, t183⟩ : S35) )) (Reps.c3 (show Kd.M k35 _ _ _ (⟨t184, t185, t186⟩ : S35) [.int .u8 t184, .int .i64 t185, .int .u64 t186] from (k35_mkM _ _ _ (⟨t184, t185, t186⟩ : S35) )) (Reps.none _ _))))))))))))); intro v188 w29 ho30 hb hg_ hnew_; clear hg_ hnew_; (first | rw [← Ny187.out] at ho30 | (simp only [Int.reduceToNat] at ho30; rw [← Ny187.out] at ho30)); have n0_ := Aside0.mk (Kd.R_lower ho30 (below_size (by repeat (first | (with_reducible first | exact HB.out | apply below_alloc | apply pw_below_drewN | apply below_drew1) | exact HB.out)))); have n1_ := Aside0.mk (below_step (by repeat (first | (with_reducible first | exact HB.out | apply below_alloc | apply pw_below_drewN | apply below_drew1) | exact HB.out)) hb); clear HB; have HO189 := n0_; have HB := n1_; clear n0_ n1_; clear hb ho30; obtain ⟨Ao31, co31, eo31⟩ := Kd.R_slice HO189.out; subst eo31) | ((with_reducible refine gate_callee (f := 60) rfl ?_); refine goesL_ (some 30) rfl rfl Try.func60 (by kernel_rfl) rfl #[.int .i64 a0, .slice Ao31 y187.length co31] rfl (by (try simp only [List.map_toArray, List.map_cons, List.map_nil]); first | done | rfl | (simp only [List.length_drop, List.length_take]; rfl)) ?_; (with_reducible refine (locks_block.calls a0 _ _ y187 t190 t191 _ ?side1 ?side2 A17.out).mono ?_); (case side1 => repeat (first | exact (Kd.R_reads' HO189.out).2.2 | (with_reducible refine Kd.C_alloc ?_ _) | (with_reducible refine Kd.C_drewN ?_ _) | (with_reducible refine Kd.C_drew ?_))); (case side2 => exact (Kd.R_reads' HO189.out).2.1); rintro e w32 ⟨v192, rfl, ho0, hb⟩; refine ⟨_, rfl, ?_⟩; have n0_ := Aside0.mk (Kd.R_elder' (by (with_reducible repeat (first | apply Kd.R_alloc | apply Kd.R_drewN | apply Kd.R_drew)); exact HO189.out) (Kd.R_base ho0) hb); have n1_ := Aside0.mk (Kd.R_lower (Kd.R_new' ho0 (Kd.R_lt (by (with_reducible repeat (first | apply Kd.R_alloc | apply Kd.R_drewN | apply Kd.R_drew)); exact HO189.out))) (below_size (by repeat (first | (with_reducible first | exact HB.out | apply below_alloc | apply pw_below_drewN | apply below_drew1) | exact HB.out)))); have n2_ := Aside0.mk (below_step (by repeat (first | (with_reducible first | exact HB.out | apply below_alloc | apply pw_below_drewN | apply below_drew1) | exact HB.out)) hb); clear HO189; clear HB; have HO189 := n0_; have HO193 := n1_; have HB := n2_; clear n0_ n1_ n2_; (try clear hb); (try clear hb2); (try clear hk); (try clear hi); (try clear ho0)))
    go_ret2
    exact ⟨_, by first | rfl | (simp [errW_none, errW_some] <;> rfl) | (simp [*, errW_none, errW_some] <;> rfl), by (with_reducible repeat (first | apply Kd.R_alloc | apply Kd.R_drewN | apply Kd.R_drew)); exact Kd.R_mono HO193.out (fun _ hk => trivial), by repeat (first | (with_reducible first | exact HB.out | apply below_alloc | apply pw_below_drewN | apply below_drew1) | exact HB.out)⟩
  · replace c5 := Bool.eq_false_iff.mpr c5
    subst c5
    have H1 : (some (([] : List (S35)), 2)) = some (r1, r2) := by rw [if_neg (show ¬ (false = true) by decide)] at H; exact H
    clear H
    have H := H1
    clear H1
    simp only [Option.some.injEq, Prod.mk.injEq] at H
    obtain ⟨rfl, rfl⟩ := H
    go_enter Try.func31, Try.ntmps31
    go_wp2_with (first | ((with_reducible refine gate_callee (f := 59) rfl ?_); refine goesL_ (some 11) rfl rfl Try.func59 (by kernel_rfl) rfl #[.int .i64 a0, .int .i64 a1, .int .i64 a2] rfl (by (try simp only [List.map_toArray, List.map_cons, List.map_nil]); first | done | rfl | (simp only [List.length_drop, List.length_take]; rfl)) ?_; (with_reducible refine (locks_may.calls a0 a1 a2 false _ A4.out).mono ?_); rintro e w' ⟨rfl, ⟨nd, rfl⟩⟩; refine ⟨_, rfl, ?_⟩))
    go_ret2
    exact ⟨_, by first | rfl | (simp [errW_none, errW_some] <;> rfl) | (simp [*, errW_none, errW_some] <;> rfl), by first | exact Kd.R_nil _ _ _ _ _ | exact Kd.N_nil _ _ _ _ _ | exact Kd.V_nil _ _ _ _ _ | exact Kd.Q_nil _ _ _ _ _ | exact Kd.S_nil _ _ _ _ _, by repeat (first | (with_reducible first | exact HB.out | apply below_alloc | apply pw_below_drewN | apply below_drew1) | exact HB.out)⟩

/-! ### locks_Down: function 32 -/
def locks_Down.f (a0 : Int) (a1 : Int) : Option ((List (S35)) × Int) := (locks_may.f a0 a1 0).bind fun t194 => (if t194 = true then ((locks_with.f 21 9).bind fun bt195 => ((locks_with.f 4 a1).bind fun bt198 => ((locks_op.f 16).bind fun bt201 => ((locks_with.f 20 8).bind fun bt204 => ((locks_number.f 1).bind fun bt207 => ((locks_op.f 9).bind fun bt210 => ((locks_with.f 5 a1).bind fun bt213 => ((locks_with.f 19 9).bind fun bt216 => ((locks_op.f 26).bind fun bt219 => ((locks_op.f 22).bind fun bt222 => ((locks_block.f a0 (([(⟨bt195.1, bt195.2.1, bt195.2.2⟩ : S35), (⟨bt198.1, bt198.2.1, bt198.2.2⟩ : S35), (⟨bt201.1, bt201.2.1, bt201.2.2⟩ : S35), (⟨bt204.1, bt204.2.1, bt204.2.2⟩ : S35), (⟨bt207.1, bt207.2.1, bt207.2.2⟩ : S35), (⟨bt210.1, bt210.2.1, bt210.2.2⟩ : S35), (⟨bt213.1, bt213.2.1, bt213.2.2⟩ : S35), (⟨bt216.1, bt216.2.1, bt216.2.2⟩ : S35), (⟨bt219.1, bt219.2.1, bt219.2.2⟩ : S35), (⟨bt222.1, bt222.2.1, bt222.2.2⟩ : S35)] : List (S35)))).bind fun bt228 => (some (bt228.1, bt228.2))))))))))))) else (some (([] : List (S35)), 2)))
set_option maxHeartbeats 8000000 in
set_option maxRecDepth 100000 in
theorem locks_Down.calls (a0 : Int) (a1 : Int) (r1 : List (S35)) (r2 : Int) (w : World) (h : locks_Down.f a0 a1 = some (r1, r2)) :
    Calls Try.prog 32 #[.int .i64 a0, .int .i64 a1] w fun e w' => ∃ v0_ : Value, e = .returned (.tuple #[v0_, .int .i64 r2]) ∧ Kd.R k35 35 w' w.heap.size (fun _ => True) v0_ r1 ∧ Below w.heap.size w w' := by
  have HB := Aside0.mk (Below.refl w.heap.size w)
  have H : ((locks_may.f a0 a1 0).bind fun t194 => (if t194 = true then ((locks_with.f 21 9).bind fun bt195 => ((locks_with.f 4 a1).bind fun bt198 => ((locks_op.f 16).bind fun bt201 => ((locks_with.f 20 8).bind fun bt204 => ((locks_number.f 1).bind fun bt207 => ((locks_op.f 9).bind fun bt210 => ((locks_with.f 5 a1).bind fun bt213 => ((locks_with.f 19 9).bind fun bt216 => ((locks_op.f 26).bind fun bt219 => ((locks_op.f 22).bind fun bt222 => ((locks_block.f a0 (([(⟨bt195.1, bt195.2.1, bt195.2.2⟩ : S35), (⟨bt198.1, bt198.2.1, bt198.2.2⟩ : S35), (⟨bt201.1, bt201.2.1, bt201.2.2⟩ : S35), (⟨bt204.1, bt204.2.1, bt204.2.2⟩ : S35), (⟨bt207.1, bt207.2.1, bt207.2.2⟩ : S35), (⟨bt210.1, bt210.2.1, bt210.2.2⟩ : S35), (⟨bt213.1, bt213.2.1, bt213.2.2⟩ : S35), (⟨bt216.1, bt216.2.1, bt216.2.2⟩ : S35), (⟨bt219.1, bt219.2.1, bt219.2.2⟩ : S35), (⟨bt222.1, bt222.2.1, bt222.2.2⟩ : S35)] : List (S35)))).bind fun bt228 => (some (bt228.1, bt228.2))))))))))))) else (some (([] : List (S35)), 2)))) = some (r1, r2) := h
  clear h
  replace H := Option.bind_eq_some_iff.mp H
  obtain ⟨t194, A30, H⟩ := H
  replace H : (if t194 = true then ((locks_with.f 21 9).bind fun bt195 => ((locks_with.f 4 a1).bind fun bt198 => ((locks_op.f 16).bind fun bt201 => ((locks_with.f 20 8).bind fun bt204 => ((locks_number.f 1).bind fun bt207 => ((locks_op.f 9).bind fun bt210 => ((locks_with.f 5 a1).bind fun bt213 => ((locks_with.f 19 9).bind fun bt216 => ((locks_op.f 26).bind fun bt219 => ((locks_op.f 22).bind fun bt222 => ((locks_block.f a0 (([(⟨bt195.1, bt195.2.1, bt195.2.2⟩ : S35), (⟨bt198.1, bt198.2.1, bt198.2.2⟩ : S35), (⟨bt201.1, bt201.2.1, bt201.2.2⟩ : S35), (⟨bt204.1, bt204.2.1, bt204.2.2⟩ : S35), (⟨bt207.1, bt207.2.1, bt207.2.2⟩ : S35), (⟨bt210.1, bt210.2.1, bt210.2.2⟩ : S35), (⟨bt213.1, bt213.2.1, bt213.2.2⟩ : S35), (⟨bt216.1, bt216.2.1, bt216.2.2⟩ : S35), (⟨bt219.1, bt219.2.1, bt219.2.2⟩ : S35), (⟨bt222.1, bt222.2.1, bt222.2.2⟩ : S35)] : List (S35)))).bind fun bt228 => (some (bt228.1, bt228.2))))))))))))) else (some (([] : List (S35)), 2))) = some (r1, r2) := H
  have A3 := Aside0.mk A30
  clear A30
  by_cases c4 : t194 = true
  · subst c4
    have H1 : ((locks_with.f 21 9).bind fun bt195 => ((locks_with.f 4 a1).bind fun bt198 => ((locks_op.f 16).bind fun bt201 => ((locks_with.f 20 8).bind fun bt204 => ((locks_number.f 1).bind fun bt207 => ((locks_op.f 9).bind fun bt210 => ((locks_with.f 5 a1).bind fun bt213 => ((locks_with.f 19 9).bind fun bt216 => ((locks_op.f 26).bind fun bt219 => ((locks_op.f 22).bind fun bt222 => ((locks_block.f a0 (([(⟨bt195.1, bt195.2.1, bt195.2.2⟩ : S35), (⟨bt198.1, bt198.2.1, bt198.2.2⟩ : S35), (⟨bt201.1, bt201.2.1, bt201.2.2⟩ : S35), (⟨bt204.1, bt204.2.1, bt204.2.2⟩ : S35), (⟨bt207.1, bt207.2.1, bt207.2.2⟩ : S35), (⟨bt210.1, bt210.2.1, bt210.2.2⟩ : S35), (⟨bt213.1, bt213.2.1, bt213.2.2⟩ : S35), (⟨bt216.1, bt216.2.1, bt216.2.2⟩ : S35), (⟨bt219.1, bt219.2.1, bt219.2.2⟩ : S35), (⟨bt222.1, bt222.2.1, bt222.2.2⟩ : S35)] : List (S35)))).bind fun bt228 => (some (bt228.1, bt228.2))))))))))))) = some (r1, r2) := by rw [if_pos rfl] at H; exact H
    clear H
    have H := H1
    clear H1
    replace H := Option.bind_eq_some_iff.mp H
    obtain ⟨⟨t195, t196, t197⟩, A50, H⟩ := H
    replace H : ((locks_with.f 4 a1).bind fun bt198 => ((locks_op.f 16).bind fun bt201 => ((locks_with.f 20 8).bind fun bt204 => ((locks_number.f 1).bind fun bt207 => ((locks_op.f 9).bind fun bt210 => ((locks_with.f 5 a1).bind fun bt213 => ((locks_with.f 19 9).bind fun bt216 => ((locks_op.f 26).bind fun bt219 => ((locks_op.f 22).bind fun bt222 => ((locks_block.f a0 (([(⟨t195, t196, t197⟩ : S35), (⟨bt198.1, bt198.2.1, bt198.2.2⟩ : S35), (⟨bt201.1, bt201.2.1, bt201.2.2⟩ : S35), (⟨bt204.1, bt204.2.1, bt204.2.2⟩ : S35), (⟨bt207.1, bt207.2.1, bt207.2.2⟩ : S35), (⟨bt210.1, bt210.2.1, bt210.2.2⟩ : S35), (⟨bt213.1, bt213.2.1, bt213.2.2⟩ : S35), (⟨bt216.1, bt216.2.1, bt216.2.2⟩ : S35), (⟨bt219.1, bt219.2.1, bt219.2.2⟩ : S35), (⟨bt222.1, bt222.2.1, bt222.2.2⟩ : S35)] : List (S35)))).bind fun bt228 => (some (bt228.1, bt228.2)))))))))))) = some (r1, r2) := H
    have A5 := Aside0.mk A50
    clear A50
    replace H := Option.bind_eq_some_iff.mp H
    obtain ⟨⟨t198, t199, t200⟩, A60, H⟩ := H
    replace H : ((locks_op.f 16).bind fun bt201 => ((locks_with.f 20 8).bind fun bt204 => ((locks_number.f 1).bind fun bt207 => ((locks_op.f 9).bind fun bt210 => ((locks_with.f 5 a1).bind fun bt213 => ((locks_with.f 19 9).bind fun bt216 => ((locks_op.f 26).bind fun bt219 => ((locks_op.f 22).bind fun bt222 => ((locks_block.f a0 (([(⟨t195, t196, t197⟩ : S35), (⟨t198, t199, t200⟩ : S35), (⟨bt201.1, bt201.2.1, bt201.2.2⟩ : S35), (⟨bt204.1, bt204.2.1, bt204.2.2⟩ : S35), (⟨bt207.1, bt207.2.1, bt207.2.2⟩ : S35), (⟨bt210.1, bt210.2.1, bt210.2.2⟩ : S35), (⟨bt213.1, bt213.2.1, bt213.2.2⟩ : S35), (⟨bt216.1, bt216.2.1, bt216.2.2⟩ : S35), (⟨bt219.1, bt219.2.1, bt219.2.2⟩ : S35), (⟨bt222.1, bt222.2.1, bt222.2.2⟩ : S35)] : List (S35)))).bind fun bt228 => (some (bt228.1, bt228.2))))))))))) = some (r1, r2) := H
    have A6 := Aside0.mk A60
    clear A60
    replace H := Option.bind_eq_some_iff.mp H
    obtain ⟨⟨t201, t202, t203⟩, A70, H⟩ := H
    replace H : ((locks_with.f 20 8).bind fun bt204 => ((locks_number.f 1).bind fun bt207 => ((locks_op.f 9).bind fun bt210 => ((locks_with.f 5 a1).bind fun bt213 => ((locks_with.f 19 9).bind fun bt216 => ((locks_op.f 26).bind fun bt219 => ((locks_op.f 22).bind fun bt222 => ((locks_block.f a0 (([(⟨t195, t196, t197⟩ : S35), (⟨t198, t199, t200⟩ : S35), (⟨t201, t202, t203⟩ : S35), (⟨bt204.1, bt204.2.1, bt204.2.2⟩ : S35), (⟨bt207.1, bt207.2.1, bt207.2.2⟩ : S35), (⟨bt210.1, bt210.2.1, bt210.2.2⟩ : S35), (⟨bt213.1, bt213.2.1, bt213.2.2⟩ : S35), (⟨bt216.1, bt216.2.1, bt216.2.2⟩ : S35), (⟨bt219.1, bt219.2.1, bt219.2.2⟩ : S35), (⟨bt222.1, bt222.2.1, bt222.2.2⟩ : S35)] : List (S35)))).bind fun bt228 => (some (bt228.1, bt228.2)))))))))) = some (r1, r2) := H
    have A7 := Aside0.mk A70
    clear A70
    replace H := Option.bind_eq_some_iff.mp H
    obtain ⟨⟨t204, t205, t206⟩, A80, H⟩ := H
    replace H : ((locks_number.f 1).bind fun bt207 => ((locks_op.f 9).bind fun bt210 => ((locks_with.f 5 a1).bind fun bt213 => ((locks_with.f 19 9).bind fun bt216 => ((locks_op.f 26).bind fun bt219 => ((locks_op.f 22).bind fun bt222 => ((locks_block.f a0 (([(⟨t195, t196, t197⟩ : S35), (⟨t198, t199, t200⟩ : S35), (⟨t201, t202, t203⟩ : S35), (⟨t204, t205, t206⟩ : S35), (⟨bt207.1, bt207.2.1, bt207.2.2⟩ : S35), (⟨bt210.1, bt210.2.1, bt210.2.2⟩ : S35), (⟨bt213.1, bt213.2.1, bt213.2.2⟩ : S35), (⟨bt216.1, bt216.2.1, bt216.2.2⟩ : S35), (⟨bt219.1, bt219.2.1, bt219.2.2⟩ : S35), (⟨bt222.1, bt222.2.1, bt222.2.2⟩ : S35)] : List (S35)))).bind fun bt228 => (some (bt228.1, bt228.2))))))))) = some (r1, r2) := H
    have A8 := Aside0.mk A80
    clear A80
    replace H := Option.bind_eq_some_iff.mp H
    obtain ⟨⟨t207, t208, t209⟩, A90, H⟩ := H
    replace H : ((locks_op.f 9).bind fun bt210 => ((locks_with.f 5 a1).bind fun bt213 => ((locks_with.f 19 9).bind fun bt216 => ((locks_op.f 26).bind fun bt219 => ((locks_op.f 22).bind fun bt222 => ((locks_block.f a0 (([(⟨t195, t196, t197⟩ : S35), (⟨t198, t199, t200⟩ : S35), (⟨t201, t202, t203⟩ : S35), (⟨t204, t205, t206⟩ : S35), (⟨t207, t208, t209⟩ : S35), (⟨bt210.1, bt210.2.1, bt210.2.2⟩ : S35), (⟨bt213.1, bt213.2.1, bt213.2.2⟩ : S35), (⟨bt216.1, bt216.2.1, bt216.2.2⟩ : S35), (⟨bt219.1, bt219.2.1, bt219.2.2⟩ : S35), (⟨bt222.1, bt222.2.1, bt222.2.2⟩ : S35)] : List (S35)))).bind fun bt228 => (some (bt228.1, bt228.2)))))))) = some (r1, r2) := H
    have A9 := Aside0.mk A90
    clear A90
    replace H := Option.bind_eq_some_iff.mp H
    obtain ⟨⟨t210, t211, t212⟩, A100, H⟩ := H
    replace H : ((locks_with.f 5 a1).bind fun bt213 => ((locks_with.f 19 9).bind fun bt216 => ((locks_op.f 26).bind fun bt219 => ((locks_op.f 22).bind fun bt222 => ((locks_block.f a0 (([(⟨t195, t196, t197⟩ : S35), (⟨t198, t199, t200⟩ : S35), (⟨t201, t202, t203⟩ : S35), (⟨t204, t205, t206⟩ : S35), (⟨t207, t208, t209⟩ : S35), (⟨t210, t211, t212⟩ : S35), (⟨bt213.1, bt213.2.1, bt213.2.2⟩ : S35), (⟨bt216.1, bt216.2.1, bt216.2.2⟩ : S35), (⟨bt219.1, bt219.2.1, bt219.2.2⟩ : S35), (⟨bt222.1, bt222.2.1, bt222.2.2⟩ : S35)] : List (S35)))).bind fun bt228 => (some (bt228.1, bt228.2))))))) = some (r1, r2) := H
    have A10 := Aside0.mk A100
    clear A100
    replace H := Option.bind_eq_some_iff.mp H
    obtain ⟨⟨t213, t214, t215⟩, A110, H⟩ := H
    replace H : ((locks_with.f 19 9).bind fun bt216 => ((locks_op.f 26).bind fun bt219 => ((locks_op.f 22).bind fun bt222 => ((locks_block.f a0 (([(⟨t195, t196, t197⟩ : S35), (⟨t198, t199, t200⟩ : S35), (⟨t201, t202, t203⟩ : S35), (⟨t204, t205, t206⟩ : S35), (⟨t207, t208, t209⟩ : S35), (⟨t210, t211, t212⟩ : S35), (⟨t213, t214, t215⟩ : S35), (⟨bt216.1, bt216.2.1, bt216.2.2⟩ : S35), (⟨bt219.1, bt219.2.1, bt219.2.2⟩ : S35), (⟨bt222.1, bt222.2.1, bt222.2.2⟩ : S35)] : List (S35)))).bind fun bt228 => (some (bt228.1, bt228.2)))))) = some (r1, r2) := H
    have A11 := Aside0.mk A110
    clear A110
    replace H := Option.bind_eq_some_iff.mp H
    obtain ⟨⟨t216, t217, t218⟩, A120, H⟩ := H
    replace H : ((locks_op.f 26).bind fun bt219 => ((locks_op.f 22).bind fun bt222 => ((locks_block.f a0 (([(⟨t195, t196, t197⟩ : S35), (⟨t198, t199, t200⟩ : S35), (⟨t201, t202, t203⟩ : S35), (⟨t204, t205, t206⟩ : S35), (⟨t207, t208, t209⟩ : S35), (⟨t210, t211, t212⟩ : S35), (⟨t213, t214, t215⟩ : S35), (⟨t216, t217, t218⟩ : S35), (⟨bt219.1, bt219.2.1, bt219.2.2⟩ : S35), (⟨bt222.1, bt222.2.1, bt222.2.2⟩ : S35)] : List (S35)))).bind fun bt228 => (some (bt228.1, bt228.2))))) = some (r1, r2) := H
    have A12 := Aside0.mk A120
    clear A120
    replace H := Option.bind_eq_some_iff.mp H
    obtain ⟨⟨t219, t220, t221⟩, A130, H⟩ := H
    replace H : ((locks_op.f 22).bind fun bt222 => ((locks_block.f a0 (([(⟨t195, t196, t197⟩ : S35), (⟨t198, t199, t200⟩ : S35), (⟨t201, t202, t203⟩ : S35), (⟨t204, t205, t206⟩ : S35), (⟨t207, t208, t209⟩ : S35), (⟨t210, t211, t212⟩ : S35), (⟨t213, t214, t215⟩ : S35), (⟨t216, t217, t218⟩ : S35), (⟨t219, t220, t221⟩ : S35), (⟨bt222.1, bt222.2.1, bt222.2.2⟩ : S35)] : List (S35)))).bind fun bt228 => (some (bt228.1, bt228.2)))) = some (r1, r2) := H
    have A13 := Aside0.mk A130
    clear A130
    replace H := Option.bind_eq_some_iff.mp H
    obtain ⟨⟨t222, t223, t224⟩, A140, H⟩ := H
    replace H : ((locks_block.f a0 (([(⟨t195, t196, t197⟩ : S35), (⟨t198, t199, t200⟩ : S35), (⟨t201, t202, t203⟩ : S35), (⟨t204, t205, t206⟩ : S35), (⟨t207, t208, t209⟩ : S35), (⟨t210, t211, t212⟩ : S35), (⟨t213, t214, t215⟩ : S35), (⟨t216, t217, t218⟩ : S35), (⟨t219, t220, t221⟩ : S35), (⟨t222, t223, t224⟩ : S35)] : List (S35)))).bind fun bt228 => (some (bt228.1, bt228.2))) = some (r1, r2) := H
    have A14 := Aside0.mk A140
    clear A140
    obtain ⟨y225, hy225⟩ : ∃ y_ : List (S35), y_ = (([(⟨t195, t196, t197⟩ : S35), (⟨t198, t199, t200⟩ : S35), (⟨t201, t202, t203⟩ : S35), (⟨t204, t205, t206⟩ : S35), (⟨t207, t208, t209⟩ : S35), (⟨t210, t211, t212⟩ : S35), (⟨t213, t214, t215⟩ : S35), (⟨t216, t217, t218⟩ : S35), (⟨t219, t220, t221⟩ : S35), (⟨t222, t223, t224⟩ : S35)] : List (S35))) := ⟨_, rfl⟩
    replace H : ((locks_block.f a0 y225).bind fun bt228 => (some (bt228.1, bt228.2))) = some (r1, r2) := by first | (rw [hy225]; with_reducible exact H) | (have H2_ := (Option.bind_some _ _).symm.trans H; rw [hy225]; with_reducible exact H2_) | (have H2_ := (Option.bind_some _ _).symm.trans H; with_reducible exact H2_) | with_reducible exact H | (rw [hy225]; exact H) | exact H
    have Ny225 := Aside0.mk hy225
    clear hy225
    replace H := Option.bind_eq_some_iff.mp H
    obtain ⟨⟨t228, t229⟩, A150, H⟩ := H
    replace H : (some (t228, t229)) = some (r1, r2) := H
    have A15 := Aside0.mk A150
    clear A150
    simp only [Option.some.injEq, Prod.mk.injEq] at H
    obtain ⟨rfl, rfl⟩ := H
    go_enter Try.func32, Try.ntmps32
    go_wp2_with (first | ((with_reducible refine gate_callee (f := 59) rfl ?_); refine goesL_ (some 8) rfl rfl Try.func59 (by kernel_rfl) rfl #[.int .i64 a0, .int .i64 a1, .int .i64 0] rfl (by (try simp only [List.map_toArray, List.map_cons, List.map_nil]); first | done | rfl | (simp only [List.length_drop, List.length_take]; rfl)) ?_; (with_reducible refine (locks_may.calls a0 a1 0 true _ A3.out).mono ?_); rintro e w' ⟨rfl, ⟨nd, rfl⟩⟩; refine ⟨_, rfl, ?_⟩) | ((with_reducible refine gate_callee (f := 61) rfl ?_); refine goesL_ (some 11) rfl rfl Try.func61 (by kernel_rfl) rfl #[.int .u8 21, .int .i64 9] rfl (by (try simp only [List.map_toArray, List.map_cons, List.map_nil]); first | done | rfl | (simp only [List.length_drop, List.length_take]; rfl)) ?_; (with_reducible refine (locks_with.calls 21 9 t195 t196 t197 _ A5.out).mono ?_); rintro e w16 ⟨rfl, hb⟩; refine ⟨_, rfl, ?_⟩; have n0_ := Aside0.mk (below_step (by repeat (first | (with_reducible first | exact HB.out | apply below_alloc | apply pw_below_drewN | apply below_drew1) | exact HB.out)) hb); clear HB; have HB := n0_; clear n0_; (try clear hb); (try clear hb2); (try clear hk); (try clear hi)) | ((with_reducible refine gate_callee (f := 61) rfl ?_); refine goesL_ (some 13) rfl rfl Try.func61 (by kernel_rfl) rfl #[.int .u8 4, .int .i64 a1] rfl (by (try simp only [List.map_toArray, List.map_cons, List.map_nil]); first | done | rfl | (simp only [List.length_drop, List.length_take]; rfl)) ?_; (with_reducible refine (locks_with.calls 4 a1 t198 t199 t200 _ A6.out).mono ?_); rintro e w17 ⟨rfl, hb⟩; refine ⟨_, rfl, ?_⟩; have n0_ := Aside0.mk (below_step (by repeat (first | (with_reducible first | exact HB.out | apply below_alloc | apply pw_below_drewN | apply below_drew1) | exact HB.out)) hb); clear HB; have HB := n0_; clear n0_; (try clear hb); (try clear hb2); (try clear hk); (try clear hi)) | ((with_reducible refine gate_callee (f := 62) rfl ?_); refine goesL_ (some 14) rfl rfl Try.func62 (by kernel_rfl) rfl #[.int .u8 16] rfl (by (try simp only [List.map_toArray, List.map_cons, List.map_nil]); first | done | rfl | (simp only [List.length_drop, List.length_take]; rfl)) ?_; (with_reducible refine (locks_op.calls 16 t201 t202 t203 _ A7.out).mono ?_); rintro e w18 ⟨rfl, hb⟩; refine ⟨_, rfl, ?_⟩; have n0_ := Aside0.mk (below_step (by repeat (first | (with_reducible first | exact HB.out | apply below_alloc | apply pw_below_drewN | apply below_drew1) | exact HB.out)) hb); clear HB; have HB := n0_; clear n0_; (try clear hb); (try clear hb2); (try clear hk); (try clear hi)) | ((with_reducible refine gate_callee (f := 61) rfl ?_); refine goesL_ (some 15) rfl rfl Try.func61 (by kernel_rfl) rfl #[.int .u8 20, .int .i64 8] rfl (by (try simp only [List.map_toArray, List.map_cons, List.map_nil]); first | done | rfl | (simp only [List.length_drop, List.length_take]; rfl)) ?_; (with_reducible refine (locks_with.calls 20 8 t204 t205 t206 _ A8.out).mono ?_); rintro e w19 ⟨rfl, hb⟩; refine ⟨_, rfl, ?_⟩; have n0_ := Aside0.mk (below_step (by repeat (first | (with_reducible first | exact HB.out | apply below_alloc | apply pw_below_drewN | apply below_drew1) | exact HB.out)) hb); clear HB; have HB := n0_; clear n0_; (try clear hb); (try clear hb2); (try clear hk); (try clear hi)) | ((with_reducible refine gate_callee (f := 63) rfl ?_); refine goesL_ (some 16) rfl rfl Try.func63 (by kernel_rfl) rfl #[.int .i64 1] rfl (by (try simp only [List.map_toArray, List.map_cons, List.map_nil]); first | done | rfl | (simp only [List.length_drop, List.length_take]; rfl)) ?_; (with_reducible refine (locks_number.calls 1 t207 t208 t209 _ A9.out).mono ?_); rintro e w20 ⟨rfl, hb⟩; refine ⟨_, rfl, ?_⟩; have n0_ := Aside0.mk (below_step (by repeat (first | (with_reducible first | exact HB.out | apply below_alloc | apply pw_below_drewN | apply below_drew1) | exact HB.out)) hb); clear HB; have HB := n0_; clear n0_; (try clear hb); (try clear hb2); (try clear hk); (try clear hi)) | ((with_reducible refine gate_callee (f := 62) rfl ?_); refine goesL_ (some 17) rfl rfl Try.func62 (by kernel_rfl) rfl #[.int .u8 9] rfl (by (try simp only [List.map_toArray, List.map_cons, List.map_nil]); first | done | rfl | (simp only [List.length_drop, List.length_take]; rfl)) ?_; (with_reducible refine (locks_op.calls 9 t210 t211 t212 _ A10.out).mono ?_); rintro e w21 ⟨rfl, hb⟩; refine ⟨_, rfl, ?_⟩; have n0_ := Aside0.mk (below_step (by repeat (first | (with_reducible first | exact HB.out | apply below_alloc | apply pw_below_drewN | apply below_drew1) | exact HB.out)) hb); clear HB; have HB := n0_; clear n0_; (try clear hb); (try clear hb2); (try clear hk); (try clear hi)) | ((with_reducible refine gate_callee (f := 61) rfl ?_); refine goesL_ (some 19) rfl rfl Try.func61 (by kernel_rfl) rfl #[.int .u8 5, .int .i64 a1] rfl (by (try simp only [List.map_toArray, List.map_cons, List.map_nil]); first | done | rfl | (simp only [List.length_drop, List.length_take]; rfl)) ?_; (with_reducible refine (locks_with.calls 5 a1 t213 t214 t215 _ A11.out).mono ?_); rintro e w22 ⟨rfl, hb⟩; refine ⟨_, rfl, ?_⟩; have n0_ := Aside0.mk (below_step (by repeat (first | (with_reducible first | exact HB.out | apply below_alloc | apply pw_below_drewN | apply below_drew1) | exact HB.out)) hb); clear HB; have HB := n0_; clear n0_; (try clear hb); (try clear hb2); (try clear hk); (try clear hi)) | ((with_reducible refine gate_callee (f := 61) rfl ?_); refine goesL_ (some 20) rfl rfl Try.func61 (by kernel_rfl) rfl #[.int .u8 19, .int .i64 9] rfl (by (try simp only [List.map_toArray, List.map_cons, List.map_nil]); first | done | rfl | (simp only [List.length_drop, List.length_take]; rfl)) ?_; (with_reducible refine (locks_with.calls 19 9 t216 t217 t218 _ A12.out).mono ?_); rintro e w23 ⟨rfl, hb⟩; refine ⟨_, rfl, ?_⟩; have n0_ := Aside0.mk (below_step (by repeat (first | (with_reducible first | exact HB.out | apply below_alloc | apply pw_below_drewN | apply below_drew1) | exact HB.out)) hb); clear HB; have HB := n0_; clear n0_; (try clear hb); (try clear hb2); (try clear hk); (try clear hi)) | ((with_reducible refine gate_callee (f := 62) rfl ?_); refine goesL_ (some 21) rfl rfl Try.func62 (by kernel_rfl) rfl #[.int .u8 26] rfl (by (try simp only [List.map_toArray, List.map_cons, List.map_nil]); first | done | rfl | (simp only [List.length_drop, List.length_take]; rfl)) ?_; (with_reducible refine (locks_op.calls 26 t219 t220 t221 _ A13.out).mono ?_); rintro e w24 ⟨rfl, hb⟩; refine ⟨_, rfl, ?_⟩; have n0_ := Aside0.mk (below_step (by repeat (first | (with_reducible first | exact HB.out | apply below_alloc | apply pw_below_drewN | apply below_drew1) | exact HB.out)) hb); clear HB; have HB := n0_; clear n0_; (try clear hb); (try clear hb2); (try clear hk); (try clear hi)) | ((with_reducible refine gate_callee (f := 62) rfl ?_); refine goesL_ (some 22) rfl rfl Try.func62 (by kernel_rfl) rfl #[.int .u8 22] rfl (by (try simp only [List.map_toArray, List.map_cons, List.map_nil]); first | done | rfl | (simp only [List.length_drop, List.length_take]; rfl)) ?_; (with_reducible refine (locks_op.calls 22 t222 t223 t224 _ A14.out).mono ?_); rintro e w25 ⟨rfl, hb⟩; refine ⟨_, rfl, ?_⟩; have n0_ := Aside0.mk (below_step (by repeat (first | (with_reducible first | exact HB.out | apply below_alloc | apply pw_below_drewN | apply below_drew1) | exact HB.out)) hb); clear HB; have HB := n0_; clear n0_; (try clear hb); (try clear hb2); (try clear hk); (try clear hi)) | ((with_reducible refine gate_dst (N := 23) rfl ?_); refine Kd.R_lit k35 _ 35 ?hg (N := 23) ?hd (xs := ([(⟨t195, t196, t197⟩ : S35), (⟨t198, t199, t200⟩ : S35), (⟨t201, t202, t203⟩ : S35), (⟨t204, t205, t206⟩ : S35), (⟨t207, t208, t209⟩ : S35), (⟨t210, t211, t212⟩ : S35), (⟨t213, t214, t215⟩ : S35), (⟨t216, t217, t218⟩ : S35), (⟨t219, t220, t221⟩ : S35), (⟨t222, t223, t224⟩ : S35)] : List (S35))) (inner := [.int .u8 t195, .int .i64 t196, .int .u64 t197, .int .u8 t198, .int .i64 t199, .int .u64 t200, .int .u8 t201, .int .i64 t202, .int .u64 t203, .int .u8 t204, .int .i64 t205, .int .u64 t206, .int .u8 t207, .int .i64 t208, .int .u64 t209, .int .u8 t210, .int .i64 t211, .int .u64 t212, .int .u8 t213, .int .i64 t214, .int .u64 t215, .int .u8 t216, .int .i64 t217, .int .u64 t218, .int .u8 t219, .int .i64 t220, .int .u64 t221, .int .u8 t222, .int .i64 t223, .int .u64 t224]) (ok := fun _ => True) (okp := fun _ => True) ?hr ?hp (fun _ hk => hk) trivial (Below.refl _ _) (Nat.le_refl _) (by simp) ?_; (case hd => rfl); (case hg => rfl); (case hr => first | (go_simp; done) | (go_simp; rfl)); (case hp => exact (Reps.c3 (show Kd.M k35 _ _ _ (⟨t195, t196, t197⟩ : S35) [.int .u8 t195, .int .i64 t196, .int .u64 t197] from (k35_mkM _ _ _ (⟨t195, t196, t197⟩ : S35) )) (Reps.c3 (show Kd.M k35 _ _ _ (⟨t198, t199, t200⟩ : S35) [.int .u8 t198, .int .i64 t199, .int .u64 t200] from (k35_mkM _ _ _ (⟨t198, t199, t200⟩ : S35) )) (Reps.c3 (show Kd.M k35 _ _ _ (⟨t201, t202, t203⟩ : S35) [.int .u8 t201, .int .i64 t202, .int .u64 t203] from (k35_mkM _ _ _ (⟨t201, t202, t203⟩ : S35) )) (Reps.c3 (show Kd.M k35 _ _ _ (⟨t204, t205, t206⟩ : S35) [.int .u8 t204, .int .i64 t205, .int .u64 t206] from (k35_mkM _ _ _ (⟨t204, t205, t206⟩ : S35) )) (Reps.c3 (show Kd.M k35 _ _ _ (⟨t207, t208, t209⟩ : S35) [.int .u8 t207, .int .i64 t208, .int .u64 t209] from (k35_mkM _ _ _ (⟨t207, t208, t209⟩ : S35) )) (Reps.c3 (show Kd.M k35 _ _ _ (⟨t210, t211, t212⟩ : S35) [.int .u8 t210, .int .i64 t211, .int .u64 t212] from (k35_mkM _ _ _ (⟨t210, t211, t212⟩ : S35) )) (Reps.c3 (show Kd.M k35 _ _ _ (⟨t213, t214, t215⟩ : S35) [.int .u8 t213, .int .i64 t214, .int .u64 t215] from (k35_mkM _ _ _ (⟨t213, t214, t215⟩ : S35) )) (Reps.c3 (show Kd.M k35 _ _ _ (⟨t216, t217, t218⟩ : S35) [.int .u8 t216, .int .i64 t217, .int .u64 t218] from (k35_mkM _ _ _ (⟨t216, t217, t218⟩ : S35) )) (Reps.c3 (show Kd.M k35 _ _ _ (⟨t219, t220, t221⟩ : S35) [.int .u8 t219, .int .i64 t220, .int .u64 t221] from (k35_mkM _ _ _ (⟨t219, t220, t221⟩ : S35) )) (Reps.c3 (show Kd.M k35 _ _ _ (⟨t222, t223, t224⟩ : S35) [.int .u8 t222, .int .i64 t223, .int .u64 t224] from (k35_mkM _ _ _ (⟨t222, t223, t224⟩ : S35) )) (Reps.none _ _)))))))))))); intro v226 w26 ho27 hb hg_ hnew_; clear hg_ hnew_; (first | rw [← Ny225.out] at ho27 | (simp only [Int.reduceToNat] at ho27; rw [← Ny225.out] at ho27)); have n0_ := Aside0.mk (Kd.R_lower ho27 (below_size (by repeat (first | (with_reducible first | exact HB.out | apply below_alloc | apply pw_below_drewN | apply below_drew1) | exact HB.out)))); have n1_ := Aside0.mk (below_step (by repeat (first | (with_reducible first | exact HB.out | apply below_alloc | apply pw_below_drewN | apply below_drew1) | exact HB.out)) hb); clear HB; have HO227 := n0_; have HB := n1_; clear n0_ n1_; clear hb ho27; obtain ⟨Ao28, co28, eo28⟩ := Kd.R_slice HO227.out; subst eo28) | ((with_reducible refine gate_callee (f := 60) rfl ?_); refine goesL_ (some 24) rfl rfl Try.func60 (by kernel_rfl) rfl #[.int .i64 a0, .slice Ao28 y225.length co28] rfl (by (try simp only [List.map_toArray, List.map_cons, List.map_nil]); first | done | rfl | (simp only [List.length_drop, List.length_take]; rfl)) ?_; (with_reducible refine (locks_block.calls a0 _ _ y225 t228 t229 _ ?side1 ?side2 A15.out).mono ?_); (case side1 => repeat (first | exact (Kd.R_reads' HO227.out).2.2 | (with_reducible refine Kd.C_alloc ?_ _) | (with_reducible refine Kd.C_drewN ?_ _) | (with_reducible refine Kd.C_drew ?_))); (case side2 => exact (Kd.R_reads' HO227.out).2.1); rintro e w29 ⟨v230, rfl, ho0, hb⟩; refine ⟨_, rfl, ?_⟩; have n0_ := Aside0.mk (Kd.R_elder' (by (with_reducible repeat (first | apply Kd.R_alloc | apply Kd.R_drewN | apply Kd.R_drew)); exact HO227.out) (Kd.R_base ho0) hb); have n1_ := Aside0.mk (Kd.R_lower (Kd.R_new' ho0 (Kd.R_lt (by (with_reducible repeat (first | apply Kd.R_alloc | apply Kd.R_drewN | apply Kd.R_drew)); exact HO227.out))) (below_size (by repeat (first | (with_reducible first | exact HB.out | apply below_alloc | apply pw_below_drewN | apply below_drew1) | exact HB.out)))); have n2_ := Aside0.mk (below_step (by repeat (first | (with_reducible first | exact HB.out | apply below_alloc | apply pw_below_drewN | apply below_drew1) | exact HB.out)) hb); clear HO227; clear HB; have HO227 := n0_; have HO231 := n1_; have HB := n2_; clear n0_ n1_ n2_; (try clear hb); (try clear hb2); (try clear hk); (try clear hi); (try clear ho0)))
    go_ret2
    exact ⟨_, by first | rfl | (simp [errW_none, errW_some] <;> rfl) | (simp [*, errW_none, errW_some] <;> rfl), by (with_reducible repeat (first | apply Kd.R_alloc | apply Kd.R_drewN | apply Kd.R_drew)); exact Kd.R_mono HO231.out (fun _ hk => trivial), by repeat (first | (with_reducible first | exact HB.out | apply below_alloc | apply pw_below_drewN | apply below_drew1) | exact HB.out)⟩
  · replace c4 := Bool.eq_false_iff.mpr c4
    subst c4
    have H1 : (some (([] : List (S35)), 2)) = some (r1, r2) := by rw [if_neg (show ¬ (false = true) by decide)] at H; exact H
    clear H
    have H := H1
    clear H1
    simp only [Option.some.injEq, Prod.mk.injEq] at H
    obtain ⟨rfl, rfl⟩ := H
    go_enter Try.func32, Try.ntmps32
    go_wp2_with (first | ((with_reducible refine gate_callee (f := 59) rfl ?_); refine goesL_ (some 8) rfl rfl Try.func59 (by kernel_rfl) rfl #[.int .i64 a0, .int .i64 a1, .int .i64 0] rfl (by (try simp only [List.map_toArray, List.map_cons, List.map_nil]); first | done | rfl | (simp only [List.length_drop, List.length_take]; rfl)) ?_; (with_reducible refine (locks_may.calls a0 a1 0 false _ A3.out).mono ?_); rintro e w' ⟨rfl, ⟨nd, rfl⟩⟩; refine ⟨_, rfl, ?_⟩))
    go_ret2
    exact ⟨_, by first | rfl | (simp [errW_none, errW_some] <;> rfl) | (simp [*, errW_none, errW_some] <;> rfl), by first | exact Kd.R_nil _ _ _ _ _ | exact Kd.N_nil _ _ _ _ _ | exact Kd.V_nil _ _ _ _ _ | exact Kd.Q_nil _ _ _ _ _ | exact Kd.S_nil _ _ _ _ _, by repeat (first | (with_reducible first | exact HB.out | apply below_alloc | apply pw_below_drewN | apply below_drew1) | exact HB.out)⟩

/-! ### locks_Up: function 33 -/
def locks_Up.f (a0 : Int) (a1 : Int) : Option ((List (S35)) × Int) := (locks_may.f a0 a1 0).bind fun t232 => (if t232 = true then ((locks_with.f 21 5).bind fun bt233 => ((locks_with.f 4 a1).bind fun bt236 => ((locks_number.f 1).bind fun bt239 => ((locks_op.f 8).bind fun bt242 => ((locks_with.f 5 a1).bind fun bt245 => ((locks_op.f 22).bind fun bt248 => ((locks_block.f a0 (([(⟨bt233.1, bt233.2.1, bt233.2.2⟩ : S35), (⟨bt236.1, bt236.2.1, bt236.2.2⟩ : S35), (⟨bt239.1, bt239.2.1, bt239.2.2⟩ : S35), (⟨bt242.1, bt242.2.1, bt242.2.2⟩ : S35), (⟨bt245.1, bt245.2.1, bt245.2.2⟩ : S35), (⟨bt248.1, bt248.2.1, bt248.2.2⟩ : S35)] : List (S35)))).bind fun bt254 => (some (bt254.1, bt254.2))))))))) else (some (([] : List (S35)), 2)))
set_option maxHeartbeats 8000000 in
set_option maxRecDepth 100000 in
theorem locks_Up.calls (a0 : Int) (a1 : Int) (r1 : List (S35)) (r2 : Int) (w : World) (h : locks_Up.f a0 a1 = some (r1, r2)) :
    Calls Try.prog 33 #[.int .i64 a0, .int .i64 a1] w fun e w' => ∃ v0_ : Value, e = .returned (.tuple #[v0_, .int .i64 r2]) ∧ Kd.R k35 35 w' w.heap.size (fun _ => True) v0_ r1 ∧ Below w.heap.size w w' := by
  have HB := Aside0.mk (Below.refl w.heap.size w)
  have H : ((locks_may.f a0 a1 0).bind fun t232 => (if t232 = true then ((locks_with.f 21 5).bind fun bt233 => ((locks_with.f 4 a1).bind fun bt236 => ((locks_number.f 1).bind fun bt239 => ((locks_op.f 8).bind fun bt242 => ((locks_with.f 5 a1).bind fun bt245 => ((locks_op.f 22).bind fun bt248 => ((locks_block.f a0 (([(⟨bt233.1, bt233.2.1, bt233.2.2⟩ : S35), (⟨bt236.1, bt236.2.1, bt236.2.2⟩ : S35), (⟨bt239.1, bt239.2.1, bt239.2.2⟩ : S35), (⟨bt242.1, bt242.2.1, bt242.2.2⟩ : S35), (⟨bt245.1, bt245.2.1, bt245.2.2⟩ : S35), (⟨bt248.1, bt248.2.1, bt248.2.2⟩ : S35)] : List (S35)))).bind fun bt254 => (some (bt254.1, bt254.2))))))))) else (some (([] : List (S35)), 2)))) = some (r1, r2) := h
  clear h
  replace H := Option.bind_eq_some_iff.mp H
  obtain ⟨t232, A30, H⟩ := H
  replace H : (if t232 = true then ((locks_with.f 21 5).bind fun bt233 => ((locks_with.f 4 a1).bind fun bt236 => ((locks_number.f 1).bind fun bt239 => ((locks_op.f 8).bind fun bt242 => ((locks_with.f 5 a1).bind fun bt245 => ((locks_op.f 22).bind fun bt248 => ((locks_block.f a0 (([(⟨bt233.1, bt233.2.1, bt233.2.2⟩ : S35), (⟨bt236.1, bt236.2.1, bt236.2.2⟩ : S35), (⟨bt239.1, bt239.2.1, bt239.2.2⟩ : S35), (⟨bt242.1, bt242.2.1, bt242.2.2⟩ : S35), (⟨bt245.1, bt245.2.1, bt245.2.2⟩ : S35), (⟨bt248.1, bt248.2.1, bt248.2.2⟩ : S35)] : List (S35)))).bind fun bt254 => (some (bt254.1, bt254.2))))))))) else (some (([] : List (S35)), 2))) = some (r1, r2) := H
  have A3 := Aside0.mk A30
  clear A30
  by_cases c4 : t232 = true
  · subst c4
    have H1 : ((locks_with.f 21 5).bind fun bt233 => ((locks_with.f 4 a1).bind fun bt236 => ((locks_number.f 1).bind fun bt239 => ((locks_op.f 8).bind fun bt242 => ((locks_with.f 5 a1).bind fun bt245 => ((locks_op.f 22).bind fun bt248 => ((locks_block.f a0 (([(⟨bt233.1, bt233.2.1, bt233.2.2⟩ : S35), (⟨bt236.1, bt236.2.1, bt236.2.2⟩ : S35), (⟨bt239.1, bt239.2.1, bt239.2.2⟩ : S35), (⟨bt242.1, bt242.2.1, bt242.2.2⟩ : S35), (⟨bt245.1, bt245.2.1, bt245.2.2⟩ : S35), (⟨bt248.1, bt248.2.1, bt248.2.2⟩ : S35)] : List (S35)))).bind fun bt254 => (some (bt254.1, bt254.2))))))))) = some (r1, r2) := by rw [if_pos rfl] at H; exact H
    clear H
    have H := H1
    clear H1
    replace H := Option.bind_eq_some_iff.mp H
    obtain ⟨⟨t233, t234, t235⟩, A50, H⟩ := H
    replace H : ((locks_with.f 4 a1).bind fun bt236 => ((locks_number.f 1).bind fun bt239 => ((locks_op.f 8).bind fun bt242 => ((locks_with.f 5 a1).bind fun bt245 => ((locks_op.f 22).bind fun bt248 => ((locks_block.f a0 (([(⟨t233, t234, t235⟩ : S35), (⟨bt236.1, bt236.2.1, bt236.2.2⟩ : S35), (⟨bt239.1, bt239.2.1, bt239.2.2⟩ : S35), (⟨bt242.1, bt242.2.1, bt242.2.2⟩ : S35), (⟨bt245.1, bt245.2.1, bt245.2.2⟩ : S35), (⟨bt248.1, bt248.2.1, bt248.2.2⟩ : S35)] : List (S35)))).bind fun bt254 => (some (bt254.1, bt254.2)))))))) = some (r1, r2) := H
    have A5 := Aside0.mk A50
    clear A50
    replace H := Option.bind_eq_some_iff.mp H
    obtain ⟨⟨t236, t237, t238⟩, A60, H⟩ := H
    replace H : ((locks_number.f 1).bind fun bt239 => ((locks_op.f 8).bind fun bt242 => ((locks_with.f 5 a1).bind fun bt245 => ((locks_op.f 22).bind fun bt248 => ((locks_block.f a0 (([(⟨t233, t234, t235⟩ : S35), (⟨t236, t237, t238⟩ : S35), (⟨bt239.1, bt239.2.1, bt239.2.2⟩ : S35), (⟨bt242.1, bt242.2.1, bt242.2.2⟩ : S35), (⟨bt245.1, bt245.2.1, bt245.2.2⟩ : S35), (⟨bt248.1, bt248.2.1, bt248.2.2⟩ : S35)] : List (S35)))).bind fun bt254 => (some (bt254.1, bt254.2))))))) = some (r1, r2) := H
    have A6 := Aside0.mk A60
    clear A60
    replace H := Option.bind_eq_some_iff.mp H
    obtain ⟨⟨t239, t240, t241⟩, A70, H⟩ := H
    replace H : ((locks_op.f 8).bind fun bt242 => ((locks_with.f 5 a1).bind fun bt245 => ((locks_op.f 22).bind fun bt248 => ((locks_block.f a0 (([(⟨t233, t234, t235⟩ : S35), (⟨t236, t237, t238⟩ : S35), (⟨t239, t240, t241⟩ : S35), (⟨bt242.1, bt242.2.1, bt242.2.2⟩ : S35), (⟨bt245.1, bt245.2.1, bt245.2.2⟩ : S35), (⟨bt248.1, bt248.2.1, bt248.2.2⟩ : S35)] : List (S35)))).bind fun bt254 => (some (bt254.1, bt254.2)))))) = some (r1, r2) := H
    have A7 := Aside0.mk A70
    clear A70
    replace H := Option.bind_eq_some_iff.mp H
    obtain ⟨⟨t242, t243, t244⟩, A80, H⟩ := H
    replace H : ((locks_with.f 5 a1).bind fun bt245 => ((locks_op.f 22).bind fun bt248 => ((locks_block.f a0 (([(⟨t233, t234, t235⟩ : S35), (⟨t236, t237, t238⟩ : S35), (⟨t239, t240, t241⟩ : S35), (⟨t242, t243, t244⟩ : S35), (⟨bt245.1, bt245.2.1, bt245.2.2⟩ : S35), (⟨bt248.1, bt248.2.1, bt248.2.2⟩ : S35)] : List (S35)))).bind fun bt254 => (some (bt254.1, bt254.2))))) = some (r1, r2) := H
    have A8 := Aside0.mk A80
    clear A80
    replace H := Option.bind_eq_some_iff.mp H
    obtain ⟨⟨t245, t246, t247⟩, A90, H⟩ := H
    replace H : ((locks_op.f 22).bind fun bt248 => ((locks_block.f a0 (([(⟨t233, t234, t235⟩ : S35), (⟨t236, t237, t238⟩ : S35), (⟨t239, t240, t241⟩ : S35), (⟨t242, t243, t244⟩ : S35), (⟨t245, t246, t247⟩ : S35), (⟨bt248.1, bt248.2.1, bt248.2.2⟩ : S35)] : List (S35)))).bind fun bt254 => (some (bt254.1, bt254.2)))) = some (r1, r2) := H
    have A9 := Aside0.mk A90
    clear A90
    replace H := Option.bind_eq_some_iff.mp H
    obtain ⟨⟨t248, t249, t250⟩, A100, H⟩ := H
    replace H : ((locks_block.f a0 (([(⟨t233, t234, t235⟩ : S35), (⟨t236, t237, t238⟩ : S35), (⟨t239, t240, t241⟩ : S35), (⟨t242, t243, t244⟩ : S35), (⟨t245, t246, t247⟩ : S35), (⟨t248, t249, t250⟩ : S35)] : List (S35)))).bind fun bt254 => (some (bt254.1, bt254.2))) = some (r1, r2) := H
    have A10 := Aside0.mk A100
    clear A100
    obtain ⟨y251, hy251⟩ : ∃ y_ : List (S35), y_ = (([(⟨t233, t234, t235⟩ : S35), (⟨t236, t237, t238⟩ : S35), (⟨t239, t240, t241⟩ : S35), (⟨t242, t243, t244⟩ : S35), (⟨t245, t246, t247⟩ : S35), (⟨t248, t249, t250⟩ : S35)] : List (S35))) := ⟨_, rfl⟩
    replace H : ((locks_block.f a0 y251).bind fun bt254 => (some (bt254.1, bt254.2))) = some (r1, r2) := by first | (rw [hy251]; with_reducible exact H) | (have H2_ := (Option.bind_some _ _).symm.trans H; rw [hy251]; with_reducible exact H2_) | (have H2_ := (Option.bind_some _ _).symm.trans H; with_reducible exact H2_) | with_reducible exact H | (rw [hy251]; exact H) | exact H
    have Ny251 := Aside0.mk hy251
    clear hy251
    replace H := Option.bind_eq_some_iff.mp H
    obtain ⟨⟨t254, t255⟩, A110, H⟩ := H
    replace H : (some (t254, t255)) = some (r1, r2) := H
    have A11 := Aside0.mk A110
    clear A110
    simp only [Option.some.injEq, Prod.mk.injEq] at H
    obtain ⟨rfl, rfl⟩ := H
    go_enter Try.func33, Try.ntmps33
    go_wp2_with (first | ((with_reducible refine gate_callee (f := 59) rfl ?_); refine goesL_ (some 8) rfl rfl Try.func59 (by kernel_rfl) rfl #[.int .i64 a0, .int .i64 a1, .int .i64 0] rfl (by (try simp only [List.map_toArray, List.map_cons, List.map_nil]); first | done | rfl | (simp only [List.length_drop, List.length_take]; rfl)) ?_; (with_reducible refine (locks_may.calls a0 a1 0 true _ A3.out).mono ?_); rintro e w' ⟨rfl, ⟨nd, rfl⟩⟩; refine ⟨_, rfl, ?_⟩) | ((with_reducible refine gate_callee (f := 61) rfl ?_); refine goesL_ (some 11) rfl rfl Try.func61 (by kernel_rfl) rfl #[.int .u8 21, .int .i64 5] rfl (by (try simp only [List.map_toArray, List.map_cons, List.map_nil]); first | done | rfl | (simp only [List.length_drop, List.length_take]; rfl)) ?_; (with_reducible refine (locks_with.calls 21 5 t233 t234 t235 _ A5.out).mono ?_); rintro e w12 ⟨rfl, hb⟩; refine ⟨_, rfl, ?_⟩; have n0_ := Aside0.mk (below_step (by repeat (first | (with_reducible first | exact HB.out | apply below_alloc | apply pw_below_drewN | apply below_drew1) | exact HB.out)) hb); clear HB; have HB := n0_; clear n0_; (try clear hb); (try clear hb2); (try clear hk); (try clear hi)) | ((with_reducible refine gate_callee (f := 61) rfl ?_); refine goesL_ (some 13) rfl rfl Try.func61 (by kernel_rfl) rfl #[.int .u8 4, .int .i64 a1] rfl (by (try simp only [List.map_toArray, List.map_cons, List.map_nil]); first | done | rfl | (simp only [List.length_drop, List.length_take]; rfl)) ?_; (with_reducible refine (locks_with.calls 4 a1 t236 t237 t238 _ A6.out).mono ?_); rintro e w13 ⟨rfl, hb⟩; refine ⟨_, rfl, ?_⟩; have n0_ := Aside0.mk (below_step (by repeat (first | (with_reducible first | exact HB.out | apply below_alloc | apply pw_below_drewN | apply below_drew1) | exact HB.out)) hb); clear HB; have HB := n0_; clear n0_; (try clear hb); (try clear hb2); (try clear hk); (try clear hi)) | ((with_reducible refine gate_callee (f := 63) rfl ?_); refine goesL_ (some 14) rfl rfl Try.func63 (by kernel_rfl) rfl #[.int .i64 1] rfl (by (try simp only [List.map_toArray, List.map_cons, List.map_nil]); first | done | rfl | (simp only [List.length_drop, List.length_take]; rfl)) ?_; (with_reducible refine (locks_number.calls 1 t239 t240 t241 _ A7.out).mono ?_); rintro e w14 ⟨rfl, hb⟩; refine ⟨_, rfl, ?_⟩; have n0_ := Aside0.mk (below_step (by repeat (first | (with_reducible first | exact HB.out | apply below_alloc | apply pw_below_drewN | apply below_drew1) | exact HB.out)) hb); clear HB; have HB := n0_; clear n0_; (try clear hb); (try clear hb2); (try clear hk); (try clear hi)) | ((with_reducible refine gate_callee (f := 62) rfl ?_); refine goesL_ (some 15) rfl rfl Try.func62 (by kernel_rfl) rfl #[.int .u8 8] rfl (by (try simp only [List.map_toArray, List.map_cons, List.map_nil]); first | done | rfl | (simp only [List.length_drop, List.length_take]; rfl)) ?_; (with_reducible refine (locks_op.calls 8 t242 t243 t244 _ A8.out).mono ?_); rintro e w15 ⟨rfl, hb⟩; refine ⟨_, rfl, ?_⟩; have n0_ := Aside0.mk (below_step (by repeat (first | (with_reducible first | exact HB.out | apply below_alloc | apply pw_below_drewN | apply below_drew1) | exact HB.out)) hb); clear HB; have HB := n0_; clear n0_; (try clear hb); (try clear hb2); (try clear hk); (try clear hi)) | ((with_reducible refine gate_callee (f := 61) rfl ?_); refine goesL_ (some 17) rfl rfl Try.func61 (by kernel_rfl) rfl #[.int .u8 5, .int .i64 a1] rfl (by (try simp only [List.map_toArray, List.map_cons, List.map_nil]); first | done | rfl | (simp only [List.length_drop, List.length_take]; rfl)) ?_; (with_reducible refine (locks_with.calls 5 a1 t245 t246 t247 _ A9.out).mono ?_); rintro e w16 ⟨rfl, hb⟩; refine ⟨_, rfl, ?_⟩; have n0_ := Aside0.mk (below_step (by repeat (first | (with_reducible first | exact HB.out | apply below_alloc | apply pw_below_drewN | apply below_drew1) | exact HB.out)) hb); clear HB; have HB := n0_; clear n0_; (try clear hb); (try clear hb2); (try clear hk); (try clear hi)) | ((with_reducible refine gate_callee (f := 62) rfl ?_); refine goesL_ (some 18) rfl rfl Try.func62 (by kernel_rfl) rfl #[.int .u8 22] rfl (by (try simp only [List.map_toArray, List.map_cons, List.map_nil]); first | done | rfl | (simp only [List.length_drop, List.length_take]; rfl)) ?_; (with_reducible refine (locks_op.calls 22 t248 t249 t250 _ A10.out).mono ?_); rintro e w17 ⟨rfl, hb⟩; refine ⟨_, rfl, ?_⟩; have n0_ := Aside0.mk (below_step (by repeat (first | (with_reducible first | exact HB.out | apply below_alloc | apply pw_below_drewN | apply below_drew1) | exact HB.out)) hb); clear HB; have HB := n0_; clear n0_; (try clear hb); (try clear hb2); (try clear hk); (try clear hi)) | ((with_reducible refine gate_dst (N := 19) rfl ?_); refine Kd.R_lit k35 _ 35 ?hg (N := 19) ?hd (xs := ([(⟨t233, t234, t235⟩ : S35), (⟨t236, t237, t238⟩ : S35), (⟨t239, t240, t241⟩ : S35), (⟨t242, t243, t244⟩ : S35), (⟨t245, t246, t247⟩ : S35), (⟨t248, t249, t250⟩ : S35)] : List (S35))) (inner := [.int .u8 t233, .int .i64 t234, .int .u64 t235, .int .u8 t236, .int .i64 t237, .int .u64 t238, .int .u8 t239, .int .i64 t240, .int .u64 t241, .int .u8 t242, .int .i64 t243, .int .u64 t244, .int .u8 t245, .int .i64 t246, .int .u64 t247, .int .u8 t248, .int .i64 t249, .int .u64 t250]) (ok := fun _ => True) (okp := fun _ => True) ?hr ?hp (fun _ hk => hk) trivial (Below.refl _ _) (Nat.le_refl _) (by simp) ?_; (case hd => rfl); (case hg => rfl); (case hr => first | (go_simp; done) | (go_simp; rfl)); (case hp => exact (Reps.c3 (show Kd.M k35 _ _ _ (⟨t233, t234, t235⟩ : S35) [.int .u8 t233, .int .i64 t234, .int .u64 t235] from (k35_mkM _ _ _ (⟨t233, t234, t235⟩ : S35) )) (Reps.c3 (show Kd.M k35 _ _ _ (⟨t236, t237, t238⟩ : S35) [.int .u8 t236, .int .i64 t237, .int .u64 t238] from (k35_mkM _ _ _ (⟨t236, t237, t238⟩ : S35) )) (Reps.c3 (show Kd.M k35 _ _ _ (⟨t239, t240, t241⟩ : S35) [.int .u8 t239, .int .i64 t240, .int .u64 t241] from (k35_mkM _ _ _ (⟨t239, t240, t241⟩ : S35) )) (Reps.c3 (show Kd.M k35 _ _ _ (⟨t242, t243, t244⟩ : S35) [.int .u8 t242, .int .i64 t243, .int .u64 t244] from (k35_mkM _ _ _ (⟨t242, t243, t244⟩ : S35) )) (Reps.c3 (show Kd.M k35 _ _ _ (⟨t245, t246, t247⟩ : S35) [.int .u8 t245, .int .i64 t246, .int .u64 t247] from (k35_mkM _ _ _ (⟨t245, t246, t247⟩ : S35) )) (Reps.c3 (show Kd.M k35 _ _ _ (⟨t248, t249, t250⟩ : S35) [.int .u8 t248, .int .i64 t249, .int .u64 t250] from (k35_mkM _ _ _ (⟨t248, t249, t250⟩ : S35) )) (Reps.none _ _)))))))); intro v252 w18 ho19 hb hg_ hnew_; clear hg_ hnew_; (first | rw [← Ny251.out] at ho19 | (simp only [Int.reduceToNat] at ho19; rw [← Ny251.out] at ho19)); have n0_ := Aside0.mk (Kd.R_lower ho19 (below_size (by repeat (first | (with_reducible first | exact HB.out | apply below_alloc | apply pw_below_drewN | apply below_drew1) | exact HB.out)))); have n1_ := Aside0.mk (below_step (by repeat (first | (with_reducible first | exact HB.out | apply below_alloc | apply pw_below_drewN | apply below_drew1) | exact HB.out)) hb); clear HB; have HO253 := n0_; have HB := n1_; clear n0_ n1_; clear hb ho19; obtain ⟨Ao20, co20, eo20⟩ := Kd.R_slice HO253.out; subst eo20) | ((with_reducible refine gate_callee (f := 60) rfl ?_); refine goesL_ (some 20) rfl rfl Try.func60 (by kernel_rfl) rfl #[.int .i64 a0, .slice Ao20 y251.length co20] rfl (by (try simp only [List.map_toArray, List.map_cons, List.map_nil]); first | done | rfl | (simp only [List.length_drop, List.length_take]; rfl)) ?_; (with_reducible refine (locks_block.calls a0 _ _ y251 t254 t255 _ ?side1 ?side2 A11.out).mono ?_); (case side1 => repeat (first | exact (Kd.R_reads' HO253.out).2.2 | (with_reducible refine Kd.C_alloc ?_ _) | (with_reducible refine Kd.C_drewN ?_ _) | (with_reducible refine Kd.C_drew ?_))); (case side2 => exact (Kd.R_reads' HO253.out).2.1); rintro e w21 ⟨v256, rfl, ho0, hb⟩; refine ⟨_, rfl, ?_⟩; have n0_ := Aside0.mk (Kd.R_elder' (by (with_reducible repeat (first | apply Kd.R_alloc | apply Kd.R_drewN | apply Kd.R_drew)); exact HO253.out) (Kd.R_base ho0) hb); have n1_ := Aside0.mk (Kd.R_lower (Kd.R_new' ho0 (Kd.R_lt (by (with_reducible repeat (first | apply Kd.R_alloc | apply Kd.R_drewN | apply Kd.R_drew)); exact HO253.out))) (below_size (by repeat (first | (with_reducible first | exact HB.out | apply below_alloc | apply pw_below_drewN | apply below_drew1) | exact HB.out)))); have n2_ := Aside0.mk (below_step (by repeat (first | (with_reducible first | exact HB.out | apply below_alloc | apply pw_below_drewN | apply below_drew1) | exact HB.out)) hb); clear HO253; clear HB; have HO253 := n0_; have HO257 := n1_; have HB := n2_; clear n0_ n1_ n2_; (try clear hb); (try clear hb2); (try clear hk); (try clear hi); (try clear ho0)))
    go_ret2
    exact ⟨_, by first | rfl | (simp [errW_none, errW_some] <;> rfl) | (simp [*, errW_none, errW_some] <;> rfl), by (with_reducible repeat (first | apply Kd.R_alloc | apply Kd.R_drewN | apply Kd.R_drew)); exact Kd.R_mono HO257.out (fun _ hk => trivial), by repeat (first | (with_reducible first | exact HB.out | apply below_alloc | apply pw_below_drewN | apply below_drew1) | exact HB.out)⟩
  · replace c4 := Bool.eq_false_iff.mpr c4
    subst c4
    have H1 : (some (([] : List (S35)), 2)) = some (r1, r2) := by rw [if_neg (show ¬ (false = true) by decide)] at H; exact H
    clear H
    have H := H1
    clear H1
    simp only [Option.some.injEq, Prod.mk.injEq] at H
    obtain ⟨rfl, rfl⟩ := H
    go_enter Try.func33, Try.ntmps33
    go_wp2_with (first | ((with_reducible refine gate_callee (f := 59) rfl ?_); refine goesL_ (some 8) rfl rfl Try.func59 (by kernel_rfl) rfl #[.int .i64 a0, .int .i64 a1, .int .i64 0] rfl (by (try simp only [List.map_toArray, List.map_cons, List.map_nil]); first | done | rfl | (simp only [List.length_drop, List.length_take]; rfl)) ?_; (with_reducible refine (locks_may.calls a0 a1 0 false _ A3.out).mono ?_); rintro e w' ⟨rfl, ⟨nd, rfl⟩⟩; refine ⟨_, rfl, ?_⟩))
    go_ret2
    exact ⟨_, by first | rfl | (simp [errW_none, errW_some] <;> rfl) | (simp [*, errW_none, errW_some] <;> rfl), by first | exact Kd.R_nil _ _ _ _ _ | exact Kd.N_nil _ _ _ _ _ | exact Kd.V_nil _ _ _ _ _ | exact Kd.Q_nil _ _ _ _ _ | exact Kd.S_nil _ _ _ _ _, by repeat (first | (with_reducible first | exact HB.out | apply below_alloc | apply pw_below_drewN | apply below_drew1) | exact HB.out)⟩

end Go.Proofs.Ytcjkpeojjonpiaa.PLocksMay
