-- Written by a program of this session, over the kit's print; the contracts of some functions by hand.
import Derived.Test.YtmfcfihpmollfaaPLocksCountsx0
namespace Go.Proofs.Ytmfcfihpmollfaa.PLocksCounts
open Go.RowKit Go.Proofs.YtmfcfihpmollfaaW.PrintWords Go.Proofs.YtmfcfihpmollfaaW.PrintLast Go.Proofs.YtmfcfihpmollfaaW.PrintMore
attribute [local go_sem] max2_int min2_int max_two min_two max_three min_three max_four min_four   -- for this text's walks alone
set_option linter.unusedVariables false
set_option linter.unusedSimpArgs false

/-! ### locks_may: function 51 -/
def locks_may.f (a0 : Int) (a1 : Int) (a2 : Int) : Option (Bool) := if a0 ≥ 0 then (if a0 ≤ 64 then (if a1 ≥ 0 then (if a1 < 12 then (if a2 ≥ 0 then (some (decide (a2 < 4))) else (some false)) else (some false)) else (some false)) else (some false)) else (some false)
set_option maxHeartbeats 8000000 in
set_option maxRecDepth 100000 in
theorem locks_may.calls (a0 : Int) (a1 : Int) (a2 : Int) (r : Bool) (w : World) (h : locks_may.f a0 a1 a2 = some r) :
    Calls Try.prog 51 #[.int .i64 a0, .int .i64 a1, .int .i64 a2] w fun e w' => e = .returned (.bool r) ∧ Drawn0 w w' := by
  have H : (if a0 ≥ 0 then (if a0 ≤ 64 then (if a1 ≥ 0 then (if a1 < 12 then (if a2 ≥ 0 then (some (decide (a2 < 4))) else (some false)) else (some false)) else (some false)) else (some false)) else (some false)) = some r := h
  clear h
  by_cases c4 : a0 ≥ 0
  · rw [if_pos c4] at H
    have c4b0 : decide (0 ≤ a0) = true := decide_eq_true c4
    clear c4
    by_cases c5 : a0 ≤ 64
    · rw [if_pos c5] at H
      have c5b0 : decide (a0 ≤ 64) = true := decide_eq_true c5
      clear c5
      by_cases c6 : a1 ≥ 0
      · rw [if_pos c6] at H
        have c6b0 : decide (0 ≤ a1) = true := decide_eq_true c6
        clear c6
        by_cases c7 : a1 < 12
        · rw [if_pos c7] at H
          have c7b0 : decide (a1 < 12) = true := decide_eq_true c7
          clear c7
          by_cases c8 : a2 ≥ 0
          · rw [if_pos c8] at H
            have c8b0 : decide (0 ≤ a2) = true := decide_eq_true c8
            clear c8
            obtain rfl := Option.some.inj H
            go_enter Try.func51, Try.ntmps51
            go_wp2
            go_ret
            exact ⟨by first | rfl | (simp; done) | (simp [*]; done), by repeat (first | exact Drawn0.refl _ | apply Drawn0.step)⟩
          · rw [if_neg c8] at H
            have c8b0 : decide (0 ≤ a2) = false := decide_eq_false c8
            clear c8
            obtain rfl := Option.some.inj H
            go_enter Try.func51, Try.ntmps51
            go_wp2
            go_ret
            exact ⟨by first | rfl | (simp; done) | (simp [*]; done), by repeat (first | exact Drawn0.refl _ | apply Drawn0.step)⟩
        · rw [if_neg c7] at H
          have c7b0 : decide (a1 < 12) = false := decide_eq_false c7
          clear c7
          obtain rfl := Option.some.inj H
          go_enter Try.func51, Try.ntmps51
          go_wp2
          go_ret
          exact ⟨by first | rfl | (simp; done) | (simp [*]; done), by repeat (first | exact Drawn0.refl _ | apply Drawn0.step)⟩
      · rw [if_neg c6] at H
        have c6b0 : decide (0 ≤ a1) = false := decide_eq_false c6
        clear c6
        obtain rfl := Option.some.inj H
        go_enter Try.func51, Try.ntmps51
        go_wp2
        go_ret
        exact ⟨by first | rfl | (simp; done) | (simp [*]; done), by repeat (first | exact Drawn0.refl _ | apply Drawn0.step)⟩
    · rw [if_neg c5] at H
      have c5b0 : decide (a0 ≤ 64) = false := decide_eq_false c5
      clear c5
      obtain rfl := Option.some.inj H
      go_enter Try.func51, Try.ntmps51
      go_wp2
      go_ret
      exact ⟨by first | rfl | (simp; done) | (simp [*]; done), by repeat (first | exact Drawn0.refl _ | apply Drawn0.step)⟩
  · rw [if_neg c4] at H
    have c4b0 : decide (0 ≤ a0) = false := decide_eq_false c4
    clear c4
    obtain rfl := Option.some.inj H
    go_enter Try.func51, Try.ntmps51
    go_wp2
    go_ret
    exact ⟨by first | rfl | (simp; done) | (simp [*]; done), by repeat (first | exact Drawn0.refl _ | apply Drawn0.step)⟩

/-! ### rowlockref22_place: function 97 -/
def rowlockref22_place.f (a0 : Int) : Option (Bool) := if a0 = 21 then (some true) else (if a0 = 23 then (some true) else (if a0 = 24 then (some true) else (if a0 = 19 then (some true) else (some (a0 == 20)))))
set_option maxHeartbeats 8000000 in
set_option maxRecDepth 100000 in
theorem rowlockref22_place.calls (a0 : Int) (r : Bool) (w : World) (h : rowlockref22_place.f a0 = some r) :
    Calls Try.prog 97 #[.int .u8 a0] w fun e w' => e = .returned (.bool r) ∧ Drawn0 w w' := by
  have H : (if a0 = 21 then (some true) else (if a0 = 23 then (some true) else (if a0 = 24 then (some true) else (if a0 = 19 then (some true) else (some (a0 == 20)))))) = some r := h
  clear h
  by_cases c2 : a0 = 21
  · rw [if_pos c2] at H
    have c2b0 : (a0 == 21) = true := beq_iff_eq.mpr c2
    have c2b1 : (a0 != 21) = false := bne_eq_false_iff_eq.mpr c2
    clear c2
    obtain rfl := Option.some.inj H
    go_enter Try.func97, Try.ntmps97
    go_wp2
    go_ret
    exact ⟨by first | rfl | (simp; done) | (simp [*]; done), by repeat (first | exact Drawn0.refl _ | apply Drawn0.step)⟩
  · rw [if_neg c2] at H
    have c2b0 : (a0 == 21) = false := beq_eq_false_iff_ne.mpr c2
    have c2b1 : (a0 != 21) = true := bne_iff_ne.mpr c2
    by_cases c3 : a0 = 23
    · rw [if_pos c3] at H
      have c3b0 : (a0 == 23) = true := beq_iff_eq.mpr c3
      have c3b1 : (a0 != 23) = false := bne_eq_false_iff_eq.mpr c3
      clear c3
      obtain rfl := Option.some.inj H
      go_enter Try.func97, Try.ntmps97
      go_wp2
      go_ret
      exact ⟨by first | rfl | (simp; done) | (simp [*]; done), by repeat (first | exact Drawn0.refl _ | apply Drawn0.step)⟩
    · rw [if_neg c3] at H
      have c3b0 : (a0 == 23) = false := beq_eq_false_iff_ne.mpr c3
      have c3b1 : (a0 != 23) = true := bne_iff_ne.mpr c3
      by_cases c4 : a0 = 24
      · rw [if_pos c4] at H
        have c4b0 : (a0 == 24) = true := beq_iff_eq.mpr c4
        have c4b1 : (a0 != 24) = false := bne_eq_false_iff_eq.mpr c4
        clear c4
        obtain rfl := Option.some.inj H
        go_enter Try.func97, Try.ntmps97
        go_wp2
        go_ret
        exact ⟨by first | rfl | (simp; done) | (simp [*]; done), by repeat (first | exact Drawn0.refl _ | apply Drawn0.step)⟩
      · rw [if_neg c4] at H
        have c4b0 : (a0 == 24) = false := beq_eq_false_iff_ne.mpr c4
        have c4b1 : (a0 != 24) = true := bne_iff_ne.mpr c4
        by_cases c5 : a0 = 19
        · rw [if_pos c5] at H
          have c5b0 : (a0 == 19) = true := beq_iff_eq.mpr c5
          have c5b1 : (a0 != 19) = false := bne_eq_false_iff_eq.mpr c5
          clear c5
          obtain rfl := Option.some.inj H
          go_enter Try.func97, Try.ntmps97
          go_wp2
          go_ret
          exact ⟨by first | rfl | (simp; done) | (simp [*]; done), by repeat (first | exact Drawn0.refl _ | apply Drawn0.step)⟩
        · rw [if_neg c5] at H
          have c5b0 : (a0 == 19) = false := beq_eq_false_iff_ne.mpr c5
          have c5b1 : (a0 != 19) = true := bne_iff_ne.mpr c5
          obtain rfl := Option.some.inj H
          go_enter Try.func97, Try.ntmps97
          go_wp2
          go_ret
          exact ⟨by first | rfl | (simp; done) | (simp [*]; done), by repeat (first | exact Drawn0.refl _ | apply Drawn0.step)⟩

/-! ### rowlockref22_At: function 57 -/
def rowlockref22_At.l0 : Nat → Int → List (S42) → List (S42) → Int → Option ((List (S42)) × Int)
  | 0, _, _, _, _ => none
  | k + 1, x0, x1, x6, x7 => if x7 < (x1.length : Int) then (if 0 ≤ x7 then ((rowlockref22_place.f ((rd_T42 x1 x7).f0)).bind fun t103 => (if t103 = true then (if x6.length < 5864062014805 then (rowlockref22_At.l0 k x0 x1 (x6 ++ [(⟨(rd_T42 x1 x7).f0, wrap64 (((rd_T42 x1 x7).f1) + x0), (rd_T42 x1 x7).f2⟩ : S42)]) (wrap64 (x7 + 1))) else (none)) else (if x6.length < 5864062014805 then (rowlockref22_At.l0 k x0 x1 (x6 ++ [(⟨(rd_T42 x1 x7).f0, (rd_T42 x1 x7).f1, (rd_T42 x1 x7).f2⟩ : S42)]) (wrap64 (x7 + 1))) else (none)))) else (none)) else (some (x6, 0))
def rowlockref22_At.f (k : Nat) (a0 : Int) (l1 : List (S42)) : Option ((List (S42)) × Int) := if (l1.length : Int) > (wrap64 (64 - a0)) then (some (([] : List (S42)), 4)) else (rowlockref22_At.l0 k a0 l1 ([] : List (S42)) 0)
theorem rowlockref22_At.mono_l : ∀ k, (∀ y0 y1 y2 y3, LeO (rowlockref22_At.l0 k y0 y1 y2 y3) (rowlockref22_At.l0 (k + 1) y0 y1 y2 y3))
  | 0 => fun _ _ _ _ r h => by simp [rowlockref22_At.l0] at h
  | k + 1 => by
    have ih0 := rowlockref22_At.mono_l k
    · intro y0 y1 y2 y3
      unfold rowlockref22_At.l0
      repeat' first
      | (with_reducible exact ih0 _ _ _ _)
      | (with_reducible exact LeO.refl _)
      | (with_reducible exact LeO.none _)
      | (with_reducible refine LeO.ite ?_ ?_)
      | (with_reducible refine LeO.bind ?_ (fun _ => ?_))
      | exact ih0 _ _ _ _
      | exact LeO.none _
      | refine LeO.ite ?_ ?_
      | refine LeO.bind ?_ (fun _ => ?_)
theorem rowlockref22_At.mono : ∀ a0 a1 k, LeO (rowlockref22_At.f k a0 a1) (rowlockref22_At.f (k + 1) a0 a1) := by
  intro a0 a1 k
  have ih0 := rowlockref22_At.mono_l k
  unfold rowlockref22_At.f
  repeat' first
      | (with_reducible exact ih0 _ _ _ _)
      | (with_reducible exact LeO.refl _)
      | (with_reducible exact LeO.none _)
      | (with_reducible refine LeO.ite ?_ ?_)
      | (with_reducible refine LeO.bind ?_ (fun _ => ?_))
      | exact ih0 _ _ _ _
      | exact LeO.none _
      | refine LeO.ite ?_ ?_
      | refine LeO.bind ?_ (fun _ => ?_)
set_option maxHeartbeats 8000000 in
set_option maxRecDepth 100000 in
theorem rowlockref22_At.calls (k : Nat) (a0 : Int) (A1 : Option Addr) (c1 : Nat) (l1 : List (S42)) (r1 : List (S42)) (r2 : Int) (w : World) (hr1 : Kd.C k42 w A1 l1.length l1) (hc1 : l1.length ≤ c1) (h : rowlockref22_At.f k a0 l1 = some (r1, r2)) :
    Calls Try.prog 57 #[.int .i64 a0, .slice A1 l1.length c1] w fun e w' => ∃ v0_ : Value, e = .returned (.tuple #[v0_, .int .i64 r2]) ∧ Kd.R k42 42 w' w.heap.size (fun _ => True) v0_ r1 ∧ Below w.heap.size w w' := by
  have hu42 := Try.underlying42
  have HR1 := Aside0.mk hr1
  have HC1 := Aside0.mk hc1
  clear hr1 hc1
  have HB := Aside0.mk (Below.refl w.heap.size w)
  have H : (if (l1.length : Int) > (wrap64 (64 - a0)) then (some (([] : List (S42)), 4)) else (rowlockref22_At.l0 k a0 l1 ([] : List (S42)) 0)) = some (r1, r2) := h
  clear h
  by_cases c3 : (l1.length : Int) > (wrap64 (64 - a0))
  · rw [if_pos c3] at H
    have c3b0 : decide ((wrap64 (64 - a0)) < (l1.length : Int)) = true := decide_eq_true c3
    clear c3
    simp only [Option.some.injEq, Prod.mk.injEq] at H
    obtain ⟨rfl, rfl⟩ := H
    go_enter Try.func57, Try.ntmps57
    go_wp2
    go_ret2
    exact ⟨_, by first | rfl | (simp [errW_none, errW_some] <;> rfl) | (simp [*, errW_none, errW_some] <;> rfl), by first | exact Kd.R_nil _ _ _ _ _ | exact Kd.N_nil _ _ _ _ _ | exact Kd.V_nil _ _ _ _ _ | exact Kd.Q_nil _ _ _ _ _ | exact Kd.S_nil _ _ _ _ _, by repeat (first | (with_reducible first | exact HB.out | apply below_alloc | apply pw_below_drewN | apply below_drew1) | exact HB.out)⟩
  · rw [if_neg c3] at H
    have c3b0 : decide ((wrap64 (64 - a0)) < (l1.length : Int)) = false := decide_eq_false c3
    clear c3
    have H' := Aside0.mk H
    clear H
    go_enter Try.func57, Try.ntmps57
    go_wp2
    go_loopg [6, 7] k (fun kq v6 v7 w' => ∃ (x6_1 : List (S42)) (x7_1 : Int), v7 = .int .i64 x7_1 ∧ Aside0 (rowlockref22_At.l0 kq a0 l1 x6_1 x7_1 = some (r1, r2)) ∧ Aside0 (kq ≤ k) ∧ Aside0 (Kd.R k42 42 w' w.heap.size (fun _ => True) v6 x6_1) ∧ Aside0 (Below w.heap.size w w'))
    case atStart => exact ⟨(([] : List (S42))), (0), (by first | rfl | (simp; done) | (simp [*]; done)), H', ⟨Nat.le_refl _⟩, ⟨by first | exact Kd.R_nil _ _ _ _ _ | exact Kd.N_nil _ _ _ _ _ | exact Kd.V_nil _ _ _ _ _ | exact Kd.Q_nil _ _ _ _ _ | exact Kd.S_nil _ _ _ _ _⟩, ⟨by repeat (first | (with_reducible first | exact HB.out | apply below_alloc | apply pw_below_drewN | apply below_drew1) | exact HB.out)⟩⟩
    case round =>
      clear H'
      try clear c1
      try clear p2
      try clear c3
      try clear c3b0
      obtain ⟨x6_1, x7_1, rfl, HA, HK1, HO_6, HB⟩ := hrel
      cases gk with
      | zero => exact absurd HA.out (by simp [rowlockref22_At.l0])
      | succ k1 =>
        have H := HA.out
        clear HA
        simp only [rowlockref22_At.l0] at H
        by_cases c4 : x7_1 < (l1.length : Int)
        · rw [if_pos c4] at H
          have c4b0 : decide (x7_1 < (l1.length : Int)) = true := decide_eq_true c4
          clear c4
          by_cases c5 : 0 ≤ x7_1
          · rw [if_pos c5] at H
            have c5b0 : decide (0 ≤ x7_1) = true := decide_eq_true c5
            clear c5
            replace H := Option.bind_eq_some_iff.mp H
            obtain ⟨t103, A60, H⟩ := H
            replace H : (if t103 = true then (if x6_1.length < 5864062014805 then (rowlockref22_At.l0 k1 a0 l1 (x6_1 ++ [(⟨(rd_T42 l1 x7_1).f0, wrap64 (((rd_T42 l1 x7_1).f1) + a0), (rd_T42 l1 x7_1).f2⟩ : S42)]) (wrap64 (x7_1 + 1))) else (none)) else (if x6_1.length < 5864062014805 then (rowlockref22_At.l0 k1 a0 l1 (x6_1 ++ [(⟨(rd_T42 l1 x7_1).f0, (rd_T42 l1 x7_1).f1, (rd_T42 l1 x7_1).f2⟩ : S42)]) (wrap64 (x7_1 + 1))) else (none))) = some (r1, r2) := H
            have A6 := Aside0.mk A60
            clear A60
            by_cases c7 : t103 = true
            · subst c7
              have H1 : (if x6_1.length < 5864062014805 then (rowlockref22_At.l0 k1 a0 l1 (x6_1 ++ [(⟨(rd_T42 l1 x7_1).f0, wrap64 (((rd_T42 l1 x7_1).f1) + a0), (rd_T42 l1 x7_1).f2⟩ : S42)]) (wrap64 (x7_1 + 1))) else (none)) = some (r1, r2) := by rw [if_pos rfl] at H; exact H
              clear H
              have H := H1
              clear H1
              by_cases c8 : x6_1.length < 5864062014805
              · rw [if_pos c8] at H
                have LMc8 := Aside0.mk c8
                clear c8
                obtain ⟨y104, hy104⟩ : ∃ y_ : List (S42), y_ = (x6_1 ++ [(⟨(rd_T42 l1 x7_1).f0, wrap64 (((rd_T42 l1 x7_1).f1) + a0), (rd_T42 l1 x7_1).f2⟩ : S42)]) := ⟨_, rfl⟩
                replace H : (rowlockref22_At.l0 k1 a0 l1 y104 (wrap64 (x7_1 + 1))) = some (r1, r2) := by first | (rw [hy104]; with_reducible exact H) | (have H2_ := (Option.bind_some _ _).symm.trans H; rw [hy104]; with_reducible exact H2_) | (have H2_ := (Option.bind_some _ _).symm.trans H; with_reducible exact H2_) | with_reducible exact H | (rw [hy104]; exact H) | exact H
                have Ny104 := Aside0.mk hy104
                clear hy104
                have H' := Aside0.mk H
                clear H
                have p101 : 0 ≤ (x7_1 : Int) := of_decide_eq_true (by first | (with_reducible assumption) | assumption)
                have q101 : x7_1 < (l1.length : Int) := of_decide_eq_true (by first | (with_reducible assumption) | assumption)
                obtain ⟨ad101, e101, hx101_0, hx101_1, hx101_2⟩ := at_T42 HR1.out x7_1 p101 q101
                cases e101
                replace hx101_0 := (HB.out.cell (World.block_lt_of_cell? w _ hx101_0)).trans hx101_0
                replace hx101_1 := (HB.out.cell (World.block_lt_of_cell? w _ hx101_1)).trans hx101_1
                replace hx101_2 := (HB.out.cell (World.block_lt_of_cell? w _ hx101_2)).trans hx101_2
                replace p101 := eq_true p101
                replace q101 := eq_true q101
                go_wp2_with (first | ((with_reducible refine gate_dst (N := 8) rfl ?_); refine box_event ?hg (N := 8) ?hd (cs := #[.int .u8 0, .int .i64 0, .int .u64 0]) (t := 42) ?hr ?_; (case hd => rfl); (case hg => rfl); (case hr => first | (go_simp; done) | (go_simp; rfl)); intro gb102 hg w9 hbox hb; have n0_ := Aside0.mk (Kd.R_below (Kd.R_elderB (by (with_reducible repeat (first | apply Kd.R_alloc | apply Kd.R_drewN | apply Kd.R_drew)); exact HO_6.out) gb102 (Nat.le_of_eq hg.symm)) hb); have n1_ := Aside0.mk (below_step (by repeat (first | (with_reducible first | exact HB.out | apply below_alloc | apply pw_below_drewN | apply below_drew1) | exact HB.out)) hb); have n2_ := Aside0.mk (hbox); have n3_ := Aside0.mk ((by rw [hg]; exact (below_size (by repeat (first | (with_reducible first | exact HB.out | apply below_alloc | apply pw_below_drewN | apply below_drew1) | exact HB.out))) : w.heap.size ≤ gb102)); have n4_ := Aside0.mk ((by rw [hg]; exact (below_size (by repeat (first | (with_reducible first | exact HB.out | apply below_alloc | apply pw_below_drewN | apply below_drew1) | exact HB.out))) : w.heap.size ≤ gb102)); clear HO_6; clear HB; have HO_6 := n0_; have HB := n1_; have BK102 := n2_; have GW102 := n3_; have GE102 := n4_; clear n0_ n1_ n2_ n3_ n4_; clear hb hbox hg; have hcz10_0 : w9.cell? ⟨gb102, 0, none⟩ = some (.int .u8 0) := (blk_cell BK102.out 0).trans rfl; have hcz10_1 : w9.cell? ⟨gb102, 1, none⟩ = some (.int .i64 0) := (blk_cell BK102.out 1).trans rfl; have hcz10_2 : w9.cell? ⟨gb102, 2, none⟩ = some (.int .u64 0) := (blk_cell BK102.out 2).trans rfl; have hfz10_0 := blk_frozen BK102.out 0; have hfz10_1 := blk_frozen BK102.out 1; have hfz10_2 := blk_frozen BK102.out 2) | ((with_reducible refine gate_callee (f := 97) rfl ?_); refine goesL_ (some 26) rfl rfl Try.func97 (by kernel_rfl) rfl #[.int .u8 ((rd_T42 l1 x7_1).f0)] rfl (by (try simp only [List.map_toArray, List.map_cons, List.map_nil]); first | done | rfl | (simp only [List.length_drop, List.length_take]; rfl)) ?_; (with_reducible refine (rowlockref22_place.calls ((rd_T42 l1 x7_1).f0) true _ A6.out).mono ?_); rintro e w' ⟨rfl, ⟨nd, rfl⟩⟩; refine ⟨_, rfl, ?_⟩; have hq1_ : ((((w9.setCell ⟨gb102, 0, none⟩ (.int .u8 ((rd_T42 l1 x7_1).f0))).setCell ⟨gb102, 1, none⟩ (.int .i64 ((rd_T42 l1 x7_1).f1))).setCell ⟨gb102, 2, none⟩ (.int .u64 ((rd_T42 l1 x7_1).f2))).drewN nd).cell? ⟨gb102, 1, none⟩ = some (.int .i64 ((rd_T42 l1 x7_1).f1)) := (blk_cell (cs := #[.int .u8 ((rd_T42 l1 x7_1).f0), .int .i64 ((rd_T42 l1 x7_1).f1), .int .u64 ((rd_T42 l1 x7_1).f2)]) (t := 42) (by refine blk_drewN ?_ _; refine blk_put (cs := #[.int .u8 ((rd_T42 l1 x7_1).f0), .int .i64 ((rd_T42 l1 x7_1).f1), .int .u64 0]) ?_ 2 _ rfl; refine blk_put (cs := #[.int .u8 ((rd_T42 l1 x7_1).f0), .int .i64 0, .int .u64 0]) ?_ 1 _ rfl; refine blk_put (cs := #[.int .u8 0, .int .i64 0, .int .u64 0]) ?_ 0 _ rfl; exact BK102.out) 1).trans rfl) | ((with_reducible refine gate_builtin (b := .append) (xs := #[.tmp 32, .tmp 34]) rfl ?_); at_builtin; refine Kd.R_append k42 (w0 := w) w.heap.size rfl (.tmp 32) (.tmp 34) 22 42 (.agg #[(.int .u8 0), (.int .i64 0), (.int .u64 0)]) 24 rfl Try.underlying22 info42 rfl (by decide) (by omega) u6 x6_1 (⟨(rd_T42 l1 x7_1).f0, wrap64 (((rd_T42 l1 x7_1).f1) + a0), (rd_T42 l1 x7_1).f2⟩ : S42) [.int .u8 ((rd_T42 l1 x7_1).f0), .int .i64 (wrap64 (((rd_T42 l1 x7_1).f1) + a0)), .int .u64 ((rd_T42 l1 x7_1).f2)] (fun k_ => k_ ≠ gb102) (fun _ => False) rfl (by first | (go_simp; done) | (go_simp; rfl)) ?aP (fun _ hk => hk.elim) ?aF ?aO ?aB ?aS ?aL ?_; (case aP => exact k42_mkM _ _ _ (⟨(rd_T42 l1 x7_1).f0, wrap64 (((rd_T42 l1 x7_1).f1) + a0), (rd_T42 l1 x7_1).f2⟩ : S42)); (case aB => exact (by repeat (first | (with_reducible first | exact HB.out | apply below_alloc | apply pw_below_drewN | apply below_drew1 | refine below_set ?_ GE102.out) | exact HB.out))); (case aF => exact (fun k_ hk => Kd.freshB (g := gb102) (o := .cells #[.int .u8 ((rd_T42 l1 x7_1).f0), .int .i64 (wrap64 (((rd_T42 l1 x7_1).f1) + a0)), .int .u64 ((rd_T42 l1 x7_1).f2)] 42 (0, 0)) (by (with_reducible repeat (first | refine blk_drewN ?_ _ | refine blk_drew ?_ | refine blk_alloc ?_ _)); refine blk_put (cs := #[.int .u8 ((rd_T42 l1 x7_1).f0), .int .i64 ((rd_T42 l1 x7_1).f1), .int .u64 ((rd_T42 l1 x7_1).f2)]) ?_ 1 _ rfl; (with_reducible repeat (first | refine blk_drewN ?_ _ | refine blk_drew ?_ | refine blk_alloc ?_ _)); refine blk_put (cs := #[.int .u8 ((rd_T42 l1 x7_1).f0), .int .i64 ((rd_T42 l1 x7_1).f1), .int .u64 0]) ?_ 2 _ rfl; (with_reducible repeat (first | refine blk_drewN ?_ _ | refine blk_drew ?_ | refine blk_alloc ?_ _)); refine blk_put (cs := #[.int .u8 ((rd_T42 l1 x7_1).f0), .int .i64 0, .int .u64 0]) ?_ 1 _ rfl; (with_reducible repeat (first | refine blk_drewN ?_ _ | refine blk_drew ?_ | refine blk_alloc ?_ _)); refine blk_put (cs := #[.int .u8 0, .int .i64 0, .int .u64 0]) ?_ 0 _ rfl; (with_reducible repeat (first | refine blk_drewN ?_ _ | refine blk_drew ?_ | refine blk_alloc ?_ _)); exact BK102.out) k_ hk)); (case aO => exact (by (with_reducible repeat (first | apply Kd.R_alloc | apply Kd.R_drewN | apply Kd.R_drew)); exact Kd.R_mono (Kd.R_far (p := ⟨gb102, 1, none⟩) (Kd.R_far (p := ⟨gb102, 2, none⟩) (Kd.R_far (p := ⟨gb102, 1, none⟩) (Kd.R_far (p := ⟨gb102, 0, none⟩) (Kd.R_mono HO_6.out (fun k_ hk => (⟨hk, hk.2⟩ : _ ∧ k_ ≠ gb102))) (fun _ hk => hk.2) (.int .u8 ((rd_T42 l1 x7_1).f0))) (fun _ hk => hk.2) (.int .i64 ((rd_T42 l1 x7_1).f1))) (fun _ hk => hk.2) (.int .u64 ((rd_T42 l1 x7_1).f2))) (fun _ hk => hk.2) (.int .i64 (wrap64 (((rd_T42 l1 x7_1).f1) + a0)))) (fun _ hk => hk.1.2))); (case aS => exact (below_size (by repeat (first | (with_reducible first | exact HB.out | apply below_alloc | apply pw_below_drewN | apply below_drew1 | refine below_set ?_ GE102.out) | exact HB.out)))); (case aL => have := LMc8.out; omega); intro v105 w11 ho hb hg hat; rw [← Ny104.out] at ho; have n0_ := Aside0.mk (blk_grown (g := gb102) (o := .cells #[.int .u8 ((rd_T42 l1 x7_1).f0), .int .i64 (wrap64 (((rd_T42 l1 x7_1).f1) + a0)), .int .u64 ((rd_T42 l1 x7_1).f2)] 42 (0, 0)) (by (with_reducible repeat (first | refine blk_drewN ?_ _ | refine blk_drew ?_ | refine blk_alloc ?_ _)); refine blk_put (cs := #[.int .u8 ((rd_T42 l1 x7_1).f0), .int .i64 ((rd_T42 l1 x7_1).f1), .int .u64 ((rd_T42 l1 x7_1).f2)]) ?_ 1 _ rfl; (with_reducible repeat (first | refine blk_drewN ?_ _ | refine blk_drew ?_ | refine blk_alloc ?_ _)); refine blk_put (cs := #[.int .u8 ((rd_T42 l1 x7_1).f0), .int .i64 ((rd_T42 l1 x7_1).f1), .int .u64 0]) ?_ 2 _ rfl; (with_reducible repeat (first | refine blk_drewN ?_ _ | refine blk_drew ?_ | refine blk_alloc ?_ _)); refine blk_put (cs := #[.int .u8 ((rd_T42 l1 x7_1).f0), .int .i64 0, .int .u64 0]) ?_ 1 _ rfl; (with_reducible repeat (first | refine blk_drewN ?_ _ | refine blk_drew ?_ | refine blk_alloc ?_ _)); refine blk_put (cs := #[.int .u8 0, .int .i64 0, .int .u64 0]) ?_ 0 _ rfl; (with_reducible repeat (first | refine blk_drewN ?_ _ | refine blk_drew ?_ | refine blk_alloc ?_ _)); exact BK102.out) hg (Kd.R_away HO_6.out (fun _ hk => hk.2))); have n1_ := Aside0.mk (hb); have n2_ := Aside0.mk (ho); clear BK102; clear HB; clear HO_6; have BK102 := n0_; have HB := n1_; have HO106 := n2_; clear n0_ n1_ n2_; clear ho hb hg hat))
                go_roundg k1
                case measure => have := HK1.out; omega
                case rel => exact ⟨(y104), (wrap64 (x7_1 + 1)), (by first | rfl | (simp; done) | (simp [*]; done)), H', ⟨by have := HK1.out; omega⟩, ⟨by (with_reducible repeat (first | apply Kd.R_alloc | apply Kd.R_drewN | apply Kd.R_drew)); exact Kd.R_mono HO106.out (fun _ hk => trivial)⟩, ⟨by repeat (first | (with_reducible first | exact HB.out | apply below_alloc | apply pw_below_drewN | apply below_drew1 | refine below_set ?_ GE102.out) | exact HB.out)⟩⟩
              · rw [if_neg c8] at H
                exact absurd H (by simp)
            · replace c7 := Bool.eq_false_iff.mpr c7
              subst c7
              have H1 : (if x6_1.length < 5864062014805 then (rowlockref22_At.l0 k1 a0 l1 (x6_1 ++ [(⟨(rd_T42 l1 x7_1).f0, (rd_T42 l1 x7_1).f1, (rd_T42 l1 x7_1).f2⟩ : S42)]) (wrap64 (x7_1 + 1))) else (none)) = some (r1, r2) := by rw [if_neg (show ¬ (false = true) by decide)] at H; exact H
              clear H
              have H := H1
              clear H1
              by_cases c12 : x6_1.length < 5864062014805
              · rw [if_pos c12] at H
                have LMc12 := Aside0.mk c12
                clear c12
                obtain ⟨y107, hy107⟩ : ∃ y_ : List (S42), y_ = (x6_1 ++ [(⟨(rd_T42 l1 x7_1).f0, (rd_T42 l1 x7_1).f1, (rd_T42 l1 x7_1).f2⟩ : S42)]) := ⟨_, rfl⟩
                replace H : (rowlockref22_At.l0 k1 a0 l1 y107 (wrap64 (x7_1 + 1))) = some (r1, r2) := by first | (rw [hy107]; with_reducible exact H) | (have H2_ := (Option.bind_some _ _).symm.trans H; rw [hy107]; with_reducible exact H2_) | (have H2_ := (Option.bind_some _ _).symm.trans H; with_reducible exact H2_) | with_reducible exact H | (rw [hy107]; exact H) | exact H
                have Ny107 := Aside0.mk hy107
                clear hy107
                have H' := Aside0.mk H
                clear H
                have p101 : 0 ≤ (x7_1 : Int) := of_decide_eq_true (by first | (with_reducible assumption) | assumption)
                have q101 : x7_1 < (l1.length : Int) := of_decide_eq_true (by first | (with_reducible assumption) | assumption)
                obtain ⟨ad101, e101, hx101_0, hx101_1, hx101_2⟩ := at_T42 HR1.out x7_1 p101 q101
                cases e101
                replace hx101_0 := (HB.out.cell (World.block_lt_of_cell? w _ hx101_0)).trans hx101_0
                replace hx101_1 := (HB.out.cell (World.block_lt_of_cell? w _ hx101_1)).trans hx101_1
                replace hx101_2 := (HB.out.cell (World.block_lt_of_cell? w _ hx101_2)).trans hx101_2
                replace p101 := eq_true p101
                replace q101 := eq_true q101
                go_wp2_with (first | ((with_reducible refine gate_dst (N := 8) rfl ?_); refine box_event ?hg (N := 8) ?hd (cs := #[.int .u8 0, .int .i64 0, .int .u64 0]) (t := 42) ?hr ?_; (case hd => rfl); (case hg => rfl); (case hr => first | (go_simp; done) | (go_simp; rfl)); intro gb102 hg w13 hbox hb; have n0_ := Aside0.mk (Kd.R_below (Kd.R_elderB (by (with_reducible repeat (first | apply Kd.R_alloc | apply Kd.R_drewN | apply Kd.R_drew)); exact HO_6.out) gb102 (Nat.le_of_eq hg.symm)) hb); have n1_ := Aside0.mk (below_step (by repeat (first | (with_reducible first | exact HB.out | apply below_alloc | apply pw_below_drewN | apply below_drew1) | exact HB.out)) hb); have n2_ := Aside0.mk (hbox); have n3_ := Aside0.mk ((by rw [hg]; exact (below_size (by repeat (first | (with_reducible first | exact HB.out | apply below_alloc | apply pw_below_drewN | apply below_drew1) | exact HB.out))) : w.heap.size ≤ gb102)); have n4_ := Aside0.mk ((by rw [hg]; exact (below_size (by repeat (first | (with_reducible first | exact HB.out | apply below_alloc | apply pw_below_drewN | apply below_drew1) | exact HB.out))) : w.heap.size ≤ gb102)); clear HO_6; clear HB; have HO_6 := n0_; have HB := n1_; have BK102 := n2_; have GW102 := n3_; have GE102 := n4_; clear n0_ n1_ n2_ n3_ n4_; clear hb hbox hg; have hcz14_0 : w13.cell? ⟨gb102, 0, none⟩ = some (.int .u8 0) := (blk_cell BK102.out 0).trans rfl; have hcz14_1 : w13.cell? ⟨gb102, 1, none⟩ = some (.int .i64 0) := (blk_cell BK102.out 1).trans rfl; have hcz14_2 : w13.cell? ⟨gb102, 2, none⟩ = some (.int .u64 0) := (blk_cell BK102.out 2).trans rfl; have hfz14_0 := blk_frozen BK102.out 0; have hfz14_1 := blk_frozen BK102.out 1; have hfz14_2 := blk_frozen BK102.out 2) | ((with_reducible refine gate_callee (f := 97) rfl ?_); refine goesL_ (some 26) rfl rfl Try.func97 (by kernel_rfl) rfl #[.int .u8 ((rd_T42 l1 x7_1).f0)] rfl (by (try simp only [List.map_toArray, List.map_cons, List.map_nil]); first | done | rfl | (simp only [List.length_drop, List.length_take]; rfl)) ?_; (with_reducible refine (rowlockref22_place.calls ((rd_T42 l1 x7_1).f0) false _ A6.out).mono ?_); rintro e w' ⟨rfl, ⟨nd, rfl⟩⟩; refine ⟨_, rfl, ?_⟩) | ((with_reducible refine gate_builtin (b := .append) (xs := #[.tmp 32, .tmp 34]) rfl ?_); at_builtin; refine Kd.R_append k42 (w0 := w) w.heap.size rfl (.tmp 32) (.tmp 34) 22 42 (.agg #[(.int .u8 0), (.int .i64 0), (.int .u64 0)]) 24 rfl Try.underlying22 info42 rfl (by decide) (by omega) u6 x6_1 (⟨(rd_T42 l1 x7_1).f0, (rd_T42 l1 x7_1).f1, (rd_T42 l1 x7_1).f2⟩ : S42) [.int .u8 ((rd_T42 l1 x7_1).f0), .int .i64 ((rd_T42 l1 x7_1).f1), .int .u64 ((rd_T42 l1 x7_1).f2)] (fun k_ => k_ ≠ gb102) (fun _ => False) rfl (by first | (go_simp; done) | (go_simp; rfl)) ?aP (fun _ hk => hk.elim) ?aF ?aO ?aB ?aS ?aL ?_; (case aP => exact k42_mkM _ _ _ (⟨(rd_T42 l1 x7_1).f0, (rd_T42 l1 x7_1).f1, (rd_T42 l1 x7_1).f2⟩ : S42)); (case aB => exact (by repeat (first | (with_reducible first | exact HB.out | apply below_alloc | apply pw_below_drewN | apply below_drew1 | refine below_set ?_ GE102.out) | exact HB.out))); (case aF => exact (fun k_ hk => Kd.freshB (g := gb102) (o := .cells #[.int .u8 ((rd_T42 l1 x7_1).f0), .int .i64 ((rd_T42 l1 x7_1).f1), .int .u64 ((rd_T42 l1 x7_1).f2)] 42 (0, 0)) (by (with_reducible repeat (first | refine blk_drewN ?_ _ | refine blk_drew ?_ | refine blk_alloc ?_ _)); refine blk_put (cs := #[.int .u8 ((rd_T42 l1 x7_1).f0), .int .i64 ((rd_T42 l1 x7_1).f1), .int .u64 0]) ?_ 2 _ rfl; (with_reducible repeat (first | refine blk_drewN ?_ _ | refine blk_drew ?_ | refine blk_alloc ?_ _)); refine blk_put (cs := #[.int .u8 ((rd_T42 l1 x7_1).f0), .int .i64 0, .int .u64 0]) ?_ 1 _ rfl; (with_reducible repeat (first | refine blk_drewN ?_ _ | refine blk_drew ?_ | refine blk_alloc ?_ _)); refine blk_put (cs := #[.int .u8 0, .int .i64 0, .int .u64 0]) ?_ 0 _ rfl; (with_reducible repeat (first | refine blk_drewN ?_ _ | refine blk_drew ?_ | refine blk_alloc ?_ _)); exact BK102.out) k_ hk)); (case aO => exact (by (with_reducible repeat (first | apply Kd.R_alloc | apply Kd.R_drewN | apply Kd.R_drew)); exact Kd.R_mono (Kd.R_far (p := ⟨gb102, 2, none⟩) (Kd.R_far (p := ⟨gb102, 1, none⟩) (Kd.R_far (p := ⟨gb102, 0, none⟩) (Kd.R_mono HO_6.out (fun k_ hk => (⟨hk, hk.2⟩ : _ ∧ k_ ≠ gb102))) (fun _ hk => hk.2) (.int .u8 ((rd_T42 l1 x7_1).f0))) (fun _ hk => hk.2) (.int .i64 ((rd_T42 l1 x7_1).f1))) (fun _ hk => hk.2) (.int .u64 ((rd_T42 l1 x7_1).f2))) (fun _ hk => hk.1.2))); (case aS => exact (below_size (by repeat (first | (with_reducible first | exact HB.out | apply below_alloc | apply pw_below_drewN | apply below_drew1 | refine below_set ?_ GE102.out) | exact HB.out)))); (case aL => have := LMc12.out; omega); intro v108 w15 ho hb hg hat; rw [← Ny107.out] at ho; have n0_ := Aside0.mk (blk_grown (g := gb102) (o := .cells #[.int .u8 ((rd_T42 l1 x7_1).f0), .int .i64 ((rd_T42 l1 x7_1).f1), .int .u64 ((rd_T42 l1 x7_1).f2)] 42 (0, 0)) (by (with_reducible repeat (first | refine blk_drewN ?_ _ | refine blk_drew ?_ | refine blk_alloc ?_ _)); refine blk_put (cs := #[.int .u8 ((rd_T42 l1 x7_1).f0), .int .i64 ((rd_T42 l1 x7_1).f1), .int .u64 0]) ?_ 2 _ rfl; (with_reducible repeat (first | refine blk_drewN ?_ _ | refine blk_drew ?_ | refine blk_alloc ?_ _)); refine blk_put (cs := #[.int .u8 ((rd_T42 l1 x7_1).f0), .int .i64 0, .int .u64 0]) ?_ 1 _ rfl; (with_reducible repeat (first | refine blk_drewN ?_ _ | refine blk_drew ?_ | refine blk_alloc ?_ _)); refine blk_put (cs := #[.int .u8 0, .int .i64 0, .int .u64 0]) ?_ 0 _ rfl; (with_reducible repeat (first | refine blk_drewN ?_ _ | refine blk_drew ?_ | refine blk_alloc ?_ _)); exact BK102.out) hg (Kd.R_away HO_6.out (fun _ hk => hk.2))); have n1_ := Aside0.mk (hb); have n2_ := Aside0.mk (ho); clear BK102; clear HB; clear HO_6; have BK102 := n0_; have HB := n1_; have HO109 := n2_; clear n0_ n1_ n2_; clear ho hb hg hat))
                go_roundg k1
                case measure => have := HK1.out; omega
                case rel => exact ⟨(y107), (wrap64 (x7_1 + 1)), (by first | rfl | (simp; done) | (simp [*]; done)), H', ⟨by have := HK1.out; omega⟩, ⟨by (with_reducible repeat (first | apply Kd.R_alloc | apply Kd.R_drewN | apply Kd.R_drew)); exact Kd.R_mono HO109.out (fun _ hk => trivial)⟩, ⟨by repeat (first | (with_reducible first | exact HB.out | apply below_alloc | apply pw_below_drewN | apply below_drew1 | refine below_set ?_ GE102.out) | exact HB.out)⟩⟩
              · rw [if_neg c12] at H
                exact absurd H (by simp)
          · rw [if_neg c5] at H
            exact absurd H (by simp)
        · rw [if_neg c4] at H
          have c4b0 : decide (x7_1 < (l1.length : Int)) = false := decide_eq_false c4
          clear c4
          simp only [Option.some.injEq, Prod.mk.injEq] at H
          obtain ⟨rfl, rfl⟩ := H
          go_wp2
          go_ret2
          exact ⟨_, by first | rfl | (simp [errW_none, errW_some] <;> rfl) | (simp [*, errW_none, errW_some] <;> rfl), by (with_reducible repeat (first | apply Kd.R_alloc | apply Kd.R_drewN | apply Kd.R_drew)); exact HO_6.out, by repeat (first | (with_reducible first | exact HB.out | apply below_alloc | apply pw_below_drewN | apply below_drew1) | exact HB.out)⟩

/-! ### locks_block: function 52 -/
def locks_block.dom (a0 : Int) (l1 : List (S42)) : Bool := decide (0 ≤ a0 ∧ a0 ≤ 64 ∧ 0 < l1.length ∧ l1.length ≤ 64) && l1.all (fun x => decide (0 ≤ x.f0 ∧ x.f0 ≤ 255 ∧ 0 ≤ x.f1 ∧ x.f1 ≤ 1000))
def locks_block.f (a0 : Int) (l1 : List (S42)) : Option ((List (S42)) × Int) :=
  if locks_block.dom a0 l1 = true then (if 64 < a0 + (l1.length : Int) then some ([], 4) else some (l1.map (fun x => if jumpB x.f0 = true then (⟨x.f0, x.f1 + a0, x.f2⟩ : S42) else x), 0)) else none

def locks_block.tri (l : List (S42)) : List (Int × Int × Int) := l.map fun x => (x.f0, x.f1, x.f2)
theorem locks_block.cells {w : World} {ad : Addr} {l : List (S42)} (hc : ∀ j p, l[j]? = some p → ∃ c, c.length = k42.sz ∧ k42.K w p c ∧ ∀ i u, c[i]? = some u → w.cell? (ad.add (j * k42.sz + i)) = some u) :
    ∀ j u, (insC (locks_block.tri l))[j]? = some u → w.cell? (ad.add j) = some u := by
  intro j u hj
  have hlen := insC_len (locks_block.tri l)
  have hlt : j < l.length * 3 := by
    have := (List.getElem?_eq_some_iff.1 hj).1
    rw [hlen] at this
    simpa [locks_block.tri] using this
  have hq : j / 3 < l.length := by omega
  obtain ⟨c, _, hk, hcell⟩ := hc (j / 3) l[j / 3] (List.getElem?_eq_getElem hq)
  have hk' := k42_open hk
  subst hk'
  have hx : (locks_block.tri l)[j / 3]? = some (l[j / 3].f0, l[j / 3].f1, l[j / 3].f2) := by simp [locks_block.tri, hq]
  obtain ⟨i0, i1, i2⟩ := insC_at _ _ _ hx
  have hm : j % 3 = 0 ∨ j % 3 = 1 ∨ j % 3 = 2 := by omega
  have hsz : k42.sz = 3 := rfl
  rw [hsz] at hcell
  rcases hm with m | m | m
  · have e : j = j / 3 * 3 := by omega
    rw [e, i0] at hj
    rw [e]
    exact hcell 0 u (by simpa using hj)
  · have e : j = j / 3 * 3 + 1 := by omega
    rw [e, i1] at hj
    rw [e]
    exact hcell 1 u (by simpa using hj)
  · have e : j = j / 3 * 3 + 2 := by omega
    rw [e, i2] at hj
    rw [e]
    exact hcell 2 u (by simpa using hj)
theorem locks_block.own {w : World} {base : Nat} {v : Value} {l : List (S42)} (h : w.ownsRow base 42 3 v l.length (insC (locks_block.tri l))) : Kd.R k42 42 w base (fun _ => True) v l := by
  refine ⟨fun _ _ => trivial, _, h, ?_, ?_⟩
  · rw [insC_len]; simp [locks_block.tri]; rfl
  · intro j p hp
    have hx : (locks_block.tri l)[j]? = some (p.f0, p.f1, p.f2) := by simp [locks_block.tri, hp]
    obtain ⟨i0, i1, i2⟩ := insC_at _ _ _ hx
    have e : ((insC (locks_block.tri l)).drop (j * 3)).take 3 = [.int .u8 p.f0, .int .i64 p.f1, .int .u64 p.f2] := by
      apply List.ext_getElem?
      intro i
      rw [List.getElem?_take]
      by_cases hi : i < 3
      · rw [if_pos hi, List.getElem?_drop]
        have hi' : i = 0 ∨ i = 1 ∨ i = 2 := by omega
        rcases hi' with rfl | rfl | rfl
        · rw [Nat.add_zero, i0]; rfl
        · rw [i1]; rfl
        · rw [i2]; rfl
      · rw [if_neg hi, List.getElem?_eq_none (by simp; omega)]
    show k42.M _ _ _ p (((insC (locks_block.tri l)).drop (j * 3)).take 3)
    rw [e]
    exact k42_mkM _ _ _ p
set_option maxHeartbeats 8000000 in
set_option maxRecDepth 100000 in
theorem locks_block.calls (a0 : Int) (A1 : Option Addr) (c1 : Nat) (l1 : List (S42)) (r1 : List (S42)) (r2 : Int) (w : World) (hr1 : Kd.C k42 w A1 l1.length l1) (hc1 : l1.length ≤ c1) (h : locks_block.f a0 l1 = some (r1, r2)) :
    Calls Try.prog 52 #[.int .i64 a0, .slice A1 l1.length c1] w fun e w' => ∃ v0_ : Value, e = .returned (.tuple #[v0_, .int .i64 r2]) ∧ Kd.R k42 42 w' w.heap.size (fun _ => True) v0_ r1 ∧ Below w.heap.size w w' := by
  unfold locks_block.f at h
  split at h
  · rename_i hd
    unfold locks_block.dom at hd
    simp only [Bool.and_eq_true, decide_eq_true_eq, List.all_eq_true] at hd
    obtain ⟨⟨d0, d1, d2, d3⟩, d4⟩ := hd
    obtain ⟨_, _, hr⟩ := hr1
    obtain ⟨ad, rfl, hcs⟩ := hr d2
    have hcell := locks_block.cells hcs
    obtain ⟨b, off, spot⟩ := ad
    have hspot : spot = none := by
      cases spot with
      | none => rfl
      | some sp =>
        exfalso
        have hx : (locks_block.tri l1)[0]? = some (l1[0].f0, l1[0].f1, l1[0].f2) := by simp [locks_block.tri, d2]
        have h0 := hcell 0 _ (insC_at _ 0 _ hx).1
        simp [Addr.add, World.cell?] at h0
        split at h0 <;> simp at h0
    subst hspot
    have hlen : (locks_block.tri l1).length = l1.length := by simp [locks_block.tri]
    have hb := block_any a0 d0 d1 (locks_block.tri l1) (by omega) (by omega) (by
      intro x hx
      simp only [locks_block.tri, List.mem_map] at hx
      obtain ⟨y, hy, rfl⟩ := hx
      exact d4 y hy) b off c1 w hcell
    rw [hlen] at hb
    refine hb.mono ?_
    intro e w' hp
    unfold BlockPost at hp
    rw [hlen] at hp
    split at h
    · rename_i hl
      rw [if_pos hl] at hp
      obtain ⟨rfl, rfl⟩ := Prod.mk.inj (Option.some.inj h)
      obtain ⟨rfl, hbl⟩ := hp
      exact ⟨_, rfl, Kd.R_nil _ _ _ _ _, hbl⟩
    · rename_i hl
      rw [if_neg hl] at hp
      obtain ⟨rfl, rfl⟩ := Prod.mk.inj (Option.some.inj h)
      obtain ⟨v, rfl, ho, hbl⟩ := hp
      refine ⟨v, rfl, locks_block.own ?_, hbl⟩
      have e1 : locks_block.tri (l1.map (fun x => if jumpB x.f0 = true then (⟨x.f0, x.f1 + a0, x.f2⟩ : S42) else x)) = (locks_block.tri l1).map (shiftI a0) := by
        unfold locks_block.tri
        rw [List.map_map, List.map_map]
        apply List.map_congr_left
        intro x _
        simp only [Function.comp, shiftI]
        cases jumpB x.f0 <;> rfl
      rw [e1, List.length_map]
      exact ho
  · cases h

/-! ### locks_with: function 53 -/
def locks_with.f (a0 : Int) (a1 : Int) : Option (Int × Int × Int) := some (a0, a1, 0)
set_option maxHeartbeats 8000000 in
set_option maxRecDepth 100000 in
theorem locks_with.calls (a0 : Int) (a1 : Int) (r1 : Int) (r2 : Int) (r3 : Int) (w : World) (h : locks_with.f a0 a1 = some (r1, r2, r3)) :
    Calls Try.prog 53 #[.int .u8 a0, .int .i64 a1] w fun e w' => e = .returned (.agg #[.int .u8 r1, .int .i64 r2, .int .u64 r3]) ∧ Below w.heap.size w w' := by
  have hu42 := Try.underlying42
  have HB := Aside0.mk (Below.refl w.heap.size w)
  have H : (some (a0, a1, 0)) = some (r1, r2, r3) := h
  clear h
  simp only [Option.some.injEq, Prod.mk.injEq] at H
  obtain ⟨rfl, rfl, rfl⟩ := H
  go_enter Try.func53, Try.ntmps53
  go_wp2_with (first | ((with_reducible refine gate_dst (N := 4) rfl ?_); refine box_event ?hg (N := 4) ?hd (cs := #[.int .u8 0, .int .i64 0, .int .u64 0]) (t := 42) ?hr ?_; (case hd => rfl); (case hg => rfl); (case hr => first | (go_simp; done) | (go_simp; rfl)); intro gb119 hg w3 hbox hb; have n0_ := Aside0.mk (below_step (by repeat (first | (with_reducible first | exact HB.out | apply below_alloc | apply pw_below_drewN | apply below_drew1) | exact HB.out)) hb); have n1_ := Aside0.mk (hbox); have n2_ := Aside0.mk ((by rw [hg]; exact (below_size (by repeat (first | (with_reducible first | exact HB.out | apply below_alloc | apply pw_below_drewN | apply below_drew1) | exact HB.out))) : w.heap.size ≤ gb119)); have n3_ := Aside0.mk ((by rw [hg]; exact (below_size (by repeat (first | (with_reducible first | exact HB.out | apply below_alloc | apply pw_below_drewN | apply below_drew1) | exact HB.out))) : w.heap.size ≤ gb119)); clear HB; have HB := n0_; have BK119 := n1_; have GW119 := n2_; have GE119 := n3_; clear n0_ n1_ n2_ n3_; clear hb hbox hg; have hcz4_0 : w3.cell? ⟨gb119, 0, none⟩ = some (.int .u8 0) := (blk_cell BK119.out 0).trans rfl; have hcz4_1 : w3.cell? ⟨gb119, 1, none⟩ = some (.int .i64 0) := (blk_cell BK119.out 1).trans rfl; have hcz4_2 : w3.cell? ⟨gb119, 2, none⟩ = some (.int .u64 0) := (blk_cell BK119.out 2).trans rfl; have hfz4_0 := blk_frozen BK119.out 0; have hfz4_1 := blk_frozen BK119.out 1; have hfz4_2 := blk_frozen BK119.out 2))
  refine bodyPost_ret (results_cell_row rfl _ _ gb119 42 #[.int .u8 a0, .int .i64 a1, .int .u64 0] (0, 0) _ rfl (by (with_reducible repeat (first | refine blk_drewN ?_ _ | refine blk_drew ?_ | refine blk_alloc ?_ _)); refine blk_put (cs := #[.int .u8 a0, .int .i64 a1, .int .u64 0]) ?_ 2 _ rfl; (with_reducible repeat (first | refine blk_drewN ?_ _ | refine blk_drew ?_ | refine blk_alloc ?_ _)); refine blk_put (cs := #[.int .u8 a0, .int .i64 0, .int .u64 0]) ?_ 1 _ rfl; (with_reducible repeat (first | refine blk_drewN ?_ _ | refine blk_drew ?_ | refine blk_alloc ?_ _)); refine blk_put (cs := #[.int .u8 0, .int .i64 0, .int .u64 0]) ?_ 0 _ rfl; (with_reducible repeat (first | refine blk_drewN ?_ _ | refine blk_drew ?_ | refine blk_alloc ?_ _)); exact BK119.out) Try.underlying42 rfl (by kernel_rfl)) rfl ?_
  exact ⟨by first | rfl | (simp [errW_none, errW_some] <;> rfl) | (simp [*, errW_none, errW_some] <;> rfl), by repeat (first | (with_reducible first | exact HB.out | apply below_alloc | apply pw_below_drewN | apply below_drew1 | refine below_set ?_ GE119.out) | exact HB.out)⟩

/-! ### locks_op: function 54 -/
def locks_op.f (a0 : Int) : Option (Int × Int × Int) := some (a0, 0, 0)
set_option maxHeartbeats 8000000 in
set_option maxRecDepth 100000 in
theorem locks_op.calls (a0 : Int) (r1 : Int) (r2 : Int) (r3 : Int) (w : World) (h : locks_op.f a0 = some (r1, r2, r3)) :
    Calls Try.prog 54 #[.int .u8 a0] w fun e w' => e = .returned (.agg #[.int .u8 r1, .int .i64 r2, .int .u64 r3]) ∧ Below w.heap.size w w' := by
  have hu42 := Try.underlying42
  have HB := Aside0.mk (Below.refl w.heap.size w)
  have H : (some (a0, 0, 0)) = some (r1, r2, r3) := h
  clear h
  simp only [Option.some.injEq, Prod.mk.injEq] at H
  obtain ⟨rfl, rfl, rfl⟩ := H
  go_enter Try.func54, Try.ntmps54
  go_wp2_with (first | ((with_reducible refine gate_dst (N := 2) rfl ?_); refine box_event ?hg (N := 2) ?hd (cs := #[.int .u8 0, .int .i64 0, .int .u64 0]) (t := 42) ?hr ?_; (case hd => rfl); (case hg => rfl); (case hr => first | (go_simp; done) | (go_simp; rfl)); intro gb120 hg w2 hbox hb; have n0_ := Aside0.mk (below_step (by repeat (first | (with_reducible first | exact HB.out | apply below_alloc | apply pw_below_drewN | apply below_drew1) | exact HB.out)) hb); have n1_ := Aside0.mk (hbox); have n2_ := Aside0.mk ((by rw [hg]; exact (below_size (by repeat (first | (with_reducible first | exact HB.out | apply below_alloc | apply pw_below_drewN | apply below_drew1) | exact HB.out))) : w.heap.size ≤ gb120)); have n3_ := Aside0.mk ((by rw [hg]; exact (below_size (by repeat (first | (with_reducible first | exact HB.out | apply below_alloc | apply pw_below_drewN | apply below_drew1) | exact HB.out))) : w.heap.size ≤ gb120)); clear HB; have HB := n0_; have BK120 := n1_; have GW120 := n2_; have GE120 := n3_; clear n0_ n1_ n2_ n3_; clear hb hbox hg; have hcz3_0 : w2.cell? ⟨gb120, 0, none⟩ = some (.int .u8 0) := (blk_cell BK120.out 0).trans rfl; have hcz3_1 : w2.cell? ⟨gb120, 1, none⟩ = some (.int .i64 0) := (blk_cell BK120.out 1).trans rfl; have hcz3_2 : w2.cell? ⟨gb120, 2, none⟩ = some (.int .u64 0) := (blk_cell BK120.out 2).trans rfl; have hfz3_0 := blk_frozen BK120.out 0; have hfz3_1 := blk_frozen BK120.out 1; have hfz3_2 := blk_frozen BK120.out 2))
  refine bodyPost_ret (results_cell_row rfl _ _ gb120 42 #[.int .u8 a0, .int .i64 0, .int .u64 0] (0, 0) _ rfl (by (with_reducible repeat (first | refine blk_drewN ?_ _ | refine blk_drew ?_ | refine blk_alloc ?_ _)); refine blk_put (cs := #[.int .u8 a0, .int .i64 0, .int .u64 0]) ?_ 2 _ rfl; (with_reducible repeat (first | refine blk_drewN ?_ _ | refine blk_drew ?_ | refine blk_alloc ?_ _)); refine blk_put (cs := #[.int .u8 a0, .int .i64 0, .int .u64 0]) ?_ 1 _ rfl; (with_reducible repeat (first | refine blk_drewN ?_ _ | refine blk_drew ?_ | refine blk_alloc ?_ _)); refine blk_put (cs := #[.int .u8 0, .int .i64 0, .int .u64 0]) ?_ 0 _ rfl; (with_reducible repeat (first | refine blk_drewN ?_ _ | refine blk_drew ?_ | refine blk_alloc ?_ _)); exact BK120.out) Try.underlying42 rfl (by kernel_rfl)) rfl ?_
  exact ⟨by first | rfl | (simp [errW_none, errW_some] <;> rfl) | (simp [*, errW_none, errW_some] <;> rfl), by repeat (first | (with_reducible first | exact HB.out | apply below_alloc | apply pw_below_drewN | apply below_drew1 | refine below_set ?_ GE120.out) | exact HB.out)⟩

/-! ### value_Int: function 90 -/
def value_Int.f (a0 : Int) : Option (Int × Bool) := some (intV a0, intOk a0)


set_option maxHeartbeats 8000000 in
set_option maxRecDepth 100000 in
theorem value_Int.calls (a0 : Int) (r1 : Int) (r2 : Bool) (w : World) (h : value_Int.f a0 = some (r1, r2)) :
    Calls Try.prog 90 #[.int .i64 a0] w fun e w' => e = .returned (.tuple #[.int .u64 r1, .bool r2]) ∧ Drawn0 w w' := by
  unfold value_Int.f at h
  obtain ⟨rfl, rfl⟩ := Prod.mk.inj (Option.some.inj h)
  refine (int_any a0  w).mono ?_
  rintro e w' ⟨rfl, rfl⟩
  exact ⟨rfl, Drawn0.refl _⟩

/-! ### locks_number: function 55 -/
def locks_number.f (a0 : Int) : Option (Int × Int × Int) := (value_Int.f a0).bind fun bt122 => (some (1, 0, bt122.1))
set_option maxHeartbeats 8000000 in
set_option maxRecDepth 100000 in
theorem locks_number.calls (a0 : Int) (r1 : Int) (r2 : Int) (r3 : Int) (w : World) (h : locks_number.f a0 = some (r1, r2, r3)) :
    Calls Try.prog 55 #[.int .i64 a0] w fun e w' => e = .returned (.agg #[.int .u8 r1, .int .i64 r2, .int .u64 r3]) ∧ Below w.heap.size w w' := by
  have hu42 := Try.underlying42
  have HB := Aside0.mk (Below.refl w.heap.size w)
  have H : ((value_Int.f a0).bind fun bt122 => (some (1, 0, bt122.1))) = some (r1, r2, r3) := h
  clear h
  replace H := Option.bind_eq_some_iff.mp H
  obtain ⟨⟨t122, t123⟩, A20, H⟩ := H
  replace H : (some (1, 0, t122)) = some (r1, r2, r3) := H
  have A2 := Aside0.mk A20
  clear A20
  simp only [Option.some.injEq, Prod.mk.injEq] at H
  obtain ⟨rfl, rfl, rfl⟩ := H
  go_enter Try.func55, Try.ntmps55
  go_wp2_with (first | ((with_reducible refine gate_dst (N := 2) rfl ?_); refine box_event ?hg (N := 2) ?hd (cs := #[.int .u8 0, .int .i64 0, .int .u64 0]) (t := 42) ?hr ?_; (case hd => rfl); (case hg => rfl); (case hr => first | (go_simp; done) | (go_simp; rfl)); intro gb121 hg w3 hbox hb; have n0_ := Aside0.mk (below_step (by repeat (first | (with_reducible first | exact HB.out | apply below_alloc | apply pw_below_drewN | apply below_drew1) | exact HB.out)) hb); have n1_ := Aside0.mk (hbox); have n2_ := Aside0.mk ((by rw [hg]; exact (below_size (by repeat (first | (with_reducible first | exact HB.out | apply below_alloc | apply pw_below_drewN | apply below_drew1) | exact HB.out))) : w.heap.size ≤ gb121)); have n3_ := Aside0.mk ((by rw [hg]; exact (below_size (by repeat (first | (with_reducible first | exact HB.out | apply below_alloc | apply pw_below_drewN | apply below_drew1) | exact HB.out))) : w.heap.size ≤ gb121)); clear HB; have HB := n0_; have BK121 := n1_; have GW121 := n2_; have GE121 := n3_; clear n0_ n1_ n2_ n3_; clear hb hbox hg) | ((with_reducible refine gate_callee (f := 90) rfl ?_); refine goesL_ (some 7) rfl rfl Try.func90 (by kernel_rfl) rfl #[.int .i64 a0] rfl (by (try simp only [List.map_toArray, List.map_cons, List.map_nil]); first | done | rfl | (simp only [List.length_drop, List.length_take]; rfl)) ?_; (with_reducible refine (value_Int.calls a0 t122 t123 _ A2.out).mono ?_); rintro e w' ⟨rfl, ⟨nd, rfl⟩⟩; refine ⟨_, rfl, ?_⟩; (try (rw [drewN_self w3]; generalize hq_ : World.drewN w3 _ = w3; have n0_ : Aside0 (w3.heap[gb121]? = some (.cells #[.int .u8 0, .int .i64 0, .int .u64 0] 42 (0, 0))) := ⟨by rw [← hq_]; exact (by (with_reducible repeat (first | refine blk_drewN ?_ _ | refine blk_drew ?_ | refine blk_alloc ?_ _)); exact BK121.out)⟩; have n1_ : Aside0 (Below w.heap.size w w3) := ⟨by rw [← hq_]; exact (by repeat (first | (with_reducible first | exact HB.out | apply below_alloc | apply pw_below_drewN | apply below_drew1 | refine below_set ?_ GE121.out) | exact HB.out))⟩; clear BK121 HB hq_; have BK121 := n0_; have HB := n1_; clear n0_ n1_)); have hcz4_0 : w3.cell? ⟨gb121, 0, none⟩ = some (.int .u8 0) := (blk_cell BK121.out 0).trans rfl; have hcz4_1 : w3.cell? ⟨gb121, 1, none⟩ = some (.int .i64 0) := (blk_cell BK121.out 1).trans rfl; have hcz4_2 : w3.cell? ⟨gb121, 2, none⟩ = some (.int .u64 0) := (blk_cell BK121.out 2).trans rfl; have hfz4_0 := blk_frozen BK121.out 0; have hfz4_1 := blk_frozen BK121.out 1; have hfz4_2 := blk_frozen BK121.out 2))
  refine bodyPost_ret (results_cell_row rfl _ _ gb121 42 #[.int .u8 1, .int .i64 0, .int .u64 t122] (0, 0) _ rfl (by (with_reducible repeat (first | refine blk_drewN ?_ _ | refine blk_drew ?_ | refine blk_alloc ?_ _)); refine blk_put (cs := #[.int .u8 1, .int .i64 0, .int .u64 0]) ?_ 2 _ rfl; (with_reducible repeat (first | refine blk_drewN ?_ _ | refine blk_drew ?_ | refine blk_alloc ?_ _)); refine blk_put (cs := #[.int .u8 1, .int .i64 0, .int .u64 0]) ?_ 1 _ rfl; (with_reducible repeat (first | refine blk_drewN ?_ _ | refine blk_drew ?_ | refine blk_alloc ?_ _)); refine blk_put (cs := #[.int .u8 0, .int .i64 0, .int .u64 0]) ?_ 0 _ rfl; (with_reducible repeat (first | refine blk_drewN ?_ _ | refine blk_drew ?_ | refine blk_alloc ?_ _)); exact BK121.out) Try.underlying42 rfl (by kernel_rfl)) rfl ?_
  exact ⟨by first | rfl | (simp [errW_none, errW_some] <;> rfl) | (simp [*, errW_none, errW_some] <;> rfl), by repeat (first | (with_reducible first | exact HB.out | apply below_alloc | apply pw_below_drewN | apply below_drew1 | refine below_set ?_ GE121.out) | exact HB.out)⟩

/-! ### locks_Down: function 14 -/
def locks_Down.f (a0 : Int) (a1 : Int) : Option ((List (S42)) × Int) := (locks_may.f a0 a1 0).bind fun t124 => (if t124 = true then ((locks_with.f 21 9).bind fun bt125 => ((locks_with.f 4 a1).bind fun bt128 => ((locks_op.f 16).bind fun bt131 => ((locks_with.f 20 8).bind fun bt134 => ((locks_number.f 1).bind fun bt137 => ((locks_op.f 9).bind fun bt140 => ((locks_with.f 5 a1).bind fun bt143 => ((locks_with.f 19 9).bind fun bt146 => ((locks_op.f 26).bind fun bt149 => ((locks_op.f 22).bind fun bt152 => ((locks_block.f a0 (([(⟨bt125.1, bt125.2.1, bt125.2.2⟩ : S42), (⟨bt128.1, bt128.2.1, bt128.2.2⟩ : S42), (⟨bt131.1, bt131.2.1, bt131.2.2⟩ : S42), (⟨bt134.1, bt134.2.1, bt134.2.2⟩ : S42), (⟨bt137.1, bt137.2.1, bt137.2.2⟩ : S42), (⟨bt140.1, bt140.2.1, bt140.2.2⟩ : S42), (⟨bt143.1, bt143.2.1, bt143.2.2⟩ : S42), (⟨bt146.1, bt146.2.1, bt146.2.2⟩ : S42), (⟨bt149.1, bt149.2.1, bt149.2.2⟩ : S42), (⟨bt152.1, bt152.2.1, bt152.2.2⟩ : S42)] : List (S42)))).bind fun bt158 => (some (bt158.1, bt158.2))))))))))))) else (some (([] : List (S42)), 2)))
set_option maxHeartbeats 8000000 in
set_option maxRecDepth 100000 in
theorem locks_Down.calls (a0 : Int) (a1 : Int) (r1 : List (S42)) (r2 : Int) (w : World) (h : locks_Down.f a0 a1 = some (r1, r2)) :
    Calls Try.prog 14 #[.int .i64 a0, .int .i64 a1] w fun e w' => ∃ v0_ : Value, e = .returned (.tuple #[v0_, .int .i64 r2]) ∧ Kd.R k42 42 w' w.heap.size (fun _ => True) v0_ r1 ∧ Below w.heap.size w w' := by
  have HB := Aside0.mk (Below.refl w.heap.size w)
  have H : ((locks_may.f a0 a1 0).bind fun t124 => (if t124 = true then ((locks_with.f 21 9).bind fun bt125 => ((locks_with.f 4 a1).bind fun bt128 => ((locks_op.f 16).bind fun bt131 => ((locks_with.f 20 8).bind fun bt134 => ((locks_number.f 1).bind fun bt137 => ((locks_op.f 9).bind fun bt140 => ((locks_with.f 5 a1).bind fun bt143 => ((locks_with.f 19 9).bind fun bt146 => ((locks_op.f 26).bind fun bt149 => ((locks_op.f 22).bind fun bt152 => ((locks_block.f a0 (([(⟨bt125.1, bt125.2.1, bt125.2.2⟩ : S42), (⟨bt128.1, bt128.2.1, bt128.2.2⟩ : S42), (⟨bt131.1, bt131.2.1, bt131.2.2⟩ : S42), (⟨bt134.1, bt134.2.1, bt134.2.2⟩ : S42), (⟨bt137.1, bt137.2.1, bt137.2.2⟩ : S42), (⟨bt140.1, bt140.2.1, bt140.2.2⟩ : S42), (⟨bt143.1, bt143.2.1, bt143.2.2⟩ : S42), (⟨bt146.1, bt146.2.1, bt146.2.2⟩ : S42), (⟨bt149.1, bt149.2.1, bt149.2.2⟩ : S42), (⟨bt152.1, bt152.2.1, bt152.2.2⟩ : S42)] : List (S42)))).bind fun bt158 => (some (bt158.1, bt158.2))))))))))))) else (some (([] : List (S42)), 2)))) = some (r1, r2) := h
  clear h
  replace H := Option.bind_eq_some_iff.mp H
  obtain ⟨t124, A30, H⟩ := H
  replace H : (if t124 = true then ((locks_with.f 21 9).bind fun bt125 => ((locks_with.f 4 a1).bind fun bt128 => ((locks_op.f 16).bind fun bt131 => ((locks_with.f 20 8).bind fun bt134 => ((locks_number.f 1).bind fun bt137 => ((locks_op.f 9).bind fun bt140 => ((locks_with.f 5 a1).bind fun bt143 => ((locks_with.f 19 9).bind fun bt146 => ((locks_op.f 26).bind fun bt149 => ((locks_op.f 22).bind fun bt152 => ((locks_block.f a0 (([(⟨bt125.1, bt125.2.1, bt125.2.2⟩ : S42), (⟨bt128.1, bt128.2.1, bt128.2.2⟩ : S42), (⟨bt131.1, bt131.2.1, bt131.2.2⟩ : S42), (⟨bt134.1, bt134.2.1, bt134.2.2⟩ : S42), (⟨bt137.1, bt137.2.1, bt137.2.2⟩ : S42), (⟨bt140.1, bt140.2.1, bt140.2.2⟩ : S42), (⟨bt143.1, bt143.2.1, bt143.2.2⟩ : S42), (⟨bt146.1, bt146.2.1, bt146.2.2⟩ : S42), (⟨bt149.1, bt149.2.1, bt149.2.2⟩ : S42), (⟨bt152.1, bt152.2.1, bt152.2.2⟩ : S42)] : List (S42)))).bind fun bt158 => (some (bt158.1, bt158.2))))))))))))) else (some (([] : List (S42)), 2))) = some (r1, r2) := H
  have A3 := Aside0.mk A30
  clear A30
  by_cases c4 : t124 = true
  · subst c4
    have H1 : ((locks_with.f 21 9).bind fun bt125 => ((locks_with.f 4 a1).bind fun bt128 => ((locks_op.f 16).bind fun bt131 => ((locks_with.f 20 8).bind fun bt134 => ((locks_number.f 1).bind fun bt137 => ((locks_op.f 9).bind fun bt140 => ((locks_with.f 5 a1).bind fun bt143 => ((locks_with.f 19 9).bind fun bt146 => ((locks_op.f 26).bind fun bt149 => ((locks_op.f 22).bind fun bt152 => ((locks_block.f a0 (([(⟨bt125.1, bt125.2.1, bt125.2.2⟩ : S42), (⟨bt128.1, bt128.2.1, bt128.2.2⟩ : S42), (⟨bt131.1, bt131.2.1, bt131.2.2⟩ : S42), (⟨bt134.1, bt134.2.1, bt134.2.2⟩ : S42), (⟨bt137.1, bt137.2.1, bt137.2.2⟩ : S42), (⟨bt140.1, bt140.2.1, bt140.2.2⟩ : S42), (⟨bt143.1, bt143.2.1, bt143.2.2⟩ : S42), (⟨bt146.1, bt146.2.1, bt146.2.2⟩ : S42), (⟨bt149.1, bt149.2.1, bt149.2.2⟩ : S42), (⟨bt152.1, bt152.2.1, bt152.2.2⟩ : S42)] : List (S42)))).bind fun bt158 => (some (bt158.1, bt158.2))))))))))))) = some (r1, r2) := by rw [if_pos rfl] at H; exact H
    clear H
    have H := H1
    clear H1
    replace H := Option.bind_eq_some_iff.mp H
    obtain ⟨⟨t125, t126, t127⟩, A50, H⟩ := H
    replace H : ((locks_with.f 4 a1).bind fun bt128 => ((locks_op.f 16).bind fun bt131 => ((locks_with.f 20 8).bind fun bt134 => ((locks_number.f 1).bind fun bt137 => ((locks_op.f 9).bind fun bt140 => ((locks_with.f 5 a1).bind fun bt143 => ((locks_with.f 19 9).bind fun bt146 => ((locks_op.f 26).bind fun bt149 => ((locks_op.f 22).bind fun bt152 => ((locks_block.f a0 (([(⟨t125, t126, t127⟩ : S42), (⟨bt128.1, bt128.2.1, bt128.2.2⟩ : S42), (⟨bt131.1, bt131.2.1, bt131.2.2⟩ : S42), (⟨bt134.1, bt134.2.1, bt134.2.2⟩ : S42), (⟨bt137.1, bt137.2.1, bt137.2.2⟩ : S42), (⟨bt140.1, bt140.2.1, bt140.2.2⟩ : S42), (⟨bt143.1, bt143.2.1, bt143.2.2⟩ : S42), (⟨bt146.1, bt146.2.1, bt146.2.2⟩ : S42), (⟨bt149.1, bt149.2.1, bt149.2.2⟩ : S42), (⟨bt152.1, bt152.2.1, bt152.2.2⟩ : S42)] : List (S42)))).bind fun bt158 => (some (bt158.1, bt158.2)))))))))))) = some (r1, r2) := H
    have A5 := Aside0.mk A50
    clear A50
    replace H := Option.bind_eq_some_iff.mp H
    obtain ⟨⟨t128, t129, t130⟩, A60, H⟩ := H
    replace H : ((locks_op.f 16).bind fun bt131 => ((locks_with.f 20 8).bind fun bt134 => ((locks_number.f 1).bind fun bt137 => ((locks_op.f 9).bind fun bt140 => ((locks_with.f 5 a1).bind fun bt143 => ((locks_with.f 19 9).bind fun bt146 => ((locks_op.f 26).bind fun bt149 => ((locks_op.f 22).bind fun bt152 => ((locks_block.f a0 (([(⟨t125, t126, t127⟩ : S42), (⟨t128, t129, t130⟩ : S42), (⟨bt131.1, bt131.2.1, bt131.2.2⟩ : S42), (⟨bt134.1, bt134.2.1, bt134.2.2⟩ : S42), (⟨bt137.1, bt137.2.1, bt137.2.2⟩ : S42), (⟨bt140.1, bt140.2.1, bt140.2.2⟩ : S42), (⟨bt143.1, bt143.2.1, bt143.2.2⟩ : S42), (⟨bt146.1, bt146.2.1, bt146.2.2⟩ : S42), (⟨bt149.1, bt149.2.1, bt149.2.2⟩ : S42), (⟨bt152.1, bt152.2.1, bt152.2.2⟩ : S42)] : List (S42)))).bind fun bt158 => (some (bt158.1, bt158.2))))))))))) = some (r1, r2) := H
    have A6 := Aside0.mk A60
    clear A60
    replace H := Option.bind_eq_some_iff.mp H
    obtain ⟨⟨t131, t132, t133⟩, A70, H⟩ := H
    replace H : ((locks_with.f 20 8).bind fun bt134 => ((locks_number.f 1).bind fun bt137 => ((locks_op.f 9).bind fun bt140 => ((locks_with.f 5 a1).bind fun bt143 => ((locks_with.f 19 9).bind fun bt146 => ((locks_op.f 26).bind fun bt149 => ((locks_op.f 22).bind fun bt152 => ((locks_block.f a0 (([(⟨t125, t126, t127⟩ : S42), (⟨t128, t129, t130⟩ : S42), (⟨t131, t132, t133⟩ : S42), (⟨bt134.1, bt134.2.1, bt134.2.2⟩ : S42), (⟨bt137.1, bt137.2.1, bt137.2.2⟩ : S42), (⟨bt140.1, bt140.2.1, bt140.2.2⟩ : S42), (⟨bt143.1, bt143.2.1, bt143.2.2⟩ : S42), (⟨bt146.1, bt146.2.1, bt146.2.2⟩ : S42), (⟨bt149.1, bt149.2.1, bt149.2.2⟩ : S42), (⟨bt152.1, bt152.2.1, bt152.2.2⟩ : S42)] : List (S42)))).bind fun bt158 => (some (bt158.1, bt158.2)))))))))) = some (r1, r2) := H
    have A7 := Aside0.mk A70
    clear A70
    replace H := Option.bind_eq_some_iff.mp H
    obtain ⟨⟨t134, t135, t136⟩, A80, H⟩ := H
    replace H : ((locks_number.f 1).bind fun bt137 => ((locks_op.f 9).bind fun bt140 => ((locks_with.f 5 a1).bind fun bt143 => ((locks_with.f 19 9).bind fun bt146 => ((locks_op.f 26).bind fun bt149 => ((locks_op.f 22).bind fun bt152 => ((locks_block.f a0 (([(⟨t125, t126, t127⟩ : S42), (⟨t128, t129, t130⟩ : S42), (⟨t131, t132, t133⟩ : S42), (⟨t134, t135, t136⟩ : S42), (⟨bt137.1, bt137.2.1, bt137.2.2⟩ : S42), (⟨bt140.1, bt140.2.1, bt140.2.2⟩ : S42), (⟨bt143.1, bt143.2.1, bt143.2.2⟩ : S42), (⟨bt146.1, bt146.2.1, bt146.2.2⟩ : S42), (⟨bt149.1, bt149.2.1, bt149.2.2⟩ : S42), (⟨bt152.1, bt152.2.1, bt152.2.2⟩ : S42)] : List (S42)))).bind fun bt158 => (some (bt158.1, bt158.2))))))))) = some (r1, r2) := H
    have A8 := Aside0.mk A80
    clear A80
    replace H := Option.bind_eq_some_iff.mp H
    obtain ⟨⟨t137, t138, t139⟩, A90, H⟩ := H
    replace H : ((locks_op.f 9).bind fun bt140 => ((locks_with.f 5 a1).bind fun bt143 => ((locks_with.f 19 9).bind fun bt146 => ((locks_op.f 26).bind fun bt149 => ((locks_op.f 22).bind fun bt152 => ((locks_block.f a0 (([(⟨t125, t126, t127⟩ : S42), (⟨t128, t129, t130⟩ : S42), (⟨t131, t132, t133⟩ : S42), (⟨t134, t135, t136⟩ : S42), (⟨t137, t138, t139⟩ : S42), (⟨bt140.1, bt140.2.1, bt140.2.2⟩ : S42), (⟨bt143.1, bt143.2.1, bt143.2.2⟩ : S42), (⟨bt146.1, bt146.2.1, bt146.2.2⟩ : S42), (⟨bt149.1, bt149.2.1, bt149.2.2⟩ : S42), (⟨bt152.1, bt152.2.1, bt152.2.2⟩ : S42)] : List (S42)))).bind fun bt158 => (some (bt158.1, bt158.2)))))))) = some (r1, r2) := H
    have A9 := Aside0.mk A90
    clear A90
    replace H := Option.bind_eq_some_iff.mp H
    obtain ⟨⟨t140, t141, t142⟩, A100, H⟩ := H
    replace H : ((locks_with.f 5 a1).bind fun bt143 => ((locks_with.f 19 9).bind fun bt146 => ((locks_op.f 26).bind fun bt149 => ((locks_op.f 22).bind fun bt152 => ((locks_block.f a0 (([(⟨t125, t126, t127⟩ : S42), (⟨t128, t129, t130⟩ : S42), (⟨t131, t132, t133⟩ : S42), (⟨t134, t135, t136⟩ : S42), (⟨t137, t138, t139⟩ : S42), (⟨t140, t141, t142⟩ : S42), (⟨bt143.1, bt143.2.1, bt143.2.2⟩ : S42), (⟨bt146.1, bt146.2.1, bt146.2.2⟩ : S42), (⟨bt149.1, bt149.2.1, bt149.2.2⟩ : S42), (⟨bt152.1, bt152.2.1, bt152.2.2⟩ : S42)] : List (S42)))).bind fun bt158 => (some (bt158.1, bt158.2))))))) = some (r1, r2) := H
    have A10 := Aside0.mk A100
    clear A100
    replace H := Option.bind_eq_some_iff.mp H
    obtain ⟨⟨t143, t144, t145⟩, A110, H⟩ := H
    replace H : ((locks_with.f 19 9).bind fun bt146 => ((locks_op.f 26).bind fun bt149 => ((locks_op.f 22).bind fun bt152 => ((locks_block.f a0 (([(⟨t125, t126, t127⟩ : S42), (⟨t128, t129, t130⟩ : S42), (⟨t131, t132, t133⟩ : S42), (⟨t134, t135, t136⟩ : S42), (⟨t137, t138, t139⟩ : S42), (⟨t140, t141, t142⟩ : S42), (⟨t143, t144, t145⟩ : S42), (⟨bt146.1, bt146.2.1, bt146.2.2⟩ : S42), (⟨bt149.1, bt149.2.1, bt149.2.2⟩ : S42), (⟨bt152.1, bt152.2.1, bt152.2.2⟩ : S42)] : List (S42)))).bind fun bt158 => (some (bt158.1, bt158.2)))))) = some (r1, r2) := H
    have A11 := Aside0.mk A110
    clear A110
    replace H := Option.bind_eq_some_iff.mp H
    obtain ⟨⟨t146, t147, t148⟩, A120, H⟩ := H
    replace H : ((locks_op.f 26).bind fun bt149 => ((locks_op.f 22).bind fun bt152 => ((locks_block.f a0 (([(⟨t125, t126, t127⟩ : S42), (⟨t128, t129, t130⟩ : S42), (⟨t131, t132, t133⟩ : S42), (⟨t134, t135, t136⟩ : S42), (⟨t137, t138, t139⟩ : S42), (⟨t140, t141, t142⟩ : S42), (⟨t143, t144, t145⟩ : S42), (⟨t146, t147, t148⟩ : S42), (⟨bt149.1, bt149.2.1, bt149.2.2⟩ : S42), (⟨bt152.1, bt152.2.1, bt152.2.2⟩ : S42)] : List (S42)))).bind fun bt158 => (some (bt158.1, bt158.2))))) = some (r1, r2) := H
    have A12 := Aside0.mk A120
    clear A120
    replace H := Option.bind_eq_some_iff.mp H
    obtain ⟨⟨t149, t150, t151⟩, A130, H⟩ := H
    replace H : ((locks_op.f 22).bind fun bt152 => ((locks_block.f a0 (([(⟨t125, t126, t127⟩ : S42), (⟨t128, t129, t130⟩ : S42), (⟨t131, t132, t133⟩ : S42), (⟨t134, t135, t136⟩ : S42), (⟨t137, t138, t139⟩ : S42), (⟨t140, t141, t142⟩ : S42), (⟨t143, t144, t145⟩ : S42), (⟨t146, t147, t148⟩ : S42), (⟨t149, t150, t151⟩ : S42), (⟨bt152.1, bt152.2.1, bt152.2.2⟩ : S42)] : List (S42)))).bind fun bt158 => (some (bt158.1, bt158.2)))) = some (r1, r2) := H
    have A13 := Aside0.mk A130
    clear A130
    replace H := Option.bind_eq_some_iff.mp H
    obtain ⟨⟨t152, t153, t154⟩, A140, H⟩ := H
    replace H : ((locks_block.f a0 (([(⟨t125, t126, t127⟩ : S42), (⟨t128, t129, t130⟩ : S42), (⟨t131, t132, t133⟩ : S42), (⟨t134, t135, t136⟩ : S42), (⟨t137, t138, t139⟩ : S42), (⟨t140, t141, t142⟩ : S42), (⟨t143, t144, t145⟩ : S42), (⟨t146, t147, t148⟩ : S42), (⟨t149, t150, t151⟩ : S42), (⟨t152, t153, t154⟩ : S42)] : List (S42)))).bind fun bt158 => (some (bt158.1, bt158.2))) = some (r1, r2) := H
    have A14 := Aside0.mk A140
    clear A140
    obtain ⟨y155, hy155⟩ : ∃ y_ : List (S42), y_ = (([(⟨t125, t126, t127⟩ : S42), (⟨t128, t129, t130⟩ : S42), (⟨t131, t132, t133⟩ : S42), (⟨t134, t135, t136⟩ : S42), (⟨t137, t138, t139⟩ : S42), (⟨t140, t141, t142⟩ : S42), (⟨t143, t144, t145⟩ : S42), (⟨t146, t147, t148⟩ : S42), (⟨t149, t150, t151⟩ : S42), (⟨t152, t153, t154⟩ : S42)] : List (S42))) := ⟨_, rfl⟩
    replace H : ((locks_block.f a0 y155).bind fun bt158 => (some (bt158.1, bt158.2))) = some (r1, r2) := by first | (rw [hy155]; with_reducible exact H) | (have H2_ := (Option.bind_some _ _).symm.trans H; rw [hy155]; with_reducible exact H2_) | (have H2_ := (Option.bind_some _ _).symm.trans H; with_reducible exact H2_) | with_reducible exact H | (rw [hy155]; exact H) | exact H
    have Ny155 := Aside0.mk hy155
    clear hy155
    replace H := Option.bind_eq_some_iff.mp H
    obtain ⟨⟨t158, t159⟩, A150, H⟩ := H
    replace H : (some (t158, t159)) = some (r1, r2) := H
    have A15 := Aside0.mk A150
    clear A150
    simp only [Option.some.injEq, Prod.mk.injEq] at H
    obtain ⟨rfl, rfl⟩ := H
    go_enter Try.func14, Try.ntmps14
    go_wp2_with (first | ((with_reducible refine gate_callee (f := 51) rfl ?_); refine goesL_ (some 8) rfl rfl Try.func51 (by kernel_rfl) rfl #[.int .i64 a0, .int .i64 a1, .int .i64 0] rfl (by (try simp only [List.map_toArray, List.map_cons, List.map_nil]); first | done | rfl | (simp only [List.length_drop, List.length_take]; rfl)) ?_; (with_reducible refine (locks_may.calls a0 a1 0 true _ A3.out).mono ?_); rintro e w' ⟨rfl, ⟨nd, rfl⟩⟩; refine ⟨_, rfl, ?_⟩) | ((with_reducible refine gate_callee (f := 53) rfl ?_); refine goesL_ (some 11) rfl rfl Try.func53 (by kernel_rfl) rfl #[.int .u8 21, .int .i64 9] rfl (by (try simp only [List.map_toArray, List.map_cons, List.map_nil]); first | done | rfl | (simp only [List.length_drop, List.length_take]; rfl)) ?_; (with_reducible refine (locks_with.calls 21 9 t125 t126 t127 _ A5.out).mono ?_); rintro e w16 ⟨rfl, hb⟩; refine ⟨_, rfl, ?_⟩; have n0_ := Aside0.mk (below_step (by repeat (first | (with_reducible first | exact HB.out | apply below_alloc | apply pw_below_drewN | apply below_drew1) | exact HB.out)) hb); clear HB; have HB := n0_; clear n0_; (try clear hb); (try clear hb2); (try clear hk); (try clear hi)) | ((with_reducible refine gate_callee (f := 53) rfl ?_); refine goesL_ (some 13) rfl rfl Try.func53 (by kernel_rfl) rfl #[.int .u8 4, .int .i64 a1] rfl (by (try simp only [List.map_toArray, List.map_cons, List.map_nil]); first | done | rfl | (simp only [List.length_drop, List.length_take]; rfl)) ?_; (with_reducible refine (locks_with.calls 4 a1 t128 t129 t130 _ A6.out).mono ?_); rintro e w17 ⟨rfl, hb⟩; refine ⟨_, rfl, ?_⟩; have n0_ := Aside0.mk (below_step (by repeat (first | (with_reducible first | exact HB.out | apply below_alloc | apply pw_below_drewN | apply below_drew1) | exact HB.out)) hb); clear HB; have HB := n0_; clear n0_; (try clear hb); (try clear hb2); (try clear hk); (try clear hi)) | ((with_reducible refine gate_callee (f := 54) rfl ?_); refine goesL_ (some 14) rfl rfl Try.func54 (by kernel_rfl) rfl #[.int .u8 16] rfl (by (try simp only [List.map_toArray, List.map_cons, List.map_nil]); first | done | rfl | (simp only [List.length_drop, List.length_take]; rfl)) ?_; (with_reducible refine (locks_op.calls 16 t131 t132 t133 _ A7.out).mono ?_); rintro e w18 ⟨rfl, hb⟩; refine ⟨_, rfl, ?_⟩; have n0_ := Aside0.mk (below_step (by repeat (first | (with_reducible first | exact HB.out | apply below_alloc | apply pw_below_drewN | apply below_drew1) | exact HB.out)) hb); clear HB; have HB := n0_; clear n0_; (try clear hb); (try clear hb2); (try clear hk); (try clear hi)) | ((with_reducible refine gate_callee (f := 53) rfl ?_); refine goesL_ (some 15) rfl rfl Try.func53 (by kernel_rfl) rfl #[.int .u8 20, .int .i64 8] rfl (by (try simp only [List.map_toArray, List.map_cons, List.map_nil]); first | done | rfl | (simp only [List.length_drop, List.length_take]; rfl)) ?_; (with_reducible refine (locks_with.calls 20 8 t134 t135 t136 _ A8.out).mono ?_); rintro e w19 ⟨rfl, hb⟩; refine ⟨_, rfl, ?_⟩; have n0_ := Aside0.mk (below_step (by repeat (first | (with_reducible first | exact HB.out | apply below_alloc | apply pw_below_drewN | apply below_drew1) | exact HB.out)) hb); clear HB; have HB := n0_; clear n0_; (try clear hb); (try clear hb2); (try clear hk); (try clear hi)) | ((with_reducible refine gate_callee (f := 55) rfl ?_); refine goesL_ (some 16) rfl rfl Try.func55 (by kernel_rfl) rfl #[.int .i64 1] rfl (by (try simp only [List.map_toArray, List.map_cons, List.map_nil]); first | done | rfl | (simp only [List.length_drop, List.length_take]; rfl)) ?_; (with_reducible refine (locks_number.calls 1 t137 t138 t139 _ A9.out).mono ?_); rintro e w20 ⟨rfl, hb⟩; refine ⟨_, rfl, ?_⟩; have n0_ := Aside0.mk (below_step (by repeat (first | (with_reducible first | exact HB.out | apply below_alloc | apply pw_below_drewN | apply below_drew1) | exact HB.out)) hb); clear HB; have HB := n0_; clear n0_; (try clear hb); (try clear hb2); (try clear hk); (try clear hi)) | ((with_reducible refine gate_callee (f := 54) rfl ?_); refine goesL_ (some 17) rfl rfl Try.func54 (by kernel_rfl) rfl #[.int .u8 9] rfl (by (try simp only [List.map_toArray, List.map_cons, List.map_nil]); first | done | rfl | (simp only [List.length_drop, List.length_take]; rfl)) ?_; (with_reducible refine (locks_op.calls 9 t140 t141 t142 _ A10.out).mono ?_); rintro e w21 ⟨rfl, hb⟩; refine ⟨_, rfl, ?_⟩; have n0_ := Aside0.mk (below_step (by repeat (first | (with_reducible first | exact HB.out | apply below_alloc | apply pw_below_drewN | apply below_drew1) | exact HB.out)) hb); clear HB; have HB := n0_; clear n0_; (try clear hb); (try clear hb2); (try clear hk); (try clear hi)) | ((with_reducible refine gate_callee (f := 53) rfl ?_); refine goesL_ (some 19) rfl rfl Try.func53 (by kernel_rfl) rfl #[.int .u8 5, .int .i64 a1] rfl (by (try simp only [List.map_toArray, List.map_cons, List.map_nil]); first | done | rfl | (simp only [List.length_drop, List.length_take]; rfl)) ?_; (with_reducible refine (locks_with.calls 5 a1 t143 t144 t145 _ A11.out).mono ?_); rintro e w22 ⟨rfl, hb⟩; refine ⟨_, rfl, ?_⟩; have n0_ := Aside0.mk (below_step (by repeat (first | (with_reducible first | exact HB.out | apply below_alloc | apply pw_below_drewN | apply below_drew1) | exact HB.out)) hb); clear HB; have HB := n0_; clear n0_; (try clear hb); (try clear hb2); (try clear hk); (try clear hi)) | ((with_reducible refine gate_callee (f := 53) rfl ?_); refine goesL_ (some 20) rfl rfl Try.func53 (by kernel_rfl) rfl #[.int .u8 19, .int .i64 9] rfl (by (try simp only [List.map_toArray, List.map_cons, List.map_nil]); first | done | rfl | (simp only [List.length_drop, List.length_take]; rfl)) ?_; (with_reducible refine (locks_with.calls 19 9 t146 t147 t148 _ A12.out).mono ?_); rintro e w23 ⟨rfl, hb⟩; refine ⟨_, rfl, ?_⟩; have n0_ := Aside0.mk (below_step (by repeat (first | (with_reducible first | exact HB.out | apply below_alloc | apply pw_below_drewN | apply below_drew1) | exact HB.out)) hb); clear HB; have HB := n0_; clear n0_; (try clear hb); (try clear hb2); (try clear hk); (try clear hi)) | ((with_reducible refine gate_callee (f := 54) rfl ?_); refine goesL_ (some 21) rfl rfl Try.func54 (by kernel_rfl) rfl #[.int .u8 26] rfl (by (try simp only [List.map_toArray, List.map_cons, List.map_nil]); first | done | rfl | (simp only [List.length_drop, List.length_take]; rfl)) ?_; (with_reducible refine (locks_op.calls 26 t149 t150 t151 _ A13.out).mono ?_); rintro e w24 ⟨rfl, hb⟩; refine ⟨_, rfl, ?_⟩; have n0_ := Aside0.mk (below_step (by repeat (first | (with_reducible first | exact HB.out | apply below_alloc | apply pw_below_drewN | apply below_drew1) | exact HB.out)) hb); clear HB; have HB := n0_; clear n0_; (try clear hb); (try clear hb2); (try clear hk); (try clear hi)) | ((with_reducible refine gate_callee (f := 54) rfl ?_); refine goesL_ (some 22) rfl rfl Try.func54 (by kernel_rfl) rfl #[.int .u8 22] rfl (by (try simp only [List.map_toArray, List.map_cons, List.map_nil]); first | done | rfl | (simp only [List.length_drop, List.length_take]; rfl)) ?_; (with_reducible refine (locks_op.calls 22 t152 t153 t154 _ A14.out).mono ?_); rintro e w25 ⟨rfl, hb⟩; refine ⟨_, rfl, ?_⟩; have n0_ := Aside0.mk (below_step (by repeat (first | (with_reducible first | exact HB.out | apply below_alloc | apply pw_below_drewN | apply below_drew1) | exact HB.out)) hb); clear HB; have HB := n0_; clear n0_; (try clear hb); (try clear hb2); (try clear hk); (try clear hi)) | ((with_reducible refine gate_dst (N := 23) rfl ?_); refine Kd.R_lit k42 _ 42 ?hg (N := 23) ?hd (xs := ([(⟨t125, t126, t127⟩ : S42), (⟨t128, t129, t130⟩ : S42), (⟨t131, t132, t133⟩ : S42), (⟨t134, t135, t136⟩ : S42), (⟨t137, t138, t139⟩ : S42), (⟨t140, t141, t142⟩ : S42), (⟨t143, t144, t145⟩ : S42), (⟨t146, t147, t148⟩ : S42), (⟨t149, t150, t151⟩ : S42), (⟨t152, t153, t154⟩ : S42)] : List (S42))) (inner := [.int .u8 t125, .int .i64 t126, .int .u64 t127, .int .u8 t128, .int .i64 t129, .int .u64 t130, .int .u8 t131, .int .i64 t132, .int .u64 t133, .int .u8 t134, .int .i64 t135, .int .u64 t136, .int .u8 t137, .int .i64 t138, .int .u64 t139, .int .u8 t140, .int .i64 t141, .int .u64 t142, .int .u8 t143, .int .i64 t144, .int .u64 t145, .int .u8 t146, .int .i64 t147, .int .u64 t148, .int .u8 t149, .int .i64 t150, .int .u64 t151, .int .u8 t152, .int .i64 t153, .int .u64 t154]) (ok := fun _ => True) (okp := fun _ => True) ?hr ?hp (fun _ hk => hk) trivial (Below.refl _ _) (Nat.le_refl _) (by simp) ?_; (case hd => rfl); (case hg => rfl); (case hr => first | (go_simp; done) | (go_simp; rfl)); (case hp => exact (Reps.c3 (show Kd.M k42 _ _ _ (⟨t125, t126, t127⟩ : S42) [.int .u8 t125, .int .i64 t126, .int .u64 t127] from (k42_mkM _ _ _ (⟨t125, t126, t127⟩ : S42) )) (Reps.c3 (show Kd.M k42 _ _ _ (⟨t128, t129, t130⟩ : S42) [.int .u8 t128, .int .i64 t129, .int .u64 t130] from (k42_mkM _ _ _ (⟨t128, t129, t130⟩ : S42) )) (Reps.c3 (show Kd.M k42 _ _ _ (⟨t131, t132, t133⟩ : S42) [.int .u8 t131, .int .i64 t132, .int .u64 t133] from (k42_mkM _ _ _ (⟨t131, t132, t133⟩ : S42) )) (Reps.c3 (show Kd.M k42 _ _ _ (⟨t134, t135, t136⟩ : S42) [.int .u8 t134, .int .i64 t135, .int .u64 t136] from (k42_mkM _ _ _ (⟨t134, t135, t136⟩ : S42) )) (Reps.c3 (show Kd.M k42 _ _ _ (⟨t137, t138, t139⟩ : S42) [.int .u8 t137, .int .i64 t138, .int .u64 t139] from (k42_mkM _ _ _ (⟨t137, t138, t139⟩ : S42) )) (Reps.c3 (show Kd.M k42 _ _ _ (⟨t140, t141, t142⟩ : S42) [.int .u8 t140, .int .i64 t141, .int .u64 t142] from (k42_mkM _ _ _ (⟨t140, t141, t142⟩ : S42) )) (Reps.c3 (show Kd.M k42 _ _ _ (⟨t143, t144, t145⟩ : S42) [.int .u8 t143, .int .i64 t144, .int .u64 t145] from (k42_mkM _ _ _ (⟨t143, t144, t145⟩ : S42) )) (Reps.c3 (show Kd.M k42 _ _ _ (⟨t146, t147, t148⟩ : S42) [.int .u8 t146, .int .i64 t147, .int .u64 t148] from (k42_mkM _ _ _ (⟨t146, t147, t148⟩ : S42) )) (Reps.c3 (show Kd.M k42 _ _ _ (⟨t149, t150, t151⟩ : S42) [.int .u8 t149, .int .i64 t150, .int .u64 t151] from (k42_mkM _ _ _ (⟨t149, t150, t151⟩ : S42) )) (Reps.c3 (show Kd.M k42 _ _ _ (⟨t152, t153, t154⟩ : S42) [.int .u8 t152, .int .i64 t153, .int .u64 t154] from (k42_mkM _ _ _ (⟨t152, t153, t154⟩ : S42) )) (Reps.none _ _)))))))))))); intro v156 w26 ho27 hb hg_ hnew_; clear hg_ hnew_; (first | rw [← Ny155.out] at ho27 | (simp only [Int.reduceToNat] at ho27; rw [← Ny155.out] at ho27)); have n0_ := Aside0.mk (Kd.R_lower ho27 (below_size (by repeat (first | (with_reducible first | exact HB.out | apply below_alloc | apply pw_below_drewN | apply below_drew1) | exact HB.out)))); have n1_ := Aside0.mk (below_step (by repeat (first | (with_reducible first | exact HB.out | apply below_alloc | apply pw_below_drewN | apply below_drew1) | exact HB.out)) hb); clear HB; have HO157 := n0_; have HB := n1_; clear n0_ n1_; clear hb ho27; obtain ⟨Ao28, co28, eo28⟩ := Kd.R_slice HO157.out; subst eo28) | ((with_reducible refine gate_callee (f := 52) rfl ?_); refine goesL_ (some 24) rfl rfl Try.func52 (by kernel_rfl) rfl #[.int .i64 a0, .slice Ao28 y155.length co28] rfl (by (try simp only [List.map_toArray, List.map_cons, List.map_nil]); first | done | rfl | (simp only [List.length_drop, List.length_take]; rfl)) ?_; (with_reducible refine (locks_block.calls a0 _ _ y155 t158 t159 _ ?side1 ?side2 A15.out).mono ?_); (case side1 => repeat (first | exact (Kd.R_reads' HO157.out).2.2 | (with_reducible refine Kd.C_alloc ?_ _) | (with_reducible refine Kd.C_drewN ?_ _) | (with_reducible refine Kd.C_drew ?_))); (case side2 => exact (Kd.R_reads' HO157.out).2.1); rintro e w29 ⟨v160, rfl, ho0, hb⟩; refine ⟨_, rfl, ?_⟩; have n0_ := Aside0.mk (Kd.R_elder' (by (with_reducible repeat (first | apply Kd.R_alloc | apply Kd.R_drewN | apply Kd.R_drew)); exact HO157.out) (Kd.R_base ho0) hb); have n1_ := Aside0.mk (Kd.R_lower (Kd.R_new' ho0 (Kd.R_lt (by (with_reducible repeat (first | apply Kd.R_alloc | apply Kd.R_drewN | apply Kd.R_drew)); exact HO157.out))) (below_size (by repeat (first | (with_reducible first | exact HB.out | apply below_alloc | apply pw_below_drewN | apply below_drew1) | exact HB.out)))); have n2_ := Aside0.mk (below_step (by repeat (first | (with_reducible first | exact HB.out | apply below_alloc | apply pw_below_drewN | apply below_drew1) | exact HB.out)) hb); clear HO157; clear HB; have HO157 := n0_; have HO161 := n1_; have HB := n2_; clear n0_ n1_ n2_; (try clear hb); (try clear hb2); (try clear hk); (try clear hi); (try clear ho0)))
    go_ret2
    exact ⟨_, by first | rfl | (simp [errW_none, errW_some] <;> rfl) | (simp [*, errW_none, errW_some] <;> rfl), by (with_reducible repeat (first | apply Kd.R_alloc | apply Kd.R_drewN | apply Kd.R_drew)); exact Kd.R_mono HO161.out (fun _ hk => trivial), by repeat (first | (with_reducible first | exact HB.out | apply below_alloc | apply pw_below_drewN | apply below_drew1) | exact HB.out)⟩
  · replace c4 := Bool.eq_false_iff.mpr c4
    subst c4
    have H1 : (some (([] : List (S42)), 2)) = some (r1, r2) := by rw [if_neg (show ¬ (false = true) by decide)] at H; exact H
    clear H
    have H := H1
    clear H1
    simp only [Option.some.injEq, Prod.mk.injEq] at H
    obtain ⟨rfl, rfl⟩ := H
    go_enter Try.func14, Try.ntmps14
    go_wp2_with (first | ((with_reducible refine gate_callee (f := 51) rfl ?_); refine goesL_ (some 8) rfl rfl Try.func51 (by kernel_rfl) rfl #[.int .i64 a0, .int .i64 a1, .int .i64 0] rfl (by (try simp only [List.map_toArray, List.map_cons, List.map_nil]); first | done | rfl | (simp only [List.length_drop, List.length_take]; rfl)) ?_; (with_reducible refine (locks_may.calls a0 a1 0 false _ A3.out).mono ?_); rintro e w' ⟨rfl, ⟨nd, rfl⟩⟩; refine ⟨_, rfl, ?_⟩))
    go_ret2
    exact ⟨_, by first | rfl | (simp [errW_none, errW_some] <;> rfl) | (simp [*, errW_none, errW_some] <;> rfl), by first | exact Kd.R_nil _ _ _ _ _ | exact Kd.N_nil _ _ _ _ _ | exact Kd.V_nil _ _ _ _ _ | exact Kd.Q_nil _ _ _ _ _ | exact Kd.S_nil _ _ _ _ _, by repeat (first | (with_reducible first | exact HB.out | apply below_alloc | apply pw_below_drewN | apply below_drew1) | exact HB.out)⟩

/-! ### rowlockref22_may: function 56 -/
def rowlockref22_may.f (a0 : Int) (a1 : Int) (a2 : Int) : Option (Int) := if a0 < 0 then (some 2) else (if a0 > 64 then (some 2) else (if a1 < 0 then (some 2) else (if a1 ≥ 12 then (some 2) else (if a2 < 0 then (some 2) else (if a2 ≥ 4 then (some 2) else (some 0))))))
set_option maxHeartbeats 8000000 in
set_option maxRecDepth 100000 in
theorem rowlockref22_may.calls (a0 : Int) (a1 : Int) (a2 : Int) (r : Int) (w : World) (h : rowlockref22_may.f a0 a1 a2 = some r) :
    Calls Try.prog 56 #[.int .i64 a0, .int .i64 a1, .int .i64 a2] w fun e w' => e = .returned (.int .i64 r) ∧ Drawn0 w w' := by
  have H : (if a0 < 0 then (some 2) else (if a0 > 64 then (some 2) else (if a1 < 0 then (some 2) else (if a1 ≥ 12 then (some 2) else (if a2 < 0 then (some 2) else (if a2 ≥ 4 then (some 2) else (some 0))))))) = some r := h
  clear h
  by_cases c4 : a0 < 0
  · rw [if_pos c4] at H
    have c4b0 : decide (a0 < 0) = true := decide_eq_true c4
    clear c4
    obtain rfl := Option.some.inj H
    go_enter Try.func56, Try.ntmps56
    go_wp2
    go_ret
    exact ⟨by first | rfl | (simp; done) | (simp [*]; done), by repeat (first | exact Drawn0.refl _ | apply Drawn0.step)⟩
  · rw [if_neg c4] at H
    have c4b0 : decide (a0 < 0) = false := decide_eq_false c4
    clear c4
    by_cases c5 : a0 > 64
    · rw [if_pos c5] at H
      have c5b0 : decide (64 < a0) = true := decide_eq_true c5
      clear c5
      obtain rfl := Option.some.inj H
      go_enter Try.func56, Try.ntmps56
      go_wp2
      go_ret
      exact ⟨by first | rfl | (simp; done) | (simp [*]; done), by repeat (first | exact Drawn0.refl _ | apply Drawn0.step)⟩
    · rw [if_neg c5] at H
      have c5b0 : decide (64 < a0) = false := decide_eq_false c5
      clear c5
      by_cases c6 : a1 < 0
      · rw [if_pos c6] at H
        have c6b0 : decide (a1 < 0) = true := decide_eq_true c6
        clear c6
        obtain rfl := Option.some.inj H
        go_enter Try.func56, Try.ntmps56
        go_wp2
        go_ret
        exact ⟨by first | rfl | (simp; done) | (simp [*]; done), by repeat (first | exact Drawn0.refl _ | apply Drawn0.step)⟩
      · rw [if_neg c6] at H
        have c6b0 : decide (a1 < 0) = false := decide_eq_false c6
        clear c6
        by_cases c7 : a1 ≥ 12
        · rw [if_pos c7] at H
          have c7b0 : decide (12 ≤ a1) = true := decide_eq_true c7
          clear c7
          obtain rfl := Option.some.inj H
          go_enter Try.func56, Try.ntmps56
          go_wp2
          go_ret
          exact ⟨by first | rfl | (simp; done) | (simp [*]; done), by repeat (first | exact Drawn0.refl _ | apply Drawn0.step)⟩
        · rw [if_neg c7] at H
          have c7b0 : decide (12 ≤ a1) = false := decide_eq_false c7
          clear c7
          by_cases c8 : a2 < 0
          · rw [if_pos c8] at H
            have c8b0 : decide (a2 < 0) = true := decide_eq_true c8
            clear c8
            obtain rfl := Option.some.inj H
            go_enter Try.func56, Try.ntmps56
            go_wp2
            go_ret
            exact ⟨by first | rfl | (simp; done) | (simp [*]; done), by repeat (first | exact Drawn0.refl _ | apply Drawn0.step)⟩
          · rw [if_neg c8] at H
            have c8b0 : decide (a2 < 0) = false := decide_eq_false c8
            clear c8
            by_cases c9 : a2 ≥ 4
            · rw [if_pos c9] at H
              have c9b0 : decide (4 ≤ a2) = true := decide_eq_true c9
              clear c9
              obtain rfl := Option.some.inj H
              go_enter Try.func56, Try.ntmps56
              go_wp2
              go_ret
              exact ⟨by first | rfl | (simp; done) | (simp [*]; done), by repeat (first | exact Drawn0.refl _ | apply Drawn0.step)⟩
            · rw [if_neg c9] at H
              have c9b0 : decide (4 ≤ a2) = false := decide_eq_false c9
              clear c9
              obtain rfl := Option.some.inj H
              go_enter Try.func56, Try.ntmps56
              go_wp2
              go_ret
              exact ⟨by first | rfl | (simp; done) | (simp [*]; done), by repeat (first | exact Drawn0.refl _ | apply Drawn0.step)⟩

/-! ### rowlockref22_O: function 58 -/
def rowlockref22_O.f (a0 : Int) (a1 : Int) : Option (Int × Int × Int) := some (a0, a1, 0)
set_option maxHeartbeats 8000000 in
set_option maxRecDepth 100000 in
theorem rowlockref22_O.calls (a0 : Int) (a1 : Int) (r1 : Int) (r2 : Int) (r3 : Int) (w : World) (h : rowlockref22_O.f a0 a1 = some (r1, r2, r3)) :
    Calls Try.prog 58 #[.int .u8 a0, .int .i64 a1] w fun e w' => e = .returned (.agg #[.int .u8 r1, .int .i64 r2, .int .u64 r3]) ∧ Below w.heap.size w w' := by
  have hu42 := Try.underlying42
  have HB := Aside0.mk (Below.refl w.heap.size w)
  have H : (some (a0, a1, 0)) = some (r1, r2, r3) := h
  clear h
  simp only [Option.some.injEq, Prod.mk.injEq] at H
  obtain ⟨rfl, rfl, rfl⟩ := H
  go_enter Try.func58, Try.ntmps58
  go_wp2_with (first | ((with_reducible refine gate_dst (N := 4) rfl ?_); refine box_event ?hg (N := 4) ?hd (cs := #[.int .u8 0, .int .i64 0, .int .u64 0]) (t := 42) ?hr ?_; (case hd => rfl); (case hg => rfl); (case hr => first | (go_simp; done) | (go_simp; rfl)); intro gb162 hg w3 hbox hb; have n0_ := Aside0.mk (below_step (by repeat (first | (with_reducible first | exact HB.out | apply below_alloc | apply pw_below_drewN | apply below_drew1) | exact HB.out)) hb); have n1_ := Aside0.mk (hbox); have n2_ := Aside0.mk ((by rw [hg]; exact (below_size (by repeat (first | (with_reducible first | exact HB.out | apply below_alloc | apply pw_below_drewN | apply below_drew1) | exact HB.out))) : w.heap.size ≤ gb162)); have n3_ := Aside0.mk ((by rw [hg]; exact (below_size (by repeat (first | (with_reducible first | exact HB.out | apply below_alloc | apply pw_below_drewN | apply below_drew1) | exact HB.out))) : w.heap.size ≤ gb162)); clear HB; have HB := n0_; have BK162 := n1_; have GW162 := n2_; have GE162 := n3_; clear n0_ n1_ n2_ n3_; clear hb hbox hg; have hcz4_0 : w3.cell? ⟨gb162, 0, none⟩ = some (.int .u8 0) := (blk_cell BK162.out 0).trans rfl; have hcz4_1 : w3.cell? ⟨gb162, 1, none⟩ = some (.int .i64 0) := (blk_cell BK162.out 1).trans rfl; have hcz4_2 : w3.cell? ⟨gb162, 2, none⟩ = some (.int .u64 0) := (blk_cell BK162.out 2).trans rfl; have hfz4_0 := blk_frozen BK162.out 0; have hfz4_1 := blk_frozen BK162.out 1; have hfz4_2 := blk_frozen BK162.out 2))
  refine bodyPost_ret (results_cell_row rfl _ _ gb162 42 #[.int .u8 a0, .int .i64 a1, .int .u64 0] (0, 0) _ rfl (by (with_reducible repeat (first | refine blk_drewN ?_ _ | refine blk_drew ?_ | refine blk_alloc ?_ _)); refine blk_put (cs := #[.int .u8 a0, .int .i64 a1, .int .u64 0]) ?_ 2 _ rfl; (with_reducible repeat (first | refine blk_drewN ?_ _ | refine blk_drew ?_ | refine blk_alloc ?_ _)); refine blk_put (cs := #[.int .u8 a0, .int .i64 0, .int .u64 0]) ?_ 1 _ rfl; (with_reducible repeat (first | refine blk_drewN ?_ _ | refine blk_drew ?_ | refine blk_alloc ?_ _)); refine blk_put (cs := #[.int .u8 0, .int .i64 0, .int .u64 0]) ?_ 0 _ rfl; (with_reducible repeat (first | refine blk_drewN ?_ _ | refine blk_drew ?_ | refine blk_alloc ?_ _)); exact BK162.out) Try.underlying42 rfl (by kernel_rfl)) rfl ?_
  exact ⟨by first | rfl | (simp [errW_none, errW_some] <;> rfl) | (simp [*, errW_none, errW_some] <;> rfl), by repeat (first | (with_reducible first | exact HB.out | apply below_alloc | apply pw_below_drewN | apply below_drew1 | refine below_set ?_ GE162.out) | exact HB.out)⟩

/-! ### rowlockref01_Int: function 28 -/
def rowlockref01_Int.f (a0 : Int) : Option (Int × Bool) := some (intV a0, intOk a0)


set_option maxHeartbeats 8000000 in
set_option maxRecDepth 100000 in
theorem rowlockref01_Int.calls (a0 : Int) (r1 : Int) (r2 : Bool) (w : World) (h : rowlockref01_Int.f a0 = some (r1, r2)) :
    Calls Try.prog 28 #[.int .i64 a0] w fun e w' => e = .returned (.tuple #[.int .u64 r1, .bool r2]) ∧ Drawn0 w w' := by
  unfold rowlockref01_Int.f at h
  obtain ⟨rfl, rfl⟩ := Prod.mk.inj (Option.some.inj h)
  refine (refInt_any a0  w).mono ?_
  rintro e w' ⟨rfl, rfl⟩
  exact ⟨rfl, Drawn0.refl _⟩

/-! ### rowlockref22_P: function 59 -/
def rowlockref22_P.f (a0 : Int) : Option (Int × Int × Int) := (rowlockref01_Int.f a0).bind fun bt164 => (some (1, 0, bt164.1))
set_option maxHeartbeats 8000000 in
set_option maxRecDepth 100000 in
theorem rowlockref22_P.calls (a0 : Int) (r1 : Int) (r2 : Int) (r3 : Int) (w : World) (h : rowlockref22_P.f a0 = some (r1, r2, r3)) :
    Calls Try.prog 59 #[.int .i64 a0] w fun e w' => e = .returned (.agg #[.int .u8 r1, .int .i64 r2, .int .u64 r3]) ∧ Below w.heap.size w w' := by
  have hu42 := Try.underlying42
  have HB := Aside0.mk (Below.refl w.heap.size w)
  have H : ((rowlockref01_Int.f a0).bind fun bt164 => (some (1, 0, bt164.1))) = some (r1, r2, r3) := h
  clear h
  replace H := Option.bind_eq_some_iff.mp H
  obtain ⟨⟨t164, t165⟩, A20, H⟩ := H
  replace H : (some (1, 0, t164)) = some (r1, r2, r3) := H
  have A2 := Aside0.mk A20
  clear A20
  simp only [Option.some.injEq, Prod.mk.injEq] at H
  obtain ⟨rfl, rfl, rfl⟩ := H
  go_enter Try.func59, Try.ntmps59
  go_wp2_with (first | ((with_reducible refine gate_dst (N := 2) rfl ?_); refine box_event ?hg (N := 2) ?hd (cs := #[.int .u8 0, .int .i64 0, .int .u64 0]) (t := 42) ?hr ?_; (case hd => rfl); (case hg => rfl); (case hr => first | (go_simp; done) | (go_simp; rfl)); intro gb163 hg w3 hbox hb; have n0_ := Aside0.mk (below_step (by repeat (first | (with_reducible first | exact HB.out | apply below_alloc | apply pw_below_drewN | apply below_drew1) | exact HB.out)) hb); have n1_ := Aside0.mk (hbox); have n2_ := Aside0.mk ((by rw [hg]; exact (below_size (by repeat (first | (with_reducible first | exact HB.out | apply below_alloc | apply pw_below_drewN | apply below_drew1) | exact HB.out))) : w.heap.size ≤ gb163)); have n3_ := Aside0.mk ((by rw [hg]; exact (below_size (by repeat (first | (with_reducible first | exact HB.out | apply below_alloc | apply pw_below_drewN | apply below_drew1) | exact HB.out))) : w.heap.size ≤ gb163)); clear HB; have HB := n0_; have BK163 := n1_; have GW163 := n2_; have GE163 := n3_; clear n0_ n1_ n2_ n3_; clear hb hbox hg) | ((with_reducible refine gate_callee (f := 28) rfl ?_); refine goesL_ (some 7) rfl rfl Try.func28 (by kernel_rfl) rfl #[.int .i64 a0] rfl (by (try simp only [List.map_toArray, List.map_cons, List.map_nil]); first | done | rfl | (simp only [List.length_drop, List.length_take]; rfl)) ?_; (with_reducible refine (rowlockref01_Int.calls a0 t164 t165 _ A2.out).mono ?_); rintro e w' ⟨rfl, ⟨nd, rfl⟩⟩; refine ⟨_, rfl, ?_⟩; (try (rw [drewN_self w3]; generalize hq_ : World.drewN w3 _ = w3; have n0_ : Aside0 (w3.heap[gb163]? = some (.cells #[.int .u8 0, .int .i64 0, .int .u64 0] 42 (0, 0))) := ⟨by rw [← hq_]; exact (by (with_reducible repeat (first | refine blk_drewN ?_ _ | refine blk_drew ?_ | refine blk_alloc ?_ _)); exact BK163.out)⟩; have n1_ : Aside0 (Below w.heap.size w w3) := ⟨by rw [← hq_]; exact (by repeat (first | (with_reducible first | exact HB.out | apply below_alloc | apply pw_below_drewN | apply below_drew1 | refine below_set ?_ GE163.out) | exact HB.out))⟩; clear BK163 HB hq_; have BK163 := n0_; have HB := n1_; clear n0_ n1_)); have hcz4_0 : w3.cell? ⟨gb163, 0, none⟩ = some (.int .u8 0) := (blk_cell BK163.out 0).trans rfl; have hcz4_1 : w3.cell? ⟨gb163, 1, none⟩ = some (.int .i64 0) := (blk_cell BK163.out 1).trans rfl; have hcz4_2 : w3.cell? ⟨gb163, 2, none⟩ = some (.int .u64 0) := (blk_cell BK163.out 2).trans rfl; have hfz4_0 := blk_frozen BK163.out 0; have hfz4_1 := blk_frozen BK163.out 1; have hfz4_2 := blk_frozen BK163.out 2))
  refine bodyPost_ret (results_cell_row rfl _ _ gb163 42 #[.int .u8 1, .int .i64 0, .int .u64 t164] (0, 0) _ rfl (by (with_reducible repeat (first | refine blk_drewN ?_ _ | refine blk_drew ?_ | refine blk_alloc ?_ _)); refine blk_put (cs := #[.int .u8 1, .int .i64 0, .int .u64 0]) ?_ 2 _ rfl; (with_reducible repeat (first | refine blk_drewN ?_ _ | refine blk_drew ?_ | refine blk_alloc ?_ _)); refine blk_put (cs := #[.int .u8 1, .int .i64 0, .int .u64 0]) ?_ 1 _ rfl; (with_reducible repeat (first | refine blk_drewN ?_ _ | refine blk_drew ?_ | refine blk_alloc ?_ _)); refine blk_put (cs := #[.int .u8 0, .int .i64 0, .int .u64 0]) ?_ 0 _ rfl; (with_reducible repeat (first | refine blk_drewN ?_ _ | refine blk_drew ?_ | refine blk_alloc ?_ _)); exact BK163.out) Try.underlying42 rfl (by kernel_rfl)) rfl ?_
  exact ⟨by first | rfl | (simp [errW_none, errW_some] <;> rfl) | (simp [*, errW_none, errW_some] <;> rfl), by repeat (first | (with_reducible first | exact HB.out | apply below_alloc | apply pw_below_drewN | apply below_drew1 | refine below_set ?_ GE163.out) | exact HB.out)⟩

/-! ### rowlockref22_Down: function 15 -/
def rowlockref22_Down.f (k : Nat) (a0 : Int) (a1 : Int) : Option ((List (S42)) × Int) := (rowlockref22_may.f a0 a1 0).bind fun t166 => (if t166 = 0 then ((rowlockref22_O.f 21 9).bind fun bt167 => ((rowlockref22_O.f 4 a1).bind fun bt170 => ((rowlockref22_O.f 16 0).bind fun bt173 => ((rowlockref22_O.f 20 8).bind fun bt176 => ((rowlockref22_P.f 1).bind fun bt179 => ((rowlockref22_O.f 9 0).bind fun bt182 => ((rowlockref22_O.f 5 a1).bind fun bt185 => ((rowlockref22_O.f 19 9).bind fun bt188 => ((rowlockref22_O.f 26 0).bind fun bt191 => ((rowlockref22_O.f 22 0).bind fun bt194 => ((rowlockref22_At.f k a0 (([(⟨bt167.1, bt167.2.1, bt167.2.2⟩ : S42), (⟨bt170.1, bt170.2.1, bt170.2.2⟩ : S42), (⟨bt173.1, bt173.2.1, bt173.2.2⟩ : S42), (⟨bt176.1, bt176.2.1, bt176.2.2⟩ : S42), (⟨bt179.1, bt179.2.1, bt179.2.2⟩ : S42), (⟨bt182.1, bt182.2.1, bt182.2.2⟩ : S42), (⟨bt185.1, bt185.2.1, bt185.2.2⟩ : S42), (⟨bt188.1, bt188.2.1, bt188.2.2⟩ : S42), (⟨bt191.1, bt191.2.1, bt191.2.2⟩ : S42), (⟨bt194.1, bt194.2.1, bt194.2.2⟩ : S42)] : List (S42)))).bind fun bt200 => (some (bt200.1, bt200.2))))))))))))) else (some (([] : List (S42)), t166)))
theorem rowlockref22_Down.mono : ∀ a0 a1 k, LeO (rowlockref22_Down.f k a0 a1) (rowlockref22_Down.f (k + 1) a0 a1) := by
  intro a0 a1 k
  unfold rowlockref22_Down.f
  repeat' first
      | (with_reducible exact rowlockref22_At.mono _ _ _)
      | (with_reducible exact LeO.refl _)
      | (with_reducible exact LeO.none _)
      | (with_reducible refine LeO.ite ?_ ?_)
      | (with_reducible refine LeO.bind ?_ (fun _ => ?_))
      | exact rowlockref22_At.mono _ _ _
      | exact LeO.none _
      | refine LeO.ite ?_ ?_
      | refine LeO.bind ?_ (fun _ => ?_)
set_option maxHeartbeats 8000000 in
set_option maxRecDepth 100000 in
theorem rowlockref22_Down.calls (k : Nat) (a0 : Int) (a1 : Int) (r1 : List (S42)) (r2 : Int) (w : World) (h : rowlockref22_Down.f k a0 a1 = some (r1, r2)) :
    Calls Try.prog 15 #[.int .i64 a0, .int .i64 a1] w fun e w' => ∃ v0_ : Value, e = .returned (.tuple #[v0_, .int .i64 r2]) ∧ Kd.R k42 42 w' w.heap.size (fun _ => True) v0_ r1 ∧ Below w.heap.size w w' := by
  have HB := Aside0.mk (Below.refl w.heap.size w)
  have H : ((rowlockref22_may.f a0 a1 0).bind fun t166 => (if t166 = 0 then ((rowlockref22_O.f 21 9).bind fun bt167 => ((rowlockref22_O.f 4 a1).bind fun bt170 => ((rowlockref22_O.f 16 0).bind fun bt173 => ((rowlockref22_O.f 20 8).bind fun bt176 => ((rowlockref22_P.f 1).bind fun bt179 => ((rowlockref22_O.f 9 0).bind fun bt182 => ((rowlockref22_O.f 5 a1).bind fun bt185 => ((rowlockref22_O.f 19 9).bind fun bt188 => ((rowlockref22_O.f 26 0).bind fun bt191 => ((rowlockref22_O.f 22 0).bind fun bt194 => ((rowlockref22_At.f k a0 (([(⟨bt167.1, bt167.2.1, bt167.2.2⟩ : S42), (⟨bt170.1, bt170.2.1, bt170.2.2⟩ : S42), (⟨bt173.1, bt173.2.1, bt173.2.2⟩ : S42), (⟨bt176.1, bt176.2.1, bt176.2.2⟩ : S42), (⟨bt179.1, bt179.2.1, bt179.2.2⟩ : S42), (⟨bt182.1, bt182.2.1, bt182.2.2⟩ : S42), (⟨bt185.1, bt185.2.1, bt185.2.2⟩ : S42), (⟨bt188.1, bt188.2.1, bt188.2.2⟩ : S42), (⟨bt191.1, bt191.2.1, bt191.2.2⟩ : S42), (⟨bt194.1, bt194.2.1, bt194.2.2⟩ : S42)] : List (S42)))).bind fun bt200 => (some (bt200.1, bt200.2))))))))))))) else (some (([] : List (S42)), t166)))) = some (r1, r2) := h
  clear h
  replace H := Option.bind_eq_some_iff.mp H
  obtain ⟨t166, A30, H⟩ := H
  replace H : (if t166 = 0 then ((rowlockref22_O.f 21 9).bind fun bt167 => ((rowlockref22_O.f 4 a1).bind fun bt170 => ((rowlockref22_O.f 16 0).bind fun bt173 => ((rowlockref22_O.f 20 8).bind fun bt176 => ((rowlockref22_P.f 1).bind fun bt179 => ((rowlockref22_O.f 9 0).bind fun bt182 => ((rowlockref22_O.f 5 a1).bind fun bt185 => ((rowlockref22_O.f 19 9).bind fun bt188 => ((rowlockref22_O.f 26 0).bind fun bt191 => ((rowlockref22_O.f 22 0).bind fun bt194 => ((rowlockref22_At.f k a0 (([(⟨bt167.1, bt167.2.1, bt167.2.2⟩ : S42), (⟨bt170.1, bt170.2.1, bt170.2.2⟩ : S42), (⟨bt173.1, bt173.2.1, bt173.2.2⟩ : S42), (⟨bt176.1, bt176.2.1, bt176.2.2⟩ : S42), (⟨bt179.1, bt179.2.1, bt179.2.2⟩ : S42), (⟨bt182.1, bt182.2.1, bt182.2.2⟩ : S42), (⟨bt185.1, bt185.2.1, bt185.2.2⟩ : S42), (⟨bt188.1, bt188.2.1, bt188.2.2⟩ : S42), (⟨bt191.1, bt191.2.1, bt191.2.2⟩ : S42), (⟨bt194.1, bt194.2.1, bt194.2.2⟩ : S42)] : List (S42)))).bind fun bt200 => (some (bt200.1, bt200.2))))))))))))) else (some (([] : List (S42)), t166))) = some (r1, r2) := H
  have A3 := Aside0.mk A30
  clear A30
  by_cases c4 : t166 = 0
  · rw [if_pos c4] at H
    have c4b0 : (t166 == 0) = true := beq_iff_eq.mpr c4
    have c4b1 : (t166 != 0) = false := bne_eq_false_iff_eq.mpr c4
    clear c4
    replace H := Option.bind_eq_some_iff.mp H
    obtain ⟨⟨t167, t168, t169⟩, A50, H⟩ := H
    replace H : ((rowlockref22_O.f 4 a1).bind fun bt170 => ((rowlockref22_O.f 16 0).bind fun bt173 => ((rowlockref22_O.f 20 8).bind fun bt176 => ((rowlockref22_P.f 1).bind fun bt179 => ((rowlockref22_O.f 9 0).bind fun bt182 => ((rowlockref22_O.f 5 a1).bind fun bt185 => ((rowlockref22_O.f 19 9).bind fun bt188 => ((rowlockref22_O.f 26 0).bind fun bt191 => ((rowlockref22_O.f 22 0).bind fun bt194 => ((rowlockref22_At.f k a0 (([(⟨t167, t168, t169⟩ : S42), (⟨bt170.1, bt170.2.1, bt170.2.2⟩ : S42), (⟨bt173.1, bt173.2.1, bt173.2.2⟩ : S42), (⟨bt176.1, bt176.2.1, bt176.2.2⟩ : S42), (⟨bt179.1, bt179.2.1, bt179.2.2⟩ : S42), (⟨bt182.1, bt182.2.1, bt182.2.2⟩ : S42), (⟨bt185.1, bt185.2.1, bt185.2.2⟩ : S42), (⟨bt188.1, bt188.2.1, bt188.2.2⟩ : S42), (⟨bt191.1, bt191.2.1, bt191.2.2⟩ : S42), (⟨bt194.1, bt194.2.1, bt194.2.2⟩ : S42)] : List (S42)))).bind fun bt200 => (some (bt200.1, bt200.2)))))))))))) = some (r1, r2) := H
    have A5 := Aside0.mk A50
    clear A50
    replace H := Option.bind_eq_some_iff.mp H
    obtain ⟨⟨t170, t171, t172⟩, A60, H⟩ := H
    replace H : ((rowlockref22_O.f 16 0).bind fun bt173 => ((rowlockref22_O.f 20 8).bind fun bt176 => ((rowlockref22_P.f 1).bind fun bt179 => ((rowlockref22_O.f 9 0).bind fun bt182 => ((rowlockref22_O.f 5 a1).bind fun bt185 => ((rowlockref22_O.f 19 9).bind fun bt188 => ((rowlockref22_O.f 26 0).bind fun bt191 => ((rowlockref22_O.f 22 0).bind fun bt194 => ((rowlockref22_At.f k a0 (([(⟨t167, t168, t169⟩ : S42), (⟨t170, t171, t172⟩ : S42), (⟨bt173.1, bt173.2.1, bt173.2.2⟩ : S42), (⟨bt176.1, bt176.2.1, bt176.2.2⟩ : S42), (⟨bt179.1, bt179.2.1, bt179.2.2⟩ : S42), (⟨bt182.1, bt182.2.1, bt182.2.2⟩ : S42), (⟨bt185.1, bt185.2.1, bt185.2.2⟩ : S42), (⟨bt188.1, bt188.2.1, bt188.2.2⟩ : S42), (⟨bt191.1, bt191.2.1, bt191.2.2⟩ : S42), (⟨bt194.1, bt194.2.1, bt194.2.2⟩ : S42)] : List (S42)))).bind fun bt200 => (some (bt200.1, bt200.2))))))))))) = some (r1, r2) := H
    have A6 := Aside0.mk A60
    clear A60
    replace H := Option.bind_eq_some_iff.mp H
    obtain ⟨⟨t173, t174, t175⟩, A70, H⟩ := H
    replace H : ((rowlockref22_O.f 20 8).bind fun bt176 => ((rowlockref22_P.f 1).bind fun bt179 => ((rowlockref22_O.f 9 0).bind fun bt182 => ((rowlockref22_O.f 5 a1).bind fun bt185 => ((rowlockref22_O.f 19 9).bind fun bt188 => ((rowlockref22_O.f 26 0).bind fun bt191 => ((rowlockref22_O.f 22 0).bind fun bt194 => ((rowlockref22_At.f k a0 (([(⟨t167, t168, t169⟩ : S42), (⟨t170, t171, t172⟩ : S42), (⟨t173, t174, t175⟩ : S42), (⟨bt176.1, bt176.2.1, bt176.2.2⟩ : S42), (⟨bt179.1, bt179.2.1, bt179.2.2⟩ : S42), (⟨bt182.1, bt182.2.1, bt182.2.2⟩ : S42), (⟨bt185.1, bt185.2.1, bt185.2.2⟩ : S42), (⟨bt188.1, bt188.2.1, bt188.2.2⟩ : S42), (⟨bt191.1, bt191.2.1, bt191.2.2⟩ : S42), (⟨bt194.1, bt194.2.1, bt194.2.2⟩ : S42)] : List (S42)))).bind fun bt200 => (some (bt200.1, bt200.2)))))))))) = some (r1, r2) := H
    have A7 := Aside0.mk A70
    clear A70
    replace H := Option.bind_eq_some_iff.mp H
    obtain ⟨⟨t176, t177, t178⟩, A80, H⟩ := H
    replace H : ((rowlockref22_P.f 1).bind fun bt179 => ((rowlockref22_O.f 9 0).bind fun bt182 => ((rowlockref22_O.f 5 a1).bind fun bt185 => ((rowlockref22_O.f 19 9).bind fun bt188 => ((rowlockref22_O.f 26 0).bind fun bt191 => ((rowlockref22_O.f 22 0).bind fun bt194 => ((rowlockref22_At.f k a0 (([(⟨t167, t168, t169⟩ : S42), (⟨t170, t171, t172⟩ : S42), (⟨t173, t174, t175⟩ : S42), (⟨t176, t177, t178⟩ : S42), (⟨bt179.1, bt179.2.1, bt179.2.2⟩ : S42), (⟨bt182.1, bt182.2.1, bt182.2.2⟩ : S42), (⟨bt185.1, bt185.2.1, bt185.2.2⟩ : S42), (⟨bt188.1, bt188.2.1, bt188.2.2⟩ : S42), (⟨bt191.1, bt191.2.1, bt191.2.2⟩ : S42), (⟨bt194.1, bt194.2.1, bt194.2.2⟩ : S42)] : List (S42)))).bind fun bt200 => (some (bt200.1, bt200.2))))))))) = some (r1, r2) := H
    have A8 := Aside0.mk A80
    clear A80
    replace H := Option.bind_eq_some_iff.mp H
    obtain ⟨⟨t179, t180, t181⟩, A90, H⟩ := H
    replace H : ((rowlockref22_O.f 9 0).bind fun bt182 => ((rowlockref22_O.f 5 a1).bind fun bt185 => ((rowlockref22_O.f 19 9).bind fun bt188 => ((rowlockref22_O.f 26 0).bind fun bt191 => ((rowlockref22_O.f 22 0).bind fun bt194 => ((rowlockref22_At.f k a0 (([(⟨t167, t168, t169⟩ : S42), (⟨t170, t171, t172⟩ : S42), (⟨t173, t174, t175⟩ : S42), (⟨t176, t177, t178⟩ : S42), (⟨t179, t180, t181⟩ : S42), (⟨bt182.1, bt182.2.1, bt182.2.2⟩ : S42), (⟨bt185.1, bt185.2.1, bt185.2.2⟩ : S42), (⟨bt188.1, bt188.2.1, bt188.2.2⟩ : S42), (⟨bt191.1, bt191.2.1, bt191.2.2⟩ : S42), (⟨bt194.1, bt194.2.1, bt194.2.2⟩ : S42)] : List (S42)))).bind fun bt200 => (some (bt200.1, bt200.2)))))))) = some (r1, r2) := H
    have A9 := Aside0.mk A90
    clear A90
    replace H := Option.bind_eq_some_iff.mp H
    obtain ⟨⟨t182, t183, t184⟩, A100, H⟩ := H
    replace H : ((rowlockref22_O.f 5 a1).bind fun bt185 => ((rowlockref22_O.f 19 9).bind fun bt188 => ((rowlockref22_O.f 26 0).bind fun bt191 => ((rowlockref22_O.f 22 0).bind fun bt194 => ((rowlockref22_At.f k a0 (([(⟨t167, t168, t169⟩ : S42), (⟨t170, t171, t172⟩ : S42), (⟨t173, t174, t175⟩ : S42), (⟨t176, t177, t178⟩ : S42), (⟨t179, t180, t181⟩ : S42), (⟨t182, t183, t184⟩ : S42), (⟨bt185.1, bt185.2.1, bt185.2.2⟩ : S42), (⟨bt188.1, bt188.2.1, bt188.2.2⟩ : S42), (⟨bt191.1, bt191.2.1, bt191.2.2⟩ : S42), (⟨bt194.1, bt194.2.1, bt194.2.2⟩ : S42)] : List (S42)))).bind fun bt200 => (some (bt200.1, bt200.2))))))) = some (r1, r2) := H
    have A10 := Aside0.mk A100
    clear A100
    replace H := Option.bind_eq_some_iff.mp H
    obtain ⟨⟨t185, t186, t187⟩, A110, H⟩ := H
    replace H : ((rowlockref22_O.f 19 9).bind fun bt188 => ((rowlockref22_O.f 26 0).bind fun bt191 => ((rowlockref22_O.f 22 0).bind fun bt194 => ((rowlockref22_At.f k a0 (([(⟨t167, t168, t169⟩ : S42), (⟨t170, t171, t172⟩ : S42), (⟨t173, t174, t175⟩ : S42), (⟨t176, t177, t178⟩ : S42), (⟨t179, t180, t181⟩ : S42), (⟨t182, t183, t184⟩ : S42), (⟨t185, t186, t187⟩ : S42), (⟨bt188.1, bt188.2.1, bt188.2.2⟩ : S42), (⟨bt191.1, bt191.2.1, bt191.2.2⟩ : S42), (⟨bt194.1, bt194.2.1, bt194.2.2⟩ : S42)] : List (S42)))).bind fun bt200 => (some (bt200.1, bt200.2)))))) = some (r1, r2) := H
    have A11 := Aside0.mk A110
    clear A110
    replace H := Option.bind_eq_some_iff.mp H
    obtain ⟨⟨t188, t189, t190⟩, A120, H⟩ := H
    replace H : ((rowlockref22_O.f 26 0).bind fun bt191 => ((rowlockref22_O.f 22 0).bind fun bt194 => ((rowlockref22_At.f k a0 (([(⟨t167, t168, t169⟩ : S42), (⟨t170, t171, t172⟩ : S42), (⟨t173, t174, t175⟩ : S42), (⟨t176, t177, t178⟩ : S42), (⟨t179, t180, t181⟩ : S42), (⟨t182, t183, t184⟩ : S42), (⟨t185, t186, t187⟩ : S42), (⟨t188, t189, t190⟩ : S42), (⟨bt191.1, bt191.2.1, bt191.2.2⟩ : S42), (⟨bt194.1, bt194.2.1, bt194.2.2⟩ : S42)] : List (S42)))).bind fun bt200 => (some (bt200.1, bt200.2))))) = some (r1, r2) := H
    have A12 := Aside0.mk A120
    clear A120
    replace H := Option.bind_eq_some_iff.mp H
    obtain ⟨⟨t191, t192, t193⟩, A130, H⟩ := H
    replace H : ((rowlockref22_O.f 22 0).bind fun bt194 => ((rowlockref22_At.f k a0 (([(⟨t167, t168, t169⟩ : S42), (⟨t170, t171, t172⟩ : S42), (⟨t173, t174, t175⟩ : S42), (⟨t176, t177, t178⟩ : S42), (⟨t179, t180, t181⟩ : S42), (⟨t182, t183, t184⟩ : S42), (⟨t185, t186, t187⟩ : S42), (⟨t188, t189, t190⟩ : S42), (⟨t191, t192, t193⟩ : S42), (⟨bt194.1, bt194.2.1, bt194.2.2⟩ : S42)] : List (S42)))).bind fun bt200 => (some (bt200.1, bt200.2)))) = some (r1, r2) := H
    have A13 := Aside0.mk A130
    clear A130
    replace H := Option.bind_eq_some_iff.mp H
    obtain ⟨⟨t194, t195, t196⟩, A140, H⟩ := H
    replace H : ((rowlockref22_At.f k a0 (([(⟨t167, t168, t169⟩ : S42), (⟨t170, t171, t172⟩ : S42), (⟨t173, t174, t175⟩ : S42), (⟨t176, t177, t178⟩ : S42), (⟨t179, t180, t181⟩ : S42), (⟨t182, t183, t184⟩ : S42), (⟨t185, t186, t187⟩ : S42), (⟨t188, t189, t190⟩ : S42), (⟨t191, t192, t193⟩ : S42), (⟨t194, t195, t196⟩ : S42)] : List (S42)))).bind fun bt200 => (some (bt200.1, bt200.2))) = some (r1, r2) := H
    have A14 := Aside0.mk A140
    clear A140
    obtain ⟨y197, hy197⟩ : ∃ y_ : List (S42), y_ = (([(⟨t167, t168, t169⟩ : S42), (⟨t170, t171, t172⟩ : S42), (⟨t173, t174, t175⟩ : S42), (⟨t176, t177, t178⟩ : S42), (⟨t179, t180, t181⟩ : S42), (⟨t182, t183, t184⟩ : S42), (⟨t185, t186, t187⟩ : S42), (⟨t188, t189, t190⟩ : S42), (⟨t191, t192, t193⟩ : S42), (⟨t194, t195, t196⟩ : S42)] : List (S42))) := ⟨_, rfl⟩
    replace H : ((rowlockref22_At.f k a0 y197).bind fun bt200 => (some (bt200.1, bt200.2))) = some (r1, r2) := by first | (rw [hy197]; with_reducible exact H) | (have H2_ := (Option.bind_some _ _).symm.trans H; rw [hy197]; with_reducible exact H2_) | (have H2_ := (Option.bind_some _ _).symm.trans H; with_reducible exact H2_) | with_reducible exact H | (rw [hy197]; exact H) | exact H
    have Ny197 := Aside0.mk hy197
    clear hy197
    replace H := Option.bind_eq_some_iff.mp H
    obtain ⟨⟨t200, t201⟩, A150, H⟩ := H
    replace H : (some (t200, t201)) = some (r1, r2) := H
    have A15 := Aside0.mk A150
    clear A150
    simp only [Option.some.injEq, Prod.mk.injEq] at H
    obtain ⟨rfl, rfl⟩ := H
    go_enter Try.func15, Try.ntmps15
    go_wp2_with (first | ((with_reducible refine gate_callee (f := 56) rfl ?_); refine goesL_ (some 9) rfl rfl Try.func56 (by kernel_rfl) rfl #[.int .i64 a0, .int .i64 a1, .int .i64 0] rfl (by (try simp only [List.map_toArray, List.map_cons, List.map_nil]); first | done | rfl | (simp only [List.length_drop, List.length_take]; rfl)) ?_; (with_reducible refine (rowlockref22_may.calls a0 a1 0 t166 _ A3.out).mono ?_); rintro e w' ⟨rfl, ⟨nd, rfl⟩⟩; refine ⟨_, rfl, ?_⟩) | ((with_reducible refine gate_callee (f := 58) rfl ?_); refine goesL_ (some 14) rfl rfl Try.func58 (by kernel_rfl) rfl #[.int .u8 21, .int .i64 9] rfl (by (try simp only [List.map_toArray, List.map_cons, List.map_nil]); first | done | rfl | (simp only [List.length_drop, List.length_take]; rfl)) ?_; (with_reducible refine (rowlockref22_O.calls 21 9 t167 t168 t169 _ A5.out).mono ?_); rintro e w16 ⟨rfl, hb⟩; refine ⟨_, rfl, ?_⟩; have n0_ := Aside0.mk (below_step (by repeat (first | (with_reducible first | exact HB.out | apply below_alloc | apply pw_below_drewN | apply below_drew1) | exact HB.out)) hb); clear HB; have HB := n0_; clear n0_; (try clear hb); (try clear hb2); (try clear hk); (try clear hi)) | ((with_reducible refine gate_callee (f := 58) rfl ?_); refine goesL_ (some 16) rfl rfl Try.func58 (by kernel_rfl) rfl #[.int .u8 4, .int .i64 a1] rfl (by (try simp only [List.map_toArray, List.map_cons, List.map_nil]); first | done | rfl | (simp only [List.length_drop, List.length_take]; rfl)) ?_; (with_reducible refine (rowlockref22_O.calls 4 a1 t170 t171 t172 _ A6.out).mono ?_); rintro e w17 ⟨rfl, hb⟩; refine ⟨_, rfl, ?_⟩; have n0_ := Aside0.mk (below_step (by repeat (first | (with_reducible first | exact HB.out | apply below_alloc | apply pw_below_drewN | apply below_drew1) | exact HB.out)) hb); clear HB; have HB := n0_; clear n0_; (try clear hb); (try clear hb2); (try clear hk); (try clear hi)) | ((with_reducible refine gate_callee (f := 58) rfl ?_); refine goesL_ (some 17) rfl rfl Try.func58 (by kernel_rfl) rfl #[.int .u8 16, .int .i64 0] rfl (by (try simp only [List.map_toArray, List.map_cons, List.map_nil]); first | done | rfl | (simp only [List.length_drop, List.length_take]; rfl)) ?_; (with_reducible refine (rowlockref22_O.calls 16 0 t173 t174 t175 _ A7.out).mono ?_); rintro e w18 ⟨rfl, hb⟩; refine ⟨_, rfl, ?_⟩; have n0_ := Aside0.mk (below_step (by repeat (first | (with_reducible first | exact HB.out | apply below_alloc | apply pw_below_drewN | apply below_drew1) | exact HB.out)) hb); clear HB; have HB := n0_; clear n0_; (try clear hb); (try clear hb2); (try clear hk); (try clear hi)) | ((with_reducible refine gate_callee (f := 58) rfl ?_); refine goesL_ (some 18) rfl rfl Try.func58 (by kernel_rfl) rfl #[.int .u8 20, .int .i64 8] rfl (by (try simp only [List.map_toArray, List.map_cons, List.map_nil]); first | done | rfl | (simp only [List.length_drop, List.length_take]; rfl)) ?_; (with_reducible refine (rowlockref22_O.calls 20 8 t176 t177 t178 _ A8.out).mono ?_); rintro e w19 ⟨rfl, hb⟩; refine ⟨_, rfl, ?_⟩; have n0_ := Aside0.mk (below_step (by repeat (first | (with_reducible first | exact HB.out | apply below_alloc | apply pw_below_drewN | apply below_drew1) | exact HB.out)) hb); clear HB; have HB := n0_; clear n0_; (try clear hb); (try clear hb2); (try clear hk); (try clear hi)) | ((with_reducible refine gate_callee (f := 59) rfl ?_); refine goesL_ (some 19) rfl rfl Try.func59 (by kernel_rfl) rfl #[.int .i64 1] rfl (by (try simp only [List.map_toArray, List.map_cons, List.map_nil]); first | done | rfl | (simp only [List.length_drop, List.length_take]; rfl)) ?_; (with_reducible refine (rowlockref22_P.calls 1 t179 t180 t181 _ A9.out).mono ?_); rintro e w20 ⟨rfl, hb⟩; refine ⟨_, rfl, ?_⟩; have n0_ := Aside0.mk (below_step (by repeat (first | (with_reducible first | exact HB.out | apply below_alloc | apply pw_below_drewN | apply below_drew1) | exact HB.out)) hb); clear HB; have HB := n0_; clear n0_; (try clear hb); (try clear hb2); (try clear hk); (try clear hi)) | ((with_reducible refine gate_callee (f := 58) rfl ?_); refine goesL_ (some 20) rfl rfl Try.func58 (by kernel_rfl) rfl #[.int .u8 9, .int .i64 0] rfl (by (try simp only [List.map_toArray, List.map_cons, List.map_nil]); first | done | rfl | (simp only [List.length_drop, List.length_take]; rfl)) ?_; (with_reducible refine (rowlockref22_O.calls 9 0 t182 t183 t184 _ A10.out).mono ?_); rintro e w21 ⟨rfl, hb⟩; refine ⟨_, rfl, ?_⟩; have n0_ := Aside0.mk (below_step (by repeat (first | (with_reducible first | exact HB.out | apply below_alloc | apply pw_below_drewN | apply below_drew1) | exact HB.out)) hb); clear HB; have HB := n0_; clear n0_; (try clear hb); (try clear hb2); (try clear hk); (try clear hi)) | ((with_reducible refine gate_callee (f := 58) rfl ?_); refine goesL_ (some 22) rfl rfl Try.func58 (by kernel_rfl) rfl #[.int .u8 5, .int .i64 a1] rfl (by (try simp only [List.map_toArray, List.map_cons, List.map_nil]); first | done | rfl | (simp only [List.length_drop, List.length_take]; rfl)) ?_; (with_reducible refine (rowlockref22_O.calls 5 a1 t185 t186 t187 _ A11.out).mono ?_); rintro e w22 ⟨rfl, hb⟩; refine ⟨_, rfl, ?_⟩; have n0_ := Aside0.mk (below_step (by repeat (first | (with_reducible first | exact HB.out | apply below_alloc | apply pw_below_drewN | apply below_drew1) | exact HB.out)) hb); clear HB; have HB := n0_; clear n0_; (try clear hb); (try clear hb2); (try clear hk); (try clear hi)) | ((with_reducible refine gate_callee (f := 58) rfl ?_); refine goesL_ (some 23) rfl rfl Try.func58 (by kernel_rfl) rfl #[.int .u8 19, .int .i64 9] rfl (by (try simp only [List.map_toArray, List.map_cons, List.map_nil]); first | done | rfl | (simp only [List.length_drop, List.length_take]; rfl)) ?_; (with_reducible refine (rowlockref22_O.calls 19 9 t188 t189 t190 _ A12.out).mono ?_); rintro e w23 ⟨rfl, hb⟩; refine ⟨_, rfl, ?_⟩; have n0_ := Aside0.mk (below_step (by repeat (first | (with_reducible first | exact HB.out | apply below_alloc | apply pw_below_drewN | apply below_drew1) | exact HB.out)) hb); clear HB; have HB := n0_; clear n0_; (try clear hb); (try clear hb2); (try clear hk); (try clear hi)) | ((with_reducible refine gate_callee (f := 58) rfl ?_); refine goesL_ (some 24) rfl rfl Try.func58 (by kernel_rfl) rfl #[.int .u8 26, .int .i64 0] rfl (by (try simp only [List.map_toArray, List.map_cons, List.map_nil]); first | done | rfl | (simp only [List.length_drop, List.length_take]; rfl)) ?_; (with_reducible refine (rowlockref22_O.calls 26 0 t191 t192 t193 _ A13.out).mono ?_); rintro e w24 ⟨rfl, hb⟩; refine ⟨_, rfl, ?_⟩; have n0_ := Aside0.mk (below_step (by repeat (first | (with_reducible first | exact HB.out | apply below_alloc | apply pw_below_drewN | apply below_drew1) | exact HB.out)) hb); clear HB; have HB := n0_; clear n0_; (try clear hb); (try clear hb2); (try clear hk); (try clear hi)) | ((with_reducible refine gate_callee (f := 58) rfl ?_); refine goesL_ (some 25) rfl rfl Try.func58 (by kernel_rfl) rfl #[.int .u8 22, .int .i64 0] rfl (by (try simp only [List.map_toArray, List.map_cons, List.map_nil]); first | done | rfl | (simp only [List.length_drop, List.length_take]; rfl)) ?_; (with_reducible refine (rowlockref22_O.calls 22 0 t194 t195 t196 _ A14.out).mono ?_); rintro e w25 ⟨rfl, hb⟩; refine ⟨_, rfl, ?_⟩; have n0_ := Aside0.mk (below_step (by repeat (first | (with_reducible first | exact HB.out | apply below_alloc | apply pw_below_drewN | apply below_drew1) | exact HB.out)) hb); clear HB; have HB := n0_; clear n0_; (try clear hb); (try clear hb2); (try clear hk); (try clear hi)) | ((with_reducible refine gate_dst (N := 26) rfl ?_); refine Kd.R_lit k42 _ 42 ?hg (N := 26) ?hd (xs := ([(⟨t167, t168, t169⟩ : S42), (⟨t170, t171, t172⟩ : S42), (⟨t173, t174, t175⟩ : S42), (⟨t176, t177, t178⟩ : S42), (⟨t179, t180, t181⟩ : S42), (⟨t182, t183, t184⟩ : S42), (⟨t185, t186, t187⟩ : S42), (⟨t188, t189, t190⟩ : S42), (⟨t191, t192, t193⟩ : S42), (⟨t194, t195, t196⟩ : S42)] : List (S42))) (inner := [.int .u8 t167, .int .i64 t168, .int .u64 t169, .int .u8 t170, .int .i64 t171, .int .u64 t172, .int .u8 t173, .int .i64 t174, .int .u64 t175, .int .u8 t176, .int .i64 t177, .int .u64 t178, .int .u8 t179, .int .i64 t180, .int .u64 t181, .int .u8 t182, .int .i64 t183, .int .u64 t184, .int .u8 t185, .int .i64 t186, .int .u64 t187, .int .u8 t188, .int .i64 t189, .int .u64 t190, .int .u8 t191, .int .i64 t192, .int .u64 t193, .int .u8 t194, .int .i64 t195, .int .u64 t196]) (ok := fun _ => True) (okp := fun _ => True) ?hr ?hp (fun _ hk => hk) trivial (Below.refl _ _) (Nat.le_refl _) (by simp) ?_; (case hd => rfl); (case hg => rfl); (case hr => first | (go_simp; done) | (go_simp; rfl)); (case hp => exact (Reps.c3 (show Kd.M k42 _ _ _ (⟨t167, t168, t169⟩ : S42) [.int .u8 t167, .int .i64 t168, .int .u64 t169] from (k42_mkM _ _ _ (⟨t167, t168, t169⟩ : S42) )) (Reps.c3 (show Kd.M k42 _ _ _ (⟨t170, t171, t172⟩ : S42) [.int .u8 t170, .int .i64 t171, .int .u64 t172] from (k42_mkM _ _ _ (⟨t170, t171, t172⟩ : S42) )) (Reps.c3 (show Kd.M k42 _ _ _ (⟨t173, t174, t175⟩ : S42) [.int .u8 t173, .int .i64 t174, .int .u64 t175] from (k42_mkM _ _ _ (⟨t173, t174, t175⟩ : S42) )) (Reps.c3 (show Kd.M k42 _ _ _ (⟨t176, t177, t178⟩ : S42) [.int .u8 t176, .int .i64 t177, .int .u64 t178] from (k42_mkM _ _ _ (⟨t176, t177, t178⟩ : S42) )) (Reps.c3 (show Kd.M k42 _ _ _ (⟨t179, t180, t181⟩ : S42) [.int .u8 t179, .int .i64 t180, .int .u64 t181] from (k42_mkM _ _ _ (⟨t179, t180, t181⟩ : S42) )) (Reps.c3 (show Kd.M k42 _ _ _ (⟨t182, t183, t184⟩ : S42) [.int .u8 t182, .int .i64 t183, .int .u64 t184] from (k42_mkM _ _ _ (⟨t182, t183, t184⟩ : S42) )) (Reps.c3 (show Kd.M k42 _ _ _ (⟨t185, t186, t187⟩ : S42) [.int .u8 t185, .int .i64 t186, .int .u64 t187] from (k42_mkM _ _ _ (⟨t185, t186, t187⟩ : S42) )) (Reps.c3 (show Kd.M k42 _ _ _ (⟨t188, t189, t190⟩ : S42) [.int .u8 t188, .int .i64 t189, .int .u64 t190] from (k42_mkM _ _ _ (⟨t188, t189, t190⟩ : S42) )) (Reps.c3 (show Kd.M k42 _ _ _ (⟨t191, t192, t193⟩ : S42) [.int .u8 t191, .int .i64 t192, .int .u64 t193] from (k42_mkM _ _ _ (⟨t191, t192, t193⟩ : S42) )) (Reps.c3 (show Kd.M k42 _ _ _ (⟨t194, t195, t196⟩ : S42) [.int .u8 t194, .int .i64 t195, .int .u64 t196] from (k42_mkM _ _ _ (⟨t194, t195, t196⟩ : S42) )) (Reps.none _ _)))))))))))); intro v198 w26 ho27 hb hg_ hnew_; clear hg_ hnew_; (first | rw [← Ny197.out] at ho27 | (simp only [Int.reduceToNat] at ho27; rw [← Ny197.out] at ho27)); have n0_ := Aside0.mk (Kd.R_lower ho27 (below_size (by repeat (first | (with_reducible first | exact HB.out | apply below_alloc | apply pw_below_drewN | apply below_drew1) | exact HB.out)))); have n1_ := Aside0.mk (below_step (by repeat (first | (with_reducible first | exact HB.out | apply below_alloc | apply pw_below_drewN | apply below_drew1) | exact HB.out)) hb); clear HB; have HO199 := n0_; have HB := n1_; clear n0_ n1_; clear hb ho27; obtain ⟨Ao28, co28, eo28⟩ := Kd.R_slice HO199.out; subst eo28) | ((with_reducible refine gate_callee (f := 57) rfl ?_); refine goesL_ (some 27) rfl rfl Try.func57 (by kernel_rfl) rfl #[.int .i64 a0, .slice Ao28 y197.length co28] rfl (by (try simp only [List.map_toArray, List.map_cons, List.map_nil]); first | done | rfl | (simp only [List.length_drop, List.length_take]; rfl)) ?_; (with_reducible refine (rowlockref22_At.calls k a0 _ _ y197 t200 t201 _ ?side1 ?side2 A15.out).mono ?_); (case side1 => repeat (first | exact (Kd.R_reads' HO199.out).2.2 | (with_reducible refine Kd.C_alloc ?_ _) | (with_reducible refine Kd.C_drewN ?_ _) | (with_reducible refine Kd.C_drew ?_))); (case side2 => exact (Kd.R_reads' HO199.out).2.1); rintro e w29 ⟨v202, rfl, ho0, hb⟩; refine ⟨_, rfl, ?_⟩; have n0_ := Aside0.mk (Kd.R_elder' (by (with_reducible repeat (first | apply Kd.R_alloc | apply Kd.R_drewN | apply Kd.R_drew)); exact HO199.out) (Kd.R_base ho0) hb); have n1_ := Aside0.mk (Kd.R_lower (Kd.R_new' ho0 (Kd.R_lt (by (with_reducible repeat (first | apply Kd.R_alloc | apply Kd.R_drewN | apply Kd.R_drew)); exact HO199.out))) (below_size (by repeat (first | (with_reducible first | exact HB.out | apply below_alloc | apply pw_below_drewN | apply below_drew1) | exact HB.out)))); have n2_ := Aside0.mk (below_step (by repeat (first | (with_reducible first | exact HB.out | apply below_alloc | apply pw_below_drewN | apply below_drew1) | exact HB.out)) hb); clear HO199; clear HB; have HO199 := n0_; have HO203 := n1_; have HB := n2_; clear n0_ n1_ n2_; (try clear hb); (try clear hb2); (try clear hk); (try clear hi); (try clear ho0)))
    go_ret2
    exact ⟨_, by first | rfl | (simp [errW_none, errW_some] <;> rfl) | (simp [*, errW_none, errW_some] <;> rfl), by (with_reducible repeat (first | apply Kd.R_alloc | apply Kd.R_drewN | apply Kd.R_drew)); exact Kd.R_mono HO203.out (fun _ hk => trivial), by repeat (first | (with_reducible first | exact HB.out | apply below_alloc | apply pw_below_drewN | apply below_drew1) | exact HB.out)⟩
  · rw [if_neg c4] at H
    have c4b0 : (t166 == 0) = false := beq_eq_false_iff_ne.mpr c4
    have c4b1 : (t166 != 0) = true := bne_iff_ne.mpr c4
    simp only [Option.some.injEq, Prod.mk.injEq] at H
    obtain ⟨rfl, rfl⟩ := H
    go_enter Try.func15, Try.ntmps15
    go_wp2_with (first | ((with_reducible refine gate_callee (f := 56) rfl ?_); refine goesL_ (some 9) rfl rfl Try.func56 (by kernel_rfl) rfl #[.int .i64 a0, .int .i64 a1, .int .i64 0] rfl (by (try simp only [List.map_toArray, List.map_cons, List.map_nil]); first | done | rfl | (simp only [List.length_drop, List.length_take]; rfl)) ?_; (with_reducible refine (rowlockref22_may.calls a0 a1 0 t166 _ A3.out).mono ?_); rintro e w' ⟨rfl, ⟨nd, rfl⟩⟩; refine ⟨_, rfl, ?_⟩))
    go_ret2
    exact ⟨_, by first | rfl | (simp [errW_none, errW_some] <;> rfl) | (simp [*, errW_none, errW_some] <;> rfl), by first | exact Kd.R_nil _ _ _ _ _ | exact Kd.N_nil _ _ _ _ _ | exact Kd.V_nil _ _ _ _ _ | exact Kd.Q_nil _ _ _ _ _ | exact Kd.S_nil _ _ _ _ _, by repeat (first | (with_reducible first | exact HB.out | apply below_alloc | apply pw_below_drewN | apply below_drew1) | exact HB.out)⟩

/-! ### locks_Up: function 16 -/
def locks_Up.f (a0 : Int) (a1 : Int) : Option ((List (S42)) × Int) := (locks_may.f a0 a1 0).bind fun t204 => (if t204 = true then ((locks_with.f 21 5).bind fun bt205 => ((locks_with.f 4 a1).bind fun bt208 => ((locks_number.f 1).bind fun bt211 => ((locks_op.f 8).bind fun bt214 => ((locks_with.f 5 a1).bind fun bt217 => ((locks_op.f 22).bind fun bt220 => ((locks_block.f a0 (([(⟨bt205.1, bt205.2.1, bt205.2.2⟩ : S42), (⟨bt208.1, bt208.2.1, bt208.2.2⟩ : S42), (⟨bt211.1, bt211.2.1, bt211.2.2⟩ : S42), (⟨bt214.1, bt214.2.1, bt214.2.2⟩ : S42), (⟨bt217.1, bt217.2.1, bt217.2.2⟩ : S42), (⟨bt220.1, bt220.2.1, bt220.2.2⟩ : S42)] : List (S42)))).bind fun bt226 => (some (bt226.1, bt226.2))))))))) else (some (([] : List (S42)), 2)))
set_option maxHeartbeats 8000000 in
set_option maxRecDepth 100000 in
theorem locks_Up.calls (a0 : Int) (a1 : Int) (r1 : List (S42)) (r2 : Int) (w : World) (h : locks_Up.f a0 a1 = some (r1, r2)) :
    Calls Try.prog 16 #[.int .i64 a0, .int .i64 a1] w fun e w' => ∃ v0_ : Value, e = .returned (.tuple #[v0_, .int .i64 r2]) ∧ Kd.R k42 42 w' w.heap.size (fun _ => True) v0_ r1 ∧ Below w.heap.size w w' := by
  have HB := Aside0.mk (Below.refl w.heap.size w)
  have H : ((locks_may.f a0 a1 0).bind fun t204 => (if t204 = true then ((locks_with.f 21 5).bind fun bt205 => ((locks_with.f 4 a1).bind fun bt208 => ((locks_number.f 1).bind fun bt211 => ((locks_op.f 8).bind fun bt214 => ((locks_with.f 5 a1).bind fun bt217 => ((locks_op.f 22).bind fun bt220 => ((locks_block.f a0 (([(⟨bt205.1, bt205.2.1, bt205.2.2⟩ : S42), (⟨bt208.1, bt208.2.1, bt208.2.2⟩ : S42), (⟨bt211.1, bt211.2.1, bt211.2.2⟩ : S42), (⟨bt214.1, bt214.2.1, bt214.2.2⟩ : S42), (⟨bt217.1, bt217.2.1, bt217.2.2⟩ : S42), (⟨bt220.1, bt220.2.1, bt220.2.2⟩ : S42)] : List (S42)))).bind fun bt226 => (some (bt226.1, bt226.2))))))))) else (some (([] : List (S42)), 2)))) = some (r1, r2) := h
  clear h
  replace H := Option.bind_eq_some_iff.mp H
  obtain ⟨t204, A30, H⟩ := H
  replace H : (if t204 = true then ((locks_with.f 21 5).bind fun bt205 => ((locks_with.f 4 a1).bind fun bt208 => ((locks_number.f 1).bind fun bt211 => ((locks_op.f 8).bind fun bt214 => ((locks_with.f 5 a1).bind fun bt217 => ((locks_op.f 22).bind fun bt220 => ((locks_block.f a0 (([(⟨bt205.1, bt205.2.1, bt205.2.2⟩ : S42), (⟨bt208.1, bt208.2.1, bt208.2.2⟩ : S42), (⟨bt211.1, bt211.2.1, bt211.2.2⟩ : S42), (⟨bt214.1, bt214.2.1, bt214.2.2⟩ : S42), (⟨bt217.1, bt217.2.1, bt217.2.2⟩ : S42), (⟨bt220.1, bt220.2.1, bt220.2.2⟩ : S42)] : List (S42)))).bind fun bt226 => (some (bt226.1, bt226.2))))))))) else (some (([] : List (S42)), 2))) = some (r1, r2) := H
  have A3 := Aside0.mk A30
  clear A30
  by_cases c4 : t204 = true
  · subst c4
    have H1 : ((locks_with.f 21 5).bind fun bt205 => ((locks_with.f 4 a1).bind fun bt208 => ((locks_number.f 1).bind fun bt211 => ((locks_op.f 8).bind fun bt214 => ((locks_with.f 5 a1).bind fun bt217 => ((locks_op.f 22).bind fun bt220 => ((locks_block.f a0 (([(⟨bt205.1, bt205.2.1, bt205.2.2⟩ : S42), (⟨bt208.1, bt208.2.1, bt208.2.2⟩ : S42), (⟨bt211.1, bt211.2.1, bt211.2.2⟩ : S42), (⟨bt214.1, bt214.2.1, bt214.2.2⟩ : S42), (⟨bt217.1, bt217.2.1, bt217.2.2⟩ : S42), (⟨bt220.1, bt220.2.1, bt220.2.2⟩ : S42)] : List (S42)))).bind fun bt226 => (some (bt226.1, bt226.2))))))))) = some (r1, r2) := by rw [if_pos rfl] at H; exact H
    clear H
    have H := H1
    clear H1
    replace H := Option.bind_eq_some_iff.mp H
    obtain ⟨⟨t205, t206, t207⟩, A50, H⟩ := H
    replace H : ((locks_with.f 4 a1).bind fun bt208 => ((locks_number.f 1).bind fun bt211 => ((locks_op.f 8).bind fun bt214 => ((locks_with.f 5 a1).bind fun bt217 => ((locks_op.f 22).bind fun bt220 => ((locks_block.f a0 (([(⟨t205, t206, t207⟩ : S42), (⟨bt208.1, bt208.2.1, bt208.2.2⟩ : S42), (⟨bt211.1, bt211.2.1, bt211.2.2⟩ : S42), (⟨bt214.1, bt214.2.1, bt214.2.2⟩ : S42), (⟨bt217.1, bt217.2.1, bt217.2.2⟩ : S42), (⟨bt220.1, bt220.2.1, bt220.2.2⟩ : S42)] : List (S42)))).bind fun bt226 => (some (bt226.1, bt226.2)))))))) = some (r1, r2) := H
    have A5 := Aside0.mk A50
    clear A50
    replace H := Option.bind_eq_some_iff.mp H
    obtain ⟨⟨t208, t209, t210⟩, A60, H⟩ := H
    replace H : ((locks_number.f 1).bind fun bt211 => ((locks_op.f 8).bind fun bt214 => ((locks_with.f 5 a1).bind fun bt217 => ((locks_op.f 22).bind fun bt220 => ((locks_block.f a0 (([(⟨t205, t206, t207⟩ : S42), (⟨t208, t209, t210⟩ : S42), (⟨bt211.1, bt211.2.1, bt211.2.2⟩ : S42), (⟨bt214.1, bt214.2.1, bt214.2.2⟩ : S42), (⟨bt217.1, bt217.2.1, bt217.2.2⟩ : S42), (⟨bt220.1, bt220.2.1, bt220.2.2⟩ : S42)] : List (S42)))).bind fun bt226 => (some (bt226.1, bt226.2))))))) = some (r1, r2) := H
    have A6 := Aside0.mk A60
    clear A60
    replace H := Option.bind_eq_some_iff.mp H
    obtain ⟨⟨t211, t212, t213⟩, A70, H⟩ := H
    replace H : ((locks_op.f 8).bind fun bt214 => ((locks_with.f 5 a1).bind fun bt217 => ((locks_op.f 22).bind fun bt220 => ((locks_block.f a0 (([(⟨t205, t206, t207⟩ : S42), (⟨t208, t209, t210⟩ : S42), (⟨t211, t212, t213⟩ : S42), (⟨bt214.1, bt214.2.1, bt214.2.2⟩ : S42), (⟨bt217.1, bt217.2.1, bt217.2.2⟩ : S42), (⟨bt220.1, bt220.2.1, bt220.2.2⟩ : S42)] : List (S42)))).bind fun bt226 => (some (bt226.1, bt226.2)))))) = some (r1, r2) := H
    have A7 := Aside0.mk A70
    clear A70
    replace H := Option.bind_eq_some_iff.mp H
    obtain ⟨⟨t214, t215, t216⟩, A80, H⟩ := H
    replace H : ((locks_with.f 5 a1).bind fun bt217 => ((locks_op.f 22).bind fun bt220 => ((locks_block.f a0 (([(⟨t205, t206, t207⟩ : S42), (⟨t208, t209, t210⟩ : S42), (⟨t211, t212, t213⟩ : S42), (⟨t214, t215, t216⟩ : S42), (⟨bt217.1, bt217.2.1, bt217.2.2⟩ : S42), (⟨bt220.1, bt220.2.1, bt220.2.2⟩ : S42)] : List (S42)))).bind fun bt226 => (some (bt226.1, bt226.2))))) = some (r1, r2) := H
    have A8 := Aside0.mk A80
    clear A80
    replace H := Option.bind_eq_some_iff.mp H
    obtain ⟨⟨t217, t218, t219⟩, A90, H⟩ := H
    replace H : ((locks_op.f 22).bind fun bt220 => ((locks_block.f a0 (([(⟨t205, t206, t207⟩ : S42), (⟨t208, t209, t210⟩ : S42), (⟨t211, t212, t213⟩ : S42), (⟨t214, t215, t216⟩ : S42), (⟨t217, t218, t219⟩ : S42), (⟨bt220.1, bt220.2.1, bt220.2.2⟩ : S42)] : List (S42)))).bind fun bt226 => (some (bt226.1, bt226.2)))) = some (r1, r2) := H
    have A9 := Aside0.mk A90
    clear A90
    replace H := Option.bind_eq_some_iff.mp H
    obtain ⟨⟨t220, t221, t222⟩, A100, H⟩ := H
    replace H : ((locks_block.f a0 (([(⟨t205, t206, t207⟩ : S42), (⟨t208, t209, t210⟩ : S42), (⟨t211, t212, t213⟩ : S42), (⟨t214, t215, t216⟩ : S42), (⟨t217, t218, t219⟩ : S42), (⟨t220, t221, t222⟩ : S42)] : List (S42)))).bind fun bt226 => (some (bt226.1, bt226.2))) = some (r1, r2) := H
    have A10 := Aside0.mk A100
    clear A100
    obtain ⟨y223, hy223⟩ : ∃ y_ : List (S42), y_ = (([(⟨t205, t206, t207⟩ : S42), (⟨t208, t209, t210⟩ : S42), (⟨t211, t212, t213⟩ : S42), (⟨t214, t215, t216⟩ : S42), (⟨t217, t218, t219⟩ : S42), (⟨t220, t221, t222⟩ : S42)] : List (S42))) := ⟨_, rfl⟩
    replace H : ((locks_block.f a0 y223).bind fun bt226 => (some (bt226.1, bt226.2))) = some (r1, r2) := by first | (rw [hy223]; with_reducible exact H) | (have H2_ := (Option.bind_some _ _).symm.trans H; rw [hy223]; with_reducible exact H2_) | (have H2_ := (Option.bind_some _ _).symm.trans H; with_reducible exact H2_) | with_reducible exact H | (rw [hy223]; exact H) | exact H
    have Ny223 := Aside0.mk hy223
    clear hy223
    replace H := Option.bind_eq_some_iff.mp H
    obtain ⟨⟨t226, t227⟩, A110, H⟩ := H
    replace H : (some (t226, t227)) = some (r1, r2) := H
    have A11 := Aside0.mk A110
    clear A110
    simp only [Option.some.injEq, Prod.mk.injEq] at H
    obtain ⟨rfl, rfl⟩ := H
    go_enter Try.func16, Try.ntmps16
    go_wp2_with (first | ((with_reducible refine gate_callee (f := 51) rfl ?_); refine goesL_ (some 8) rfl rfl Try.func51 (by kernel_rfl) rfl #[.int .i64 a0, .int .i64 a1, .int .i64 0] rfl (by (try simp only [List.map_toArray, List.map_cons, List.map_nil]); first | done | rfl | (simp only [List.length_drop, List.length_take]; rfl)) ?_; (with_reducible refine (locks_may.calls a0 a1 0 true _ A3.out).mono ?_); rintro e w' ⟨rfl, ⟨nd, rfl⟩⟩; refine ⟨_, rfl, ?_⟩) | ((with_reducible refine gate_callee (f := 53) rfl ?_); refine goesL_ (some 11) rfl rfl Try.func53 (by kernel_rfl) rfl #[.int .u8 21, .int .i64 5] rfl (by (try simp only [List.map_toArray, List.map_cons, List.map_nil]); first | done | rfl | (simp only [List.length_drop, List.length_take]; rfl)) ?_; (with_reducible refine (locks_with.calls 21 5 t205 t206 t207 _ A5.out).mono ?_); rintro e w12 ⟨rfl, hb⟩; refine ⟨_, rfl, ?_⟩; have n0_ := Aside0.mk (below_step (by repeat (first | (with_reducible first | exact HB.out | apply below_alloc | apply pw_below_drewN | apply below_drew1) | exact HB.out)) hb); clear HB; have HB := n0_; clear n0_; (try clear hb); (try clear hb2); (try clear hk); (try clear hi)) | ((with_reducible refine gate_callee (f := 53) rfl ?_); refine goesL_ (some 13) rfl rfl Try.func53 (by kernel_rfl) rfl #[.int .u8 4, .int .i64 a1] rfl (by (try simp only [List.map_toArray, List.map_cons, List.map_nil]); first | done | rfl | (simp only [List.length_drop, List.length_take]; rfl)) ?_; (with_reducible refine (locks_with.calls 4 a1 t208 t209 t210 _ A6.out).mono ?_); rintro e w13 ⟨rfl, hb⟩; refine ⟨_, rfl, ?_⟩; have n0_ := Aside0.mk (below_step (by repeat (first | (with_reducible first | exact HB.out | apply below_alloc | apply pw_below_drewN | apply below_drew1) | exact HB.out)) hb); clear HB; have HB := n0_; clear n0_; (try clear hb); (try clear hb2); (try clear hk); (try clear hi)) | ((with_reducible refine gate_callee (f := 55) rfl ?_); refine goesL_ (some 14) rfl rfl Try.func55 (by kernel_rfl) rfl #[.int .i64 1] rfl (by (try simp only [List.map_toArray, List.map_cons, List.map_nil]); first | done | rfl | (simp only [List.length_drop, List.length_take]; rfl)) ?_; (with_reducible refine (locks_number.calls 1 t211 t212 t213 _ A7.out).mono ?_); rintro e w14 ⟨rfl, hb⟩; refine ⟨_, rfl, ?_⟩; have n0_ := Aside0.mk (below_step (by repeat (first | (with_reducible first | exact HB.out | apply below_alloc | apply pw_below_drewN | apply below_drew1) | exact HB.out)) hb); clear HB; have HB := n0_; clear n0_; (try clear hb); (try clear hb2); (try clear hk); (try clear hi)) | ((with_reducible refine gate_callee (f := 54) rfl ?_); refine goesL_ (some 15) rfl rfl Try.func54 (by kernel_rfl) rfl #[.int .u8 8] rfl (by (try simp only [List.map_toArray, List.map_cons, List.map_nil]); first | done | rfl | (simp only [List.length_drop, List.length_take]; rfl)) ?_; (with_reducible refine (locks_op.calls 8 t214 t215 t216 _ A8.out).mono ?_); rintro e w15 ⟨rfl, hb⟩; refine ⟨_, rfl, ?_⟩; have n0_ := Aside0.mk (below_step (by repeat (first | (with_reducible first | exact HB.out | apply below_alloc | apply pw_below_drewN | apply below_drew1) | exact HB.out)) hb); clear HB; have HB := n0_; clear n0_; (try clear hb); (try clear hb2); (try clear hk); (try clear hi)) | ((with_reducible refine gate_callee (f := 53) rfl ?_); refine goesL_ (some 17) rfl rfl Try.func53 (by kernel_rfl) rfl #[.int .u8 5, .int .i64 a1] rfl (by (try simp only [List.map_toArray, List.map_cons, List.map_nil]); first | done | rfl | (simp only [List.length_drop, List.length_take]; rfl)) ?_; (with_reducible refine (locks_with.calls 5 a1 t217 t218 t219 _ A9.out).mono ?_); rintro e w16 ⟨rfl, hb⟩; refine ⟨_, rfl, ?_⟩; have n0_ := Aside0.mk (below_step (by repeat (first | (with_reducible first | exact HB.out | apply below_alloc | apply pw_below_drewN | apply below_drew1) | exact HB.out)) hb); clear HB; have HB := n0_; clear n0_; (try clear hb); (try clear hb2); (try clear hk); (try clear hi)) | ((with_reducible refine gate_callee (f := 54) rfl ?_); refine goesL_ (some 18) rfl rfl Try.func54 (by kernel_rfl) rfl #[.int .u8 22] rfl (by (try simp only [List.map_toArray, List.map_cons, List.map_nil]); first | done | rfl | (simp only [List.length_drop, List.length_take]; rfl)) ?_; (with_reducible refine (locks_op.calls 22 t220 t221 t222 _ A10.out).mono ?_); rintro e w17 ⟨rfl, hb⟩; refine ⟨_, rfl, ?_⟩; have n0_ := Aside0.mk (below_step (by repeat (first | (with_reducible first | exact HB.out | apply below_alloc | apply pw_below_drewN | apply below_drew1) | exact HB.out)) hb); clear HB; have HB := n0_; clear n0_; (try clear hb); (try clear hb2); (try clear hk); (try clear hi)) | ((with_reducible refine gate_dst (N := 19) rfl ?_); refine Kd.R_lit k42 _ 42 ?hg (N := 19) ?hd (xs := ([(⟨t205, t206, t207⟩ : S42), (⟨t208, t209, t210⟩ : S42), (⟨t211, t212, t213⟩ : S42), (⟨t214, t215, t216⟩ : S42), (⟨t217, t218, t219⟩ : S42), (⟨t220, t221, t222⟩ : S42)] : List (S42))) (inner := [.int .u8 t205, .int .i64 t206, .int .u64 t207, .int .u8 t208, .int .i64 t209, .int .u64 t210, .int .u8 t211, .int .i64 t212, .int .u64 t213, .int .u8 t214, .int .i64 t215, .int .u64 t216, .int .u8 t217, .int .i64 t218, .int .u64 t219, .int .u8 t220, .int .i64 t221, .int .u64 t222]) (ok := fun _ => True) (okp := fun _ => True) ?hr ?hp (fun _ hk => hk) trivial (Below.refl _ _) (Nat.le_refl _) (by simp) ?_; (case hd => rfl); (case hg => rfl); (case hr => first | (go_simp; done) | (go_simp; rfl)); (case hp => exact (Reps.c3 (show Kd.M k42 _ _ _ (⟨t205, t206, t207⟩ : S42) [.int .u8 t205, .int .i64 t206, .int .u64 t207] from (k42_mkM _ _ _ (⟨t205, t206, t207⟩ : S42) )) (Reps.c3 (show Kd.M k42 _ _ _ (⟨t208, t209, t210⟩ : S42) [.int .u8 t208, .int .i64 t209, .int .u64 t210] from (k42_mkM _ _ _ (⟨t208, t209, t210⟩ : S42) )) (Reps.c3 (show Kd.M k42 _ _ _ (⟨t211, t212, t213⟩ : S42) [.int .u8 t211, .int .i64 t212, .int .u64 t213] from (k42_mkM _ _ _ (⟨t211, t212, t213⟩ : S42) )) (Reps.c3 (show Kd.M k42 _ _ _ (⟨t214, t215, t216⟩ : S42) [.int .u8 t214, .int .i64 t215, .int .u64 t216] from (k42_mkM _ _ _ (⟨t214, t215, t216⟩ : S42) )) (Reps.c3 (show Kd.M k42 _ _ _ (⟨t217, t218, t219⟩ : S42) [.int .u8 t217, .int .i64 t218, .int .u64 t219] from (k42_mkM _ _ _ (⟨t217, t218, t219⟩ : S42) )) (Reps.c3 (show Kd.M k42 _ _ _ (⟨t220, t221, t222⟩ : S42) [.int .u8 t220, .int .i64 t221, .int .u64 t222] from (k42_mkM _ _ _ (⟨t220, t221, t222⟩ : S42) )) (Reps.none _ _)))))))); intro v224 w18 ho19 hb hg_ hnew_; clear hg_ hnew_; (first | rw [← Ny223.out] at ho19 | (simp only [Int.reduceToNat] at ho19; rw [← Ny223.out] at ho19)); have n0_ := Aside0.mk (Kd.R_lower ho19 (below_size (by repeat (first | (with_reducible first | exact HB.out | apply below_alloc | apply pw_below_drewN | apply below_drew1) | exact HB.out)))); have n1_ := Aside0.mk (below_step (by repeat (first | (with_reducible first | exact HB.out | apply below_alloc | apply pw_below_drewN | apply below_drew1) | exact HB.out)) hb); clear HB; have HO225 := n0_; have HB := n1_; clear n0_ n1_; clear hb ho19; obtain ⟨Ao20, co20, eo20⟩ := Kd.R_slice HO225.out; subst eo20) | ((with_reducible refine gate_callee (f := 52) rfl ?_); refine goesL_ (some 20) rfl rfl Try.func52 (by kernel_rfl) rfl #[.int .i64 a0, .slice Ao20 y223.length co20] rfl (by (try simp only [List.map_toArray, List.map_cons, List.map_nil]); first | done | rfl | (simp only [List.length_drop, List.length_take]; rfl)) ?_; (with_reducible refine (locks_block.calls a0 _ _ y223 t226 t227 _ ?side1 ?side2 A11.out).mono ?_); (case side1 => repeat (first | exact (Kd.R_reads' HO225.out).2.2 | (with_reducible refine Kd.C_alloc ?_ _) | (with_reducible refine Kd.C_drewN ?_ _) | (with_reducible refine Kd.C_drew ?_))); (case side2 => exact (Kd.R_reads' HO225.out).2.1); rintro e w21 ⟨v228, rfl, ho0, hb⟩; refine ⟨_, rfl, ?_⟩; have n0_ := Aside0.mk (Kd.R_elder' (by (with_reducible repeat (first | apply Kd.R_alloc | apply Kd.R_drewN | apply Kd.R_drew)); exact HO225.out) (Kd.R_base ho0) hb); have n1_ := Aside0.mk (Kd.R_lower (Kd.R_new' ho0 (Kd.R_lt (by (with_reducible repeat (first | apply Kd.R_alloc | apply Kd.R_drewN | apply Kd.R_drew)); exact HO225.out))) (below_size (by repeat (first | (with_reducible first | exact HB.out | apply below_alloc | apply pw_below_drewN | apply below_drew1) | exact HB.out)))); have n2_ := Aside0.mk (below_step (by repeat (first | (with_reducible first | exact HB.out | apply below_alloc | apply pw_below_drewN | apply below_drew1) | exact HB.out)) hb); clear HO225; clear HB; have HO225 := n0_; have HO229 := n1_; have HB := n2_; clear n0_ n1_ n2_; (try clear hb); (try clear hb2); (try clear hk); (try clear hi); (try clear ho0)))
    go_ret2
    exact ⟨_, by first | rfl | (simp [errW_none, errW_some] <;> rfl) | (simp [*, errW_none, errW_some] <;> rfl), by (with_reducible repeat (first | apply Kd.R_alloc | apply Kd.R_drewN | apply Kd.R_drew)); exact Kd.R_mono HO229.out (fun _ hk => trivial), by repeat (first | (with_reducible first | exact HB.out | apply below_alloc | apply pw_below_drewN | apply below_drew1) | exact HB.out)⟩
  · replace c4 := Bool.eq_false_iff.mpr c4
    subst c4
    have H1 : (some (([] : List (S42)), 2)) = some (r1, r2) := by rw [if_neg (show ¬ (false = true) by decide)] at H; exact H
    clear H
    have H := H1
    clear H1
    simp only [Option.some.injEq, Prod.mk.injEq] at H
    obtain ⟨rfl, rfl⟩ := H
    go_enter Try.func16, Try.ntmps16
    go_wp2_with (first | ((with_reducible refine gate_callee (f := 51) rfl ?_); refine goesL_ (some 8) rfl rfl Try.func51 (by kernel_rfl) rfl #[.int .i64 a0, .int .i64 a1, .int .i64 0] rfl (by (try simp only [List.map_toArray, List.map_cons, List.map_nil]); first | done | rfl | (simp only [List.length_drop, List.length_take]; rfl)) ?_; (with_reducible refine (locks_may.calls a0 a1 0 false _ A3.out).mono ?_); rintro e w' ⟨rfl, ⟨nd, rfl⟩⟩; refine ⟨_, rfl, ?_⟩))
    go_ret2
    exact ⟨_, by first | rfl | (simp [errW_none, errW_some] <;> rfl) | (simp [*, errW_none, errW_some] <;> rfl), by first | exact Kd.R_nil _ _ _ _ _ | exact Kd.N_nil _ _ _ _ _ | exact Kd.V_nil _ _ _ _ _ | exact Kd.Q_nil _ _ _ _ _ | exact Kd.S_nil _ _ _ _ _, by repeat (first | (with_reducible first | exact HB.out | apply below_alloc | apply pw_below_drewN | apply below_drew1) | exact HB.out)⟩

end Go.Proofs.Ytmfcfihpmollfaa.PLocksCounts
