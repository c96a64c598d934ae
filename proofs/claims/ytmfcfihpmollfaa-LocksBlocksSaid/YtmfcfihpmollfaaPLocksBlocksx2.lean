-- Written by a program of this session, over the kit's print; the contracts of some functions by hand.
import Derived.Test.YtmfcfihpmollfaaPLocksBlocksx0
import Derived.Test.YtmfcfihpmollfaaPLocksBlocksx1
namespace Go.Proofs.Ytmfcfihpmollfaa.PLocksBlocks
open Go.RowKit Go.Proofs.YtmfcfihpmollfaaW.PrintWords Go.Proofs.YtmfcfihpmollfaaW.PrintLast Go.Proofs.YtmfcfihpmollfaaW.PrintMore
attribute [local go_sem] max2_int min2_int max_two min_two max_three min_three max_four min_four   -- for this text's walks alone
set_option linter.unusedVariables false
set_option linter.unusedSimpArgs false

attribute [local go_sem high] eqA42
/-! ### locks_may: function 51 -/
def locks_may.f (a0 : Int) (a1 : Int) (a2 : Int) : Option (Bool) := if a0 ≥ 0 then (if a0 ≤ 64 then (if a1 ≥ 0 then (if a1 < 12 then (if a2 ≥ 0 then (some (decide (a2 < 4))) else (some false)) else (some false)) else (some false)) else (some false)) else (some false)
set_option maxHeartbeats 8000000 in
set_option maxRecDepth 100000 in
theorem locks_may.calls (a0 : Int) (a1 : Int) (a2 : Int) (r : Bool) (w : World) (h : locks_may.f a0 a1 a2 = some r) :
    Calls Try.prog 51 #[.int .i64 a0, .int .i64 a1, .int .i64 a2] w fun e w' => e = .returned (.bool r) ∧ Drawn0 w w' := by
  have H : (if a0 ≥ 0 then (if a0 ≤ 64 then (if a1 ≥ 0 then (if a1 < 12 then (if a2 ≥ 0 then (some (decide (a2 < 4))) else (some false)) else (some false)) else (some false)) else (some false)) else (some false)) = some r := h
  clear h
  by_cases c4 : a0 ≥ 0
  · rw [if_pos c4] at H
    have c4b0 : decide (0 ≤ a0) = true := decide_eq_true c4
    clear c4
    by_cases c5 : a0 ≤ 64
    · rw [if_pos c5] at H
      have c5b0 : decide (a0 ≤ 64) = true := decide_eq_true c5
      clear c5
      by_cases c6 : a1 ≥ 0
      · rw [if_pos c6] at H
        have c6b0 : decide (0 ≤ a1) = true := decide_eq_true c6
        clear c6
        by_cases c7 : a1 < 12
        · rw [if_pos c7] at H
          have c7b0 : decide (a1 < 12) = true := decide_eq_true c7
          clear c7
          by_cases c8 : a2 ≥ 0
          · rw [if_pos c8] at H
            have c8b0 : decide (0 ≤ a2) = true := decide_eq_true c8
            clear c8
            obtain rfl := Option.some.inj H
            go_enter Try.func51, Try.ntmps51
            go_wp2
            go_ret
            exact ⟨by first | rfl | (simp; done) | (simp [*]; done), by repeat (first | exact Drawn0.refl _ | apply Drawn0.step)⟩
          · rw [if_neg c8] at H
            have c8b0 : decide (0 ≤ a2) = false := decide_eq_false c8
            clear c8
            obtain rfl := Option.some.inj H
            go_enter Try.func51, Try.ntmps51
            go_wp2
            go_ret
            exact ⟨by first | rfl | (simp; done) | (simp [*]; done), by repeat (first | exact Drawn0.refl _ | apply Drawn0.step)⟩
        · rw [if_neg c7] at H
          have c7b0 : decide (a1 < 12) = false := decide_eq_false c7
          clear c7
          obtain rfl := Option.some.inj H
          go_enter Try.func51, Try.ntmps51
          go_wp2
          go_ret
          exact ⟨by first | rfl | (simp; done) | (simp [*]; done), by repeat (first | exact Drawn0.refl _ | apply Drawn0.step)⟩
      · rw [if_neg c6] at H
        have c6b0 : decide (0 ≤ a1) = false := decide_eq_false c6
        clear c6
        obtain rfl := Option.some.inj H
        go_enter Try.func51, Try.ntmps51
        go_wp2
        go_ret
        exact ⟨by first | rfl | (simp; done) | (simp [*]; done), by repeat (first | exact Drawn0.refl _ | apply Drawn0.step)⟩
    · rw [if_neg c5] at H
      have c5b0 : decide (a0 ≤ 64) = false := decide_eq_false c5
      clear c5
      obtain rfl := Option.some.inj H
      go_enter Try.func51, Try.ntmps51
      go_wp2
      go_ret
      exact ⟨by first | rfl | (simp; done) | (simp [*]; done), by repeat (first | exact Drawn0.refl _ | apply Drawn0.step)⟩
  · rw [if_neg c4] at H
    have c4b0 : decide (0 ≤ a0) = false := decide_eq_false c4
    clear c4
    obtain rfl := Option.some.inj H
    go_enter Try.func51, Try.ntmps51
    go_wp2
    go_ret
    exact ⟨by first | rfl | (simp; done) | (simp [*]; done), by repeat (first | exact Drawn0.refl _ | apply Drawn0.step)⟩

/-! ### rowlockref22_place: function 97 -/
def rowlockref22_place.f (a0 : Int) : Option (Bool) := if a0 = 21 then (some true) else (if a0 = 23 then (some true) else (if a0 = 24 then (some true) else (if a0 = 19 then (some true) else (some (a0 == 20)))))
set_option maxHeartbeats 8000000 in
set_option maxRecDepth 100000 in
theorem rowlockref22_place.calls (a0 : Int) (r : Bool) (w : World) (h : rowlockref22_place.f a0 = some r) :
    Calls Try.prog 97 #[.int .u8 a0] w fun e w' => e = .returned (.bool r) ∧ Drawn0 w w' := by
  have H : (if a0 = 21 then (some true) else (if a0 = 23 then (some true) else (if a0 = 24 then (some true) else (if a0 = 19 then (some true) else (some (a0 == 20)))))) = some r := h
  clear h
  by_cases c2 : a0 = 21
  · rw [if_pos c2] at H
    have c2b0 : (a0 == 21) = true := beq_iff_eq.mpr c2
    have c2b1 : (a0 != 21) = false := bne_eq_false_iff_eq.mpr c2
    clear c2
    obtain rfl := Option.some.inj H
    go_enter Try.func97, Try.ntmps97
    go_wp2
    go_ret
    exact ⟨by first | rfl | (simp; done) | (simp [*]; done), by repeat (first | exact Drawn0.refl _ | apply Drawn0.step)⟩
  · rw [if_neg c2] at H
    have c2b0 : (a0 == 21) = false := beq_eq_false_iff_ne.mpr c2
    have c2b1 : (a0 != 21) = true := bne_iff_ne.mpr c2
    by_cases c3 : a0 = 23
    · rw [if_pos c3] at H
      have c3b0 : (a0 == 23) = true := beq_iff_eq.mpr c3
      have c3b1 : (a0 != 23) = false := bne_eq_false_iff_eq.mpr c3
      clear c3
      obtain rfl := Option.some.inj H
      go_enter Try.func97, Try.ntmps97
      go_wp2
      go_ret
      exact ⟨by first | rfl | (simp; done) | (simp [*]; done), by repeat (first | exact Drawn0.refl _ | apply Drawn0.step)⟩
    · rw [if_neg c3] at H
      have c3b0 : (a0 == 23) = false := beq_eq_false_iff_ne.mpr c3
      have c3b1 : (a0 != 23) = true := bne_iff_ne.mpr c3
      by_cases c4 : a0 = 24
      · rw [if_pos c4] at H
        have c4b0 : (a0 == 24) = true := beq_iff_eq.mpr c4
        have c4b1 : (a0 != 24) = false := bne_eq_false_iff_eq.mpr c4
        clear c4
        obtain rfl := Option.some.inj H
        go_enter Try.func97, Try.ntmps97
        go_wp2
        go_ret
        exact ⟨by first | rfl | (simp; done) | (simp [*]; done), by repeat (first | exact Drawn0.refl _ | apply Drawn0.step)⟩
      · rw [if_neg c4] at H
        have c4b0 : (a0 == 24) = false := beq_eq_false_iff_ne.mpr c4
        have c4b1 : (a0 != 24) = true := bne_iff_ne.mpr c4
        by_cases c5 : a0 = 19
        · rw [if_pos c5] at H
          have c5b0 : (a0 == 19) = true := beq_iff_eq.mpr c5
          have c5b1 : (a0 != 19) = false := bne_eq_false_iff_eq.mpr c5
          clear c5
          obtain rfl := Option.some.inj H
          go_enter Try.func97, Try.ntmps97
          go_wp2
          go_ret
          exact ⟨by first | rfl | (simp; done) | (simp [*]; done), by repeat (first | exact Drawn0.refl _ | apply Drawn0.step)⟩
        · rw [if_neg c5] at H
          have c5b0 : (a0 == 19) = false := beq_eq_false_iff_ne.mpr c5
          have c5b1 : (a0 != 19) = true := bne_iff_ne.mpr c5
          obtain rfl := Option.some.inj H
          go_enter Try.func97, Try.ntmps97
          go_wp2
          go_ret
          exact ⟨by first | rfl | (simp; done) | (simp [*]; done), by repeat (first | exact Drawn0.refl _ | apply Drawn0.step)⟩

/-! ### rowlockref22_At: function 57 -/
def rowlockref22_At.l0 : Nat → Int → List (S42) → List (S42) → Int → Option ((List (S42)) × Int)
  | 0, _, _, _, _ => none
  | k + 1, x0, x1, x6, x7 => if x7 < (x1.length : Int) then (if 0 ≤ x7 then ((rowlockref22_place.f ((rd_T42 x1 x7).f0)).bind fun t103 => (if t103 = true then (if x6.length < 5864062014805 then (rowlockref22_At.l0 k x0 x1 (x6 ++ [(⟨(rd_T42 x1 x7).f0, wrap64 (((rd_T42 x1 x7).f1) + x0), (rd_T42 x1 x7).f2⟩ : S42)]) (wrap64 (x7 + 1))) else (none)) else (if x6.length < 5864062014805 then (rowlockref22_At.l0 k x0 x1 (x6 ++ [(⟨(rd_T42 x1 x7).f0, (rd_T42 x1 x7).f1, (rd_T42 x1 x7).f2⟩ : S42)]) (wrap64 (x7 + 1))) else (none)))) else (none)) else (some (x6, 0))
def rowlockref22_At.f (k : Nat) (a0 : Int) (l1 : List (S42)) : Option ((List (S42)) × Int) := if (l1.length : Int) > (wrap64 (64 - a0)) then (some (([] : List (S42)), 4)) else (rowlockref22_At.l0 k a0 l1 ([] : List (S42)) 0)
theorem rowlockref22_At.mono_l : ∀ k, (∀ y0 y1 y2 y3, LeO (rowlockref22_At.l0 k y0 y1 y2 y3) (rowlockref22_At.l0 (k + 1) y0 y1 y2 y3))
  | 0 => fun _ _ _ _ r h => by simp [rowlockref22_At.l0] at h
  | k + 1 => by
    have ih0 := rowlockref22_At.mono_l k
    · intro y0 y1 y2 y3
      unfold rowlockref22_At.l0
      repeat' first
      | (with_reducible exact ih0 _ _ _ _)
      | (with_reducible exact LeO.refl _)
      | (with_reducible exact LeO.none _)
      | (with_reducible refine LeO.ite ?_ ?_)
      | (with_reducible refine LeO.bind ?_ (fun _ => ?_))
      | exact ih0 _ _ _ _
      | exact LeO.none _
      | refine LeO.ite ?_ ?_
      | refine LeO.bind ?_ (fun _ => ?_)
theorem rowlockref22_At.mono : ∀ a0 a1 k, LeO (rowlockref22_At.f k a0 a1) (rowlockref22_At.f (k + 1) a0 a1) := by
  intro a0 a1 k
  have ih0 := rowlockref22_At.mono_l k
  unfold rowlockref22_At.f
  repeat' first
      | (with_reducible exact ih0 _ _ _ _)
      | (with_reducible exact LeO.refl _)
      | (with_reducible exact LeO.none _)
      | (with_reducible refine LeO.ite ?_ ?_)
      | (with_reducible refine LeO.bind ?_ (fun _ => ?_))
      | exact ih0 _ _ _ _
      | exact LeO.none _
      | refine LeO.ite ?_ ?_
      | refine LeO.bind ?_ (fun _ => ?_)
set_option maxHeartbeats 8000000 in
set_option maxRecDepth 100000 in
theorem rowlockref22_At.calls (k : Nat) (a0 : Int) (A1 : Option Addr) (c1 : Nat) (l1 : List (S42)) (r1 : List (S42)) (r2 : Int) (w : World) (hr1 : Kd.C k42 w A1 l1.length l1) (hc1 : l1.length ≤ c1) (h : rowlockref22_At.f k a0 l1 = some (r1, r2)) :
    Calls Try.prog 57 #[.int .i64 a0, .slice A1 l1.length c1] w fun e w' => ∃ v0_ : Value, e = .returned (.tuple #[v0_, .int .i64 r2]) ∧ Kd.R k42 42 w' w.heap.size (fun _ => True) v0_ r1 ∧ Below w.heap.size w w' := by
  have hu42 := Try.underlying42
  have HR1 := Aside0.mk hr1
  have HC1 := Aside0.mk hc1
  clear hr1 hc1
  have HB := Aside0.mk (Below.refl w.heap.size w)
  have H : (if (l1.length : Int) > (wrap64 (64 - a0)) then (some (([] : List (S42)), 4)) else (rowlockref22_At.l0 k a0 l1 ([] : List (S42)) 0)) = some (r1, r2) := h
  clear h
  by_cases c3 : (l1.length : Int) > (wrap64 (64 - a0))
  · rw [if_pos c3] at H
    have c3b0 : decide ((wrap64 (64 - a0)) < (l1.length : Int)) = true := decide_eq_true c3
    clear c3
    simp only [Option.some.injEq, Prod.mk.injEq] at H
    obtain ⟨rfl, rfl⟩ := H
    go_enter Try.func57, Try.ntmps57
    go_wp2
    go_ret2
    exact ⟨_, by first | rfl | (simp [errW_none, errW_some] <;> rfl) | (simp [*, errW_none, errW_some] <;> rfl), by first | exact Kd.R_nil _ _ _ _ _ | exact Kd.N_nil _ _ _ _ _ | exact Kd.V_nil _ _ _ _ _ | exact Kd.Q_nil _ _ _ _ _ | exact Kd.S_nil _ _ _ _ _, by repeat (first | (with_reducible first | exact HB.out | apply below_alloc | apply pw_below_drewN | apply below_drew1) | exact HB.out)⟩
  · rw [if_neg c3] at H
    have c3b0 : decide ((wrap64 (64 - a0)) < (l1.length : Int)) = false := decide_eq_false c3
    clear c3
    have H' := Aside0.mk H
    clear H
    go_enter Try.func57, Try.ntmps57
    go_wp2
    go_loopg [6, 7] k (fun kq v6 v7 w' => ∃ (x6_1 : List (S42)) (x7_1 : Int), v7 = .int .i64 x7_1 ∧ Aside0 (rowlockref22_At.l0 kq a0 l1 x6_1 x7_1 = some (r1, r2)) ∧ Aside0 (kq ≤ k) ∧ Aside0 (Kd.R k42 42 w' w.heap.size (fun _ => True) v6 x6_1) ∧ Aside0 (Below w.heap.size w w'))
    case atStart => exact ⟨(([] : List (S42))), (0), (by first | rfl | (simp; done) | (simp [*]; done)), H', ⟨Nat.le_refl _⟩, ⟨by first | exact Kd.R_nil _ _ _ _ _ | exact Kd.N_nil _ _ _ _ _ | exact Kd.V_nil _ _ _ _ _ | exact Kd.Q_nil _ _ _ _ _ | exact Kd.S_nil _ _ _ _ _⟩, ⟨by repeat (first | (with_reducible first | exact HB.out | apply below_alloc | apply pw_below_drewN | apply below_drew1) | exact HB.out)⟩⟩
    case round =>
      clear H'
      try clear c1
      try clear p2
      try clear c3
      try clear c3b0
      obtain ⟨x6_1, x7_1, rfl, HA, HK1, HO_6, HB⟩ := hrel
      cases gk with
      | zero => exact absurd HA.out (by simp [rowlockref22_At.l0])
      | succ k1 =>
        have H := HA.out
        clear HA
        simp only [rowlockref22_At.l0] at H
        by_cases c4 : x7_1 < (l1.length : Int)
        · rw [if_pos c4] at H
          have c4b0 : decide (x7_1 < (l1.length : Int)) = true := decide_eq_true c4
          clear c4
          by_cases c5 : 0 ≤ x7_1
          · rw [if_pos c5] at H
            have c5b0 : decide (0 ≤ x7_1) = true := decide_eq_true c5
            clear c5
            replace H := Option.bind_eq_some_iff.mp H
            obtain ⟨t103, A60, H⟩ := H
            replace H : (if t103 = true then (if x6_1.length < 5864062014805 then (rowlockref22_At.l0 k1 a0 l1 (x6_1 ++ [(⟨(rd_T42 l1 x7_1).f0, wrap64 (((rd_T42 l1 x7_1).f1) + a0), (rd_T42 l1 x7_1).f2⟩ : S42)]) (wrap64 (x7_1 + 1))) else (none)) else (if x6_1.length < 5864062014805 then (rowlockref22_At.l0 k1 a0 l1 (x6_1 ++ [(⟨(rd_T42 l1 x7_1).f0, (rd_T42 l1 x7_1).f1, (rd_T42 l1 x7_1).f2⟩ : S42)]) (wrap64 (x7_1 + 1))) else (none))) = some (r1, r2) := H
            have A6 := Aside0.mk A60
            clear A60
            by_cases c7 : t103 = true
            · subst c7
              have H1 : (if x6_1.length < 5864062014805 then (rowlockref22_At.l0 k1 a0 l1 (x6_1 ++ [(⟨(rd_T42 l1 x7_1).f0, wrap64 (((rd_T42 l1 x7_1).f1) + a0), (rd_T42 l1 x7_1).f2⟩ : S42)]) (wrap64 (x7_1 + 1))) else (none)) = some (r1, r2) := by rw [if_pos rfl] at H; exact H
              clear H
              have H := H1
              clear H1
              by_cases c8 : x6_1.length < 5864062014805
              · rw [if_pos c8] at H
                have LMc8 := Aside0.mk c8
                clear c8
                obtain ⟨y104, hy104⟩ : ∃ y_ : List (S42), y_ = (x6_1 ++ [(⟨(rd_T42 l1 x7_1).f0, wrap64 (((rd_T42 l1 x7_1).f1) + a0), (rd_T42 l1 x7_1).f2⟩ : S42)]) := ⟨_, rfl⟩
                replace H : (rowlockref22_At.l0 k1 a0 l1 y104 (wrap64 (x7_1 + 1))) = some (r1, r2) := by first | (rw [hy104]; with_reducible exact H) | (have H2_ := (Option.bind_some _ _).symm.trans H; rw [hy104]; with_reducible exact H2_) | (have H2_ := (Option.bind_some _ _).symm.trans H; with_reducible exact H2_) | with_reducible exact H | (rw [hy104]; exact H) | exact H
                have Ny104 := Aside0.mk hy104
                clear hy104
                have H' := Aside0.mk H
                clear H
                have p101 : 0 ≤ (x7_1 : Int) := of_decide_eq_true (by first | (with_reducible assumption) | assumption)
                have q101 : x7_1 < (l1.length : Int) := of_decide_eq_true (by first | (with_reducible assumption) | assumption)
                obtain ⟨ad101, e101, hx101_0, hx101_1, hx101_2⟩ := at_T42 HR1.out x7_1 p101 q101
                cases e101
                replace hx101_0 := (HB.out.cell (World.block_lt_of_cell? w _ hx101_0)).trans hx101_0
                replace hx101_1 := (HB.out.cell (World.block_lt_of_cell? w _ hx101_1)).trans hx101_1
                replace hx101_2 := (HB.out.cell (World.block_lt_of_cell? w _ hx101_2)).trans hx101_2
                replace p101 := eq_true p101
                replace q101 := eq_true q101
                go_wp2_with (first | ((with_reducible refine gate_dst (N := 8) rfl ?_); refine box_event ?hg (N := 8) ?hd (cs := #[.int .u8 0, .int .i64 0, .int .u64 0]) (t := 42) ?hr ?_; (case hd => rfl); (case hg => rfl); (case hr => first | (go_simp; done) | (go_simp; rfl)); intro gb102 hg w9 hbox hb; have n0_ := Aside0.mk (Kd.R_below (Kd.R_elderB (by (with_reducible repeat (first | apply Kd.R_alloc | apply Kd.R_drewN | apply Kd.R_drew)); exact HO_6.out) gb102 (Nat.le_of_eq hg.symm)) hb); have n1_ := Aside0.mk (below_step (by repeat (first | (with_reducible first | exact HB.out | apply below_alloc | apply pw_below_drewN | apply below_drew1) | exact HB.out)) hb); have n2_ := Aside0.mk (hbox); have n3_ := Aside0.mk ((by rw [hg]; exact (below_size (by repeat (first | (with_reducible first | exact HB.out | apply below_alloc | apply pw_below_drewN | apply below_drew1) | exact HB.out))) : w.heap.size ≤ gb102)); have n4_ := Aside0.mk ((by rw [hg]; exact (below_size (by repeat (first | (with_reducible first | exact HB.out | apply below_alloc | apply pw_below_drewN | apply below_drew1) | exact HB.out))) : w.heap.size ≤ gb102)); clear HO_6; clear HB; have HO_6 := n0_; have HB := n1_; have BK102 := n2_; have GW102 := n3_; have GE102 := n4_; clear n0_ n1_ n2_ n3_ n4_; clear hb hbox hg; have hcz10_0 : w9.cell? ⟨gb102, 0, none⟩ = some (.int .u8 0) := (blk_cell BK102.out 0).trans rfl; have hcz10_1 : w9.cell? ⟨gb102, 1, none⟩ = some (.int .i64 0) := (blk_cell BK102.out 1).trans rfl; have hcz10_2 : w9.cell? ⟨gb102, 2, none⟩ = some (.int .u64 0) := (blk_cell BK102.out 2).trans rfl; have hfz10_0 := blk_frozen BK102.out 0; have hfz10_1 := blk_frozen BK102.out 1; have hfz10_2 := blk_frozen BK102.out 2) | ((with_reducible refine gate_callee (f := 97) rfl ?_); refine goesL_ (some 26) rfl rfl Try.func97 (by kernel_rfl) rfl #[.int .u8 ((rd_T42 l1 x7_1).f0)] rfl (by (try simp only [List.map_toArray, List.map_cons, List.map_nil]); first | done | rfl | (simp only [List.length_drop, List.length_take]; rfl)) ?_; (with_reducible refine (rowlockref22_place.calls ((rd_T42 l1 x7_1).f0) true _ A6.out).mono ?_); rintro e w' ⟨rfl, ⟨nd, rfl⟩⟩; refine ⟨_, rfl, ?_⟩; have hq1_ : ((((w9.setCell ⟨gb102, 0, none⟩ (.int .u8 ((rd_T42 l1 x7_1).f0))).setCell ⟨gb102, 1, none⟩ (.int .i64 ((rd_T42 l1 x7_1).f1))).setCell ⟨gb102, 2, none⟩ (.int .u64 ((rd_T42 l1 x7_1).f2))).drewN nd).cell? ⟨gb102, 1, none⟩ = some (.int .i64 ((rd_T42 l1 x7_1).f1)) := (blk_cell (cs := #[.int .u8 ((rd_T42 l1 x7_1).f0), .int .i64 ((rd_T42 l1 x7_1).f1), .int .u64 ((rd_T42 l1 x7_1).f2)]) (t := 42) (by refine blk_drewN ?_ _; refine blk_put (cs := #[.int .u8 ((rd_T42 l1 x7_1).f0), .int .i64 ((rd_T42 l1 x7_1).f1), .int .u64 0]) ?_ 2 _ rfl; refine blk_put (cs := #[.int .u8 ((rd_T42 l1 x7_1).f0), .int .i64 0, .int .u64 0]) ?_ 1 _ rfl; refine blk_put (cs := #[.int .u8 0, .int .i64 0, .int .u64 0]) ?_ 0 _ rfl; exact BK102.out) 1).trans rfl) | ((with_reducible refine gate_builtin (b := .append) (xs := #[.tmp 32, .tmp 34]) rfl ?_); at_builtin; refine Kd.R_append k42 (w0 := w) w.heap.size rfl (.tmp 32) (.tmp 34) 22 42 (.agg #[(.int .u8 0), (.int .i64 0), (.int .u64 0)]) 24 rfl Try.underlying22 info42 rfl (by decide) (by omega) u6 x6_1 (⟨(rd_T42 l1 x7_1).f0, wrap64 (((rd_T42 l1 x7_1).f1) + a0), (rd_T42 l1 x7_1).f2⟩ : S42) [.int .u8 ((rd_T42 l1 x7_1).f0), .int .i64 (wrap64 (((rd_T42 l1 x7_1).f1) + a0)), .int .u64 ((rd_T42 l1 x7_1).f2)] (fun k_ => k_ ≠ gb102) (fun _ => False) rfl (by first | (go_simp; done) | (go_simp; rfl)) ?aP (fun _ hk => hk.elim) ?aF ?aO ?aB ?aS ?aL ?_; (case aP => exact k42_mkM _ _ _ (⟨(rd_T42 l1 x7_1).f0, wrap64 (((rd_T42 l1 x7_1).f1) + a0), (rd_T42 l1 x7_1).f2⟩ : S42)); (case aB => exact (by repeat (first | (with_reducible first | exact HB.out | apply below_alloc | apply pw_below_drewN | apply below_drew1 | refine below_set ?_ GE102.out) | exact HB.out))); (case aF => exact (fun k_ hk => Kd.freshB (g := gb102) (o := .cells #[.int .u8 ((rd_T42 l1 x7_1).f0), .int .i64 (wrap64 (((rd_T42 l1 x7_1).f1) + a0)), .int .u64 ((rd_T42 l1 x7_1).f2)] 42 (0, 0)) (by (with_reducible repeat (first | refine blk_drewN ?_ _ | refine blk_drew ?_ | refine blk_alloc ?_ _)); refine blk_put (cs := #[.int .u8 ((rd_T42 l1 x7_1).f0), .int .i64 ((rd_T42 l1 x7_1).f1), .int .u64 ((rd_T42 l1 x7_1).f2)]) ?_ 1 _ rfl; (with_reducible repeat (first | refine blk_drewN ?_ _ | refine blk_drew ?_ | refine blk_alloc ?_ _)); refine blk_put (cs := #[.int .u8 ((rd_T42 l1 x7_1).f0), .int .i64 ((rd_T42 l1 x7_1).f1), .int .u64 0]) ?_ 2 _ rfl; (with_reducible repeat (first | refine blk_drewN ?_ _ | refine blk_drew ?_ | refine blk_alloc ?_ _)); refine blk_put (cs := #[.int .u8 ((rd_T42 l1 x7_1).f0), .int .i64 0, .int .u64 0]) ?_ 1 _ rfl; (with_reducible repeat (first | refine blk_drewN ?_ _ | refine blk_drew ?_ | refine blk_alloc ?_ _)); refine blk_put (cs := #[.int .u8 0, .int .i64 0, .int .u64 0]) ?_ 0 _ rfl; (with_reducible repeat (first | refine blk_drewN ?_ _ | refine blk_drew ?_ | refine blk_alloc ?_ _)); exact BK102.out) k_ hk)); (case aO => exact (by (with_reducible repeat (first | apply Kd.R_alloc | apply Kd.R_drewN | apply Kd.R_drew)); exact Kd.R_mono (Kd.R_far (p := ⟨gb102, 1, none⟩) (Kd.R_far (p := ⟨gb102, 2, none⟩) (Kd.R_far (p := ⟨gb102, 1, none⟩) (Kd.R_far (p := ⟨gb102, 0, none⟩) (Kd.R_mono HO_6.out (fun k_ hk => (⟨hk, hk.2⟩ : _ ∧ k_ ≠ gb102))) (fun _ hk => hk.2) (.int .u8 ((rd_T42 l1 x7_1).f0))) (fun _ hk => hk.2) (.int .i64 ((rd_T42 l1 x7_1).f1))) (fun _ hk => hk.2) (.int .u64 ((rd_T42 l1 x7_1).f2))) (fun _ hk => hk.2) (.int .i64 (wrap64 (((rd_T42 l1 x7_1).f1) + a0)))) (fun _ hk => hk.1.2))); (case aS => exact (below_size (by repeat (first | (with_reducible first | exact HB.out | apply below_alloc | apply pw_below_drewN | apply below_drew1 | refine below_set ?_ GE102.out) | exact HB.out)))); (case aL => have := LMc8.out; omega); intro v105 w11 ho hb hg hat; rw [← Ny104.out] at ho; have n0_ := Aside0.mk (blk_grown (g := gb102) (o := .cells #[.int .u8 ((rd_T42 l1 x7_1).f0), .int .i64 (wrap64 (((rd_T42 l1 x7_1).f1) + a0)), .int .u64 ((rd_T42 l1 x7_1).f2)] 42 (0, 0)) (by (with_reducible repeat (first | refine blk_drewN ?_ _ | refine blk_drew ?_ | refine blk_alloc ?_ _)); refine blk_put (cs := #[.int .u8 ((rd_T42 l1 x7_1).f0), .int .i64 ((rd_T42 l1 x7_1).f1), .int .u64 ((rd_T42 l1 x7_1).f2)]) ?_ 1 _ rfl; (with_reducible repeat (first | refine blk_drewN ?_ _ | refine blk_drew ?_ | refine blk_alloc ?_ _)); refine blk_put (cs := #[.int .u8 ((rd_T42 l1 x7_1).f0), .int .i64 ((rd_T42 l1 x7_1).f1), .int .u64 0]) ?_ 2 _ rfl; (with_reducible repeat (first | refine blk_drewN ?_ _ | refine blk_drew ?_ | refine blk_alloc ?_ _)); refine blk_put (cs := #[.int .u8 ((rd_T42 l1 x7_1).f0), .int .i64 0, .int .u64 0]) ?_ 1 _ rfl; (with_reducible repeat (first | refine blk_drewN ?_ _ | refine blk_drew ?_ | refine blk_alloc ?_ _)); refine blk_put (cs := #[.int .u8 0, .int .i64 0, .int .u64 0]) ?_ 0 _ rfl; (with_reducible repeat (first | refine blk_drewN ?_ _ | refine blk_drew ?_ | refine blk_alloc ?_ _)); exact BK102.out) hg (Kd.R_away HO_6.out (fun _ hk => hk.2))); have n1_ := Aside0.mk (hb); have n2_ := Aside0.mk (ho); clear BK102; clear HB; clear HO_6; have BK102 := n0_; have HB := n1_; have HO106 := n2_; clear n0_ n1_ n2_; clear ho hb hg hat))
                go_roundg k1
                case measure => have := HK1.out; omega
                case rel => exact ⟨(y104), (wrap64 (x7_1 + 1)), (by first | rfl | (simp; done) | (simp [*]; done)), H', ⟨by have := HK1.out; omega⟩, ⟨by (with_reducible repeat (first | apply Kd.R_alloc | apply Kd.R_drewN | apply Kd.R_drew)); exact Kd.R_mono HO106.out (fun _ hk => trivial)⟩, ⟨by repeat (first | (with_reducible first | exact HB.out | apply below_alloc | apply pw_below_drewN | apply below_drew1 | refine below_set ?_ GE102.out) | exact HB.out)⟩⟩
              · rw [if_neg c8] at H
                exact absurd H (by simp)
            · replace c7 := Bool.eq_false_iff.mpr c7
              subst c7
              have H1 : (if x6_1.length < 5864062014805 then (rowlockref22_At.l0 k1 a0 l1 (x6_1 ++ [(⟨(rd_T42 l1 x7_1).f0, (rd_T42 l1 x7_1).f1, (rd_T42 l1 x7_1).f2⟩ : S42)]) (wrap64 (x7_1 + 1))) else (none)) = some (r1, r2) := by rw [if_neg (show ¬ (false = true) by decide)] at H; exact H
              clear H
              have H := H1
              clear H1
              by_cases c12 : x6_1.length < 5864062014805
              · rw [if_pos c12] at H
                have LMc12 := Aside0.mk c12
                clear c12
                obtain ⟨y107, hy107⟩ : ∃ y_ : List (S42), y_ = (x6_1 ++ [(⟨(rd_T42 l1 x7_1).f0, (rd_T42 l1 x7_1).f1, (rd_T42 l1 x7_1).f2⟩ : S42)]) := ⟨_, rfl⟩
                replace H : (rowlockref22_At.l0 k1 a0 l1 y107 (wrap64 (x7_1 + 1))) = some (r1, r2) := by first | (rw [hy107]; with_reducible exact H) | (have H2_ := (Option.bind_some _ _).symm.trans H; rw [hy107]; with_reducible exact H2_) | (have H2_ := (Option.bind_some _ _).symm.trans H; with_reducible exact H2_) | with_reducible exact H | (rw [hy107]; exact H) | exact H
                have Ny107 := Aside0.mk hy107
                clear hy107
                have H' := Aside0.mk H
                clear H
                have p101 : 0 ≤ (x7_1 : Int) := of_decide_eq_true (by first | (with_reducible assumption) | assumption)
                have q101 : x7_1 < (l1.length : Int) := of_decide_eq_true (by first | (with_reducible assumption) | assumption)
                obtain ⟨ad101, e101, hx101_0, hx101_1, hx101_2⟩ := at_T42 HR1.out x7_1 p101 q101
                cases e101
                replace hx101_0 := (HB.out.cell (World.block_lt_of_cell? w _ hx101_0)).trans hx101_0
                replace hx101_1 := (HB.out.cell (World.block_lt_of_cell? w _ hx101_1)).trans hx101_1
                replace hx101_2 := (HB.out.cell (World.block_lt_of_cell? w _ hx101_2)).trans hx101_2
                replace p101 := eq_true p101
                replace q101 := eq_true q101
                go_wp2_with (first | ((with_reducible refine gate_dst (N := 8) rfl ?_); refine box_event ?hg (N := 8) ?hd (cs := #[.int .u8 0, .int .i64 0, .int .u64 0]) (t := 42) ?hr ?_; (case hd => rfl); (case hg => rfl); (case hr => first | (go_simp; done) | (go_simp; rfl)); intro gb102 hg w13 hbox hb; have n0_ := Aside0.mk (Kd.R_below (Kd.R_elderB (by (with_reducible repeat (first | apply Kd.R_alloc | apply Kd.R_drewN | apply Kd.R_drew)); exact HO_6.out) gb102 (Nat.le_of_eq hg.symm)) hb); have n1_ := Aside0.mk (below_step (by repeat (first | (with_reducible first | exact HB.out | apply below_alloc | apply pw_below_drewN | apply below_drew1) | exact HB.out)) hb); have n2_ := Aside0.mk (hbox); have n3_ := Aside0.mk ((by rw [hg]; exact (below_size (by repeat (first | (with_reducible first | exact HB.out | apply below_alloc | apply pw_below_drewN | apply below_drew1) | exact HB.out))) : w.heap.size ≤ gb102)); have n4_ := Aside0.mk ((by rw [hg]; exact (below_size (by repeat (first | (with_reducible first | exact HB.out | apply below_alloc | apply pw_below_drewN | apply below_drew1) | exact HB.out))) : w.heap.size ≤ gb102)); clear HO_6; clear HB; have HO_6 := n0_; have HB := n1_; have BK102 := n2_; have GW102 := n3_; have GE102 := n4_; clear n0_ n1_ n2_ n3_ n4_; clear hb hbox hg; have hcz14_0 : w13.cell? ⟨gb102, 0, none⟩ = some (.int .u8 0) := (blk_cell BK102.out 0).trans rfl; have hcz14_1 : w13.cell? ⟨gb102, 1, none⟩ = some (.int .i64 0) := (blk_cell BK102.out 1).trans rfl; have hcz14_2 : w13.cell? ⟨gb102, 2, none⟩ = some (.int .u64 0) := (blk_cell BK102.out 2).trans rfl; have hfz14_0 := blk_frozen BK102.out 0; have hfz14_1 := blk_frozen BK102.out 1; have hfz14_2 := blk_frozen BK102.out 2) | ((with_reducible refine gate_callee (f := 97) rfl ?_); refine goesL_ (some 26) rfl rfl Try.func97 (by kernel_rfl) rfl #[.int .u8 ((rd_T42 l1 x7_1).f0)] rfl (by (try simp only [List.map_toArray, List.map_cons, List.map_nil]); first | done | rfl | (simp only [List.length_drop, List.length_take]; rfl)) ?_; (with_reducible refine (rowlockref22_place.calls ((rd_T42 l1 x7_1).f0) false _ A6.out).mono ?_); rintro e w' ⟨rfl, ⟨nd, rfl⟩⟩; refine ⟨_, rfl, ?_⟩) | ((with_reducible refine gate_builtin (b := .append) (xs := #[.tmp 32, .tmp 34]) rfl ?_); at_builtin; refine Kd.R_append k42 (w0 := w) w.heap.size rfl (.tmp 32) (.tmp 34) 22 42 (.agg #[(.int .u8 0), (.int .i64 0), (.int .u64 0)]) 24 rfl Try.underlying22 info42 rfl (by decide) (by omega) u6 x6_1 (⟨(rd_T42 l1 x7_1).f0, (rd_T42 l1 x7_1).f1, (rd_T42 l1 x7_1).f2⟩ : S42) [.int .u8 ((rd_T42 l1 x7_1).f0), .int .i64 ((rd_T42 l1 x7_1).f1), .int .u64 ((rd_T42 l1 x7_1).f2)] (fun k_ => k_ ≠ gb102) (fun _ => False) rfl (by first | (go_simp; done) | (go_simp; rfl)) ?aP (fun _ hk => hk.elim) ?aF ?aO ?aB ?aS ?aL ?_; (case aP => exact k42_mkM _ _ _ (⟨(rd_T42 l1 x7_1).f0, (rd_T42 l1 x7_1).f1, (rd_T42 l1 x7_1).f2⟩ : S42)); (case aB => exact (by repeat (first | (with_reducible first | exact HB.out | apply below_alloc | apply pw_below_drewN | apply below_drew1 | refine below_set ?_ GE102.out) | exact HB.out))); (case aF => exact (fun k_ hk => Kd.freshB (g := gb102) (o := .cells #[.int .u8 ((rd_T42 l1 x7_1).f0), .int .i64 ((rd_T42 l1 x7_1).f1), .int .u64 ((rd_T42 l1 x7_1).f2)] 42 (0, 0)) (by (with_reducible repeat (first | refine blk_drewN ?_ _ | refine blk_drew ?_ | refine blk_alloc ?_ _)); refine blk_put (cs := #[.int .u8 ((rd_T42 l1 x7_1).f0), .int .i64 ((rd_T42 l1 x7_1).f1), .int .u64 0]) ?_ 2 _ rfl; (with_reducible repeat (first | refine blk_drewN ?_ _ | refine blk_drew ?_ | refine blk_alloc ?_ _)); refine blk_put (cs := #[.int .u8 ((rd_T42 l1 x7_1).f0), .int .i64 0, .int .u64 0]) ?_ 1 _ rfl; (with_reducible repeat (first | refine blk_drewN ?_ _ | refine blk_drew ?_ | refine blk_alloc ?_ _)); refine blk_put (cs := #[.int .u8 0, .int .i64 0, .int .u64 0]) ?_ 0 _ rfl; (with_reducible repeat (first | refine blk_drewN ?_ _ | refine blk_drew ?_ | refine blk_alloc ?_ _)); exact BK102.out) k_ hk)); (case aO => exact (by (with_reducible repeat (first | apply Kd.R_alloc | apply Kd.R_drewN | apply Kd.R_drew)); exact Kd.R_mono (Kd.R_far (p := ⟨gb102, 2, none⟩) (Kd.R_far (p := ⟨gb102, 1, none⟩) (Kd.R_far (p := ⟨gb102, 0, none⟩) (Kd.R_mono HO_6.out (fun k_ hk => (⟨hk, hk.2⟩ : _ ∧ k_ ≠ gb102))) (fun _ hk => hk.2) (.int .u8 ((rd_T42 l1 x7_1).f0))) (fun _ hk => hk.2) (.int .i64 ((rd_T42 l1 x7_1).f1))) (fun _ hk => hk.2) (.int .u64 ((rd_T42 l1 x7_1).f2))) (fun _ hk => hk.1.2))); (case aS => exact (below_size (by repeat (first | (with_reducible first | exact HB.out | apply below_alloc | apply pw_below_drewN | apply below_drew1 | refine below_set ?_ GE102.out) | exact HB.out)))); (case aL => have := LMc12.out; omega); intro v108 w15 ho hb hg hat; rw [← Ny107.out] at ho; have n0_ := Aside0.mk (blk_grown (g := gb102) (o := .cells #[.int .u8 ((rd_T42 l1 x7_1).f0), .int .i64 ((rd_T42 l1 x7_1).f1), .int .u64 ((rd_T42 l1 x7_1).f2)] 42 (0, 0)) (by (with_reducible repeat (first | refine blk_drewN ?_ _ | refine blk_drew ?_ | refine blk_alloc ?_ _)); refine blk_put (cs := #[.int .u8 ((rd_T42 l1 x7_1).f0), .int .i64 ((rd_T42 l1 x7_1).f1), .int .u64 0]) ?_ 2 _ rfl; (with_reducible repeat (first | refine blk_drewN ?_ _ | refine blk_drew ?_ | refine blk_alloc ?_ _)); refine blk_put (cs := #[.int .u8 ((rd_T42 l1 x7_1).f0), .int .i64 0, .int .u64 0]) ?_ 1 _ rfl; (with_reducible repeat (first | refine blk_drewN ?_ _ | refine blk_drew ?_ | refine blk_alloc ?_ _)); refine blk_put (cs := #[.int .u8 0, .int .i64 0, .int .u64 0]) ?_ 0 _ rfl; (with_reducible repeat (first | refine blk_drewN ?_ _ | refine blk_drew ?_ | refine blk_alloc ?_ _)); exact BK102.out) hg (Kd.R_away HO_6.out (fun _ hk => hk.2))); have n1_ := Aside0.mk (hb); have n2_ := Aside0.mk (ho); clear BK102; clear HB; clear HO_6; have BK102 := n0_; have HB := n1_; have HO109 := n2_; clear n0_ n1_ n2_; clear ho hb hg hat))
                go_roundg k1
                case measure => have := HK1.out; omega
                case rel => exact ⟨(y107), (wrap64 (x7_1 + 1)), (by first | rfl | (simp; done) | (simp [*]; done)), H', ⟨by have := HK1.out; omega⟩, ⟨by (with_reducible repeat (first | apply Kd.R_alloc | apply Kd.R_drewN | apply Kd.R_drew)); exact Kd.R_mono HO109.out (fun _ hk => trivial)⟩, ⟨by repeat (first | (with_reducible first | exact HB.out | apply below_alloc | apply pw_below_drewN | apply below_drew1 | refine below_set ?_ GE102.out) | exact HB.out)⟩⟩
              · rw [if_neg c12] at H
                exact absurd H (by simp)
          · rw [if_neg c5] at H
            exact absurd H (by simp)
        · rw [if_neg c4] at H
          have c4b0 : decide (x7_1 < (l1.length : Int)) = false := decide_eq_false c4
          clear c4
          simp only [Option.some.injEq, Prod.mk.injEq] at H
          obtain ⟨rfl, rfl⟩ := H
          go_wp2
          go_ret2
          exact ⟨_, by first | rfl | (simp [errW_none, errW_some] <;> rfl) | (simp [*, errW_none, errW_some] <;> rfl), by (with_reducible repeat (first | apply Kd.R_alloc | apply Kd.R_drewN | apply Kd.R_drew)); exact HO_6.out, by repeat (first | (with_reducible first | exact HB.out | apply below_alloc | apply pw_below_drewN | apply below_drew1) | exact HB.out)⟩

/-! ### locks_block: function 52 -/
def locks_block.dom (a0 : Int) (l1 : List (S42)) : Bool := decide (0 ≤ a0 ∧ a0 ≤ 64 ∧ 0 < l1.length ∧ l1.length ≤ 64) && l1.all (fun x => decide (0 ≤ x.f0 ∧ x.f0 ≤ 255 ∧ 0 ≤ x.f1 ∧ x.f1 ≤ 1000))
def locks_block.f (a0 : Int) (l1 : List (S42)) : Option ((List (S42)) × Int) :=
  if locks_block.dom a0 l1 = true then (if 64 < a0 + (l1.length : Int) then some ([], 4) else some (l1.map (fun x => if jumpB x.f0 = true then (⟨x.f0, x.f1 + a0, x.f2⟩ : S42) else x), 0)) else none

def locks_block.tri (l : List (S42)) : List (Int × Int × Int) := l.map fun x => (x.f0, x.f1, x.f2)
theorem locks_block.cells {w : World} {ad : Addr} {l : List (S42)} (hc : ∀ j p, l[j]? = some p → ∃ c, c.length = k42.sz ∧ k42.K w p c ∧ ∀ i u, c[i]? = some u → w.cell? (ad.add (j * k42.sz + i)) = some u) :
    ∀ j u, (insC (locks_block.tri l))[j]? = some u → w.cell? (ad.add j) = some u := by
  intro j u hj
  have hlen := insC_len (locks_block.tri l)
  have hlt : j < l.length * 3 := by
    have := (List.getElem?_eq_some_iff.1 hj).1
    rw [hlen] at this
    simpa [locks_block.tri] using this
  have hq : j / 3 < l.length := by omega
  obtain ⟨c, _, hk, hcell⟩ := hc (j / 3) l[j / 3] (List.getElem?_eq_getElem hq)
  have hk' := k42_open hk
  subst hk'
  have hx : (locks_block.tri l)[j / 3]? = some (l[j / 3].f0, l[j / 3].f1, l[j / 3].f2) := by simp [locks_block.tri, hq]
  obtain ⟨i0, i1, i2⟩ := insC_at _ _ _ hx
  have hm : j % 3 = 0 ∨ j % 3 = 1 ∨ j % 3 = 2 := by omega
  have hsz : k42.sz = 3 := rfl
  rw [hsz] at hcell
  rcases hm with m | m | m
  · have e : j = j / 3 * 3 := by omega
    rw [e, i0] at hj
    rw [e]
    exact hcell 0 u (by simpa using hj)
  · have e : j = j / 3 * 3 + 1 := by omega
    rw [e, i1] at hj
    rw [e]
    exact hcell 1 u (by simpa using hj)
  · have e : j = j / 3 * 3 + 2 := by omega
    rw [e, i2] at hj
    rw [e]
    exact hcell 2 u (by simpa using hj)
theorem locks_block.own {w : World} {base : Nat} {v : Value} {l : List (S42)} (h : w.ownsRow base 42 3 v l.length (insC (locks_block.tri l))) : Kd.R k42 42 w base (fun _ => True) v l := by
  refine ⟨fun _ _ => trivial, _, h, ?_, ?_⟩
  · rw [insC_len]; simp [locks_block.tri]; rfl
  · intro j p hp
    have hx : (locks_block.tri l)[j]? = some (p.f0, p.f1, p.f2) := by simp [locks_block.tri, hp]
    obtain ⟨i0, i1, i2⟩ := insC_at _ _ _ hx
    have e : ((insC (locks_block.tri l)).drop (j * 3)).take 3 = [.int .u8 p.f0, .int .i64 p.f1, .int .u64 p.f2] := by
      apply List.ext_getElem?
      intro i
      rw [List.getElem?_take]
      by_cases hi : i < 3
      · rw [if_pos hi, List.getElem?_drop]
        have hi' : i = 0 ∨ i = 1 ∨ i = 2 := by omega
        rcases hi' with rfl | rfl | rfl
        · rw [Nat.add_zero, i0]; rfl
        · rw [i1]; rfl
        · rw [i2]; rfl
      · rw [if_neg hi, List.getElem?_eq_none (by simp; omega)]
    show k42.M _ _ _ p (((insC (locks_block.tri l)).drop (j * 3)).take 3)
    rw [e]
    exact k42_mkM _ _ _ p
set_option maxHeartbeats 8000000 in
set_option maxRecDepth 100000 in
theorem locks_block.calls (a0 : Int) (A1 : Option Addr) (c1 : Nat) (l1 : List (S42)) (r1 : List (S42)) (r2 : Int) (w : World) (hr1 : Kd.C k42 w A1 l1.length l1) (hc1 : l1.length ≤ c1) (h : locks_block.f a0 l1 = some (r1, r2)) :
    Calls Try.prog 52 #[.int .i64 a0, .slice A1 l1.length c1] w fun e w' => ∃ v0_ : Value, e = .returned (.tuple #[v0_, .int .i64 r2]) ∧ Kd.R k42 42 w' w.heap.size (fun _ => True) v0_ r1 ∧ Below w.heap.size w w' := by
  unfold locks_block.f at h
  split at h
  · rename_i hd
    unfold locks_block.dom at hd
    simp only [Bool.and_eq_true, decide_eq_true_eq, List.all_eq_true] at hd
    obtain ⟨⟨d0, d1, d2, d3⟩, d4⟩ := hd
    obtain ⟨_, _, hr⟩ := hr1
    obtain ⟨ad, rfl, hcs⟩ := hr d2
    have hcell := locks_block.cells hcs
    obtain ⟨b, off, spot⟩ := ad
    have hspot : spot = none := by
      cases spot with
      | none => rfl
      | some sp =>
        exfalso
        have hx : (locks_block.tri l1)[0]? = some (l1[0].f0, l1[0].f1, l1[0].f2) := by simp [locks_block.tri, d2]
        have h0 := hcell 0 _ (insC_at _ 0 _ hx).1
        simp [Addr.add, World.cell?] at h0
        split at h0 <;> simp at h0
    subst hspot
    have hlen : (locks_block.tri l1).length = l1.length := by simp [locks_block.tri]
    have hb := block_any a0 d0 d1 (locks_block.tri l1) (by omega) (by omega) (by
      intro x hx
      simp only [locks_block.tri, List.mem_map] at hx
      obtain ⟨y, hy, rfl⟩ := hx
      exact d4 y hy) b off c1 w hcell
    rw [hlen] at hb
    refine hb.mono ?_
    intro e w' hp
    unfold BlockPost at hp
    rw [hlen] at hp
    split at h
    · rename_i hl
      rw [if_pos hl] at hp
      obtain ⟨rfl, rfl⟩ := Prod.mk.inj (Option.some.inj h)
      obtain ⟨rfl, hbl⟩ := hp
      exact ⟨_, rfl, Kd.R_nil _ _ _ _ _, hbl⟩
    · rename_i hl
      rw [if_neg hl] at hp
      obtain ⟨rfl, rfl⟩ := Prod.mk.inj (Option.some.inj h)
      obtain ⟨v, rfl, ho, hbl⟩ := hp
      refine ⟨v, rfl, locks_block.own ?_, hbl⟩
      have e1 : locks_block.tri (l1.map (fun x => if jumpB x.f0 = true then (⟨x.f0, x.f1 + a0, x.f2⟩ : S42) else x)) = (locks_block.tri l1).map (shiftI a0) := by
        unfold locks_block.tri
        rw [List.map_map, List.map_map]
        apply List.map_congr_left
        intro x _
        simp only [Function.comp, shiftI]
        cases jumpB x.f0 <;> rfl
      rw [e1, List.length_map]
      exact ho
  · cases h

/-! ### locks_with: function 53 -/
def locks_with.f (a0 : Int) (a1 : Int) : Option (Int × Int × Int) := some (a0, a1, 0)
set_option maxHeartbeats 8000000 in
set_option maxRecDepth 100000 in
theorem locks_with.calls (a0 : Int) (a1 : Int) (r1 : Int) (r2 : Int) (r3 : Int) (w : World) (h : locks_with.f a0 a1 = some (r1, r2, r3)) :
    Calls Try.prog 53 #[.int .u8 a0, .int .i64 a1] w fun e w' => e = .returned (.agg #[.int .u8 r1, .int .i64 r2, .int .u64 r3]) ∧ Below w.heap.size w w' := by
  have hu42 := Try.underlying42
  have HB := Aside0.mk (Below.refl w.heap.size w)
  have H : (some (a0, a1, 0)) = some (r1, r2, r3) := h
  clear h
  simp only [Option.some.injEq, Prod.mk.injEq] at H
  obtain ⟨rfl, rfl, rfl⟩ := H
  go_enter Try.func53, Try.ntmps53
  go_wp2_with (first | ((with_reducible refine gate_dst (N := 4) rfl ?_); refine box_event ?hg (N := 4) ?hd (cs := #[.int .u8 0, .int .i64 0, .int .u64 0]) (t := 42) ?hr ?_; (case hd => rfl); (case hg => rfl); (case hr => first | (go_simp; done) | (go_simp; rfl)); intro gb119 hg w3 hbox hb; have n0_ := Aside0.mk (below_step (by repeat (first | (with_reducible first | exact HB.out | apply below_alloc | apply pw_below_drewN | apply below_drew1) | exact HB.out)) hb); have n1_ := Aside0.mk (hbox); have n2_ := Aside0.mk ((by rw [hg]; exact (below_size (by repeat (first | (with_reducible first | exact HB.out | apply below_alloc | apply pw_below_drewN | apply below_drew1) | exact HB.out))) : w.heap.size ≤ gb119)); have n3_ := Aside0.mk ((by rw [hg]; exact (below_size (by repeat (first | (with_reducible first | exact HB.out | apply below_alloc | apply pw_below_drewN | apply below_drew1) | exact HB.out))) : w.heap.size ≤ gb119)); clear HB; have HB := n0_; have BK119 := n1_; have GW119 := n2_; have GE119 := n3_; clear n0_ n1_ n2_ n3_; clear hb hbox hg; have hcz4_0 : w3.cell? ⟨gb119, 0, none⟩ = some (.int .u8 0) := (blk_cell BK119.out 0).trans rfl; have hcz4_1 : w3.cell? ⟨gb119, 1, none⟩ = some (.int .i64 0) := (blk_cell BK119.out 1).trans rfl; have hcz4_2 : w3.cell? ⟨gb119, 2, none⟩ = some (.int .u64 0) := (blk_cell BK119.out 2).trans rfl; have hfz4_0 := blk_frozen BK119.out 0; have hfz4_1 := blk_frozen BK119.out 1; have hfz4_2 := blk_frozen BK119.out 2))
  refine bodyPost_ret (results_cell_row rfl _ _ gb119 42 #[.int .u8 a0, .int .i64 a1, .int .u64 0] (0, 0) _ rfl (by (with_reducible repeat (first | refine blk_drewN ?_ _ | refine blk_drew ?_ | refine blk_alloc ?_ _)); refine blk_put (cs := #[.int .u8 a0, .int .i64 a1, .int .u64 0]) ?_ 2 _ rfl; (with_reducible repeat (first | refine blk_drewN ?_ _ | refine blk_drew ?_ | refine blk_alloc ?_ _)); refine blk_put (cs := #[.int .u8 a0, .int .i64 0, .int .u64 0]) ?_ 1 _ rfl; (with_reducible repeat (first | refine blk_drewN ?_ _ | refine blk_drew ?_ | refine blk_alloc ?_ _)); refine blk_put (cs := #[.int .u8 0, .int .i64 0, .int .u64 0]) ?_ 0 _ rfl; (with_reducible repeat (first | refine blk_drewN ?_ _ | refine blk_drew ?_ | refine blk_alloc ?_ _)); exact BK119.out) Try.underlying42 rfl (by kernel_rfl)) rfl ?_
  exact ⟨by first | rfl | (simp [errW_none, errW_some] <;> rfl) | (simp [*, errW_none, errW_some] <;> rfl), by repeat (first | (with_reducible first | exact HB.out | apply below_alloc | apply pw_below_drewN | apply below_drew1 | refine below_set ?_ GE119.out) | exact HB.out)⟩

/-! ### locks_op: function 54 -/
def locks_op.f (a0 : Int) : Option (Int × Int × Int) := some (a0, 0, 0)
set_option maxHeartbeats 8000000 in
set_option maxRecDepth 100000 in
theorem locks_op.calls (a0 : Int) (r1 : Int) (r2 : Int) (r3 : Int) (w : World) (h : locks_op.f a0 = some (r1, r2, r3)) :
    Calls Try.prog 54 #[.int .u8 a0] w fun e w' => e = .returned (.agg #[.int .u8 r1, .int .i64 r2, .int .u64 r3]) ∧ Below w.heap.size w w' := by
  have hu42 := Try.underlying42
  have HB := Aside0.mk (Below.refl w.heap.size w)
  have H : (some (a0, 0, 0)) = some (r1, r2, r3) := h
  clear h
  simp only [Option.some.injEq, Prod.mk.injEq] at H
  obtain ⟨rfl, rfl, rfl⟩ := H
  go_enter Try.func54, Try.ntmps54
  go_wp2_with (first | ((with_reducible refine gate_dst (N := 2) rfl ?_); refine box_event ?hg (N := 2) ?hd (cs := #[.int .u8 0, .int .i64 0, .int .u64 0]) (t := 42) ?hr ?_; (case hd => rfl); (case hg => rfl); (case hr => first | (go_simp; done) | (go_simp; rfl)); intro gb120 hg w2 hbox hb; have n0_ := Aside0.mk (below_step (by repeat (first | (with_reducible first | exact HB.out | apply below_alloc | apply pw_below_drewN | apply below_drew1) | exact HB.out)) hb); have n1_ := Aside0.mk (hbox); have n2_ := Aside0.mk ((by rw [hg]; exact (below_size (by repeat (first | (with_reducible first | exact HB.out | apply below_alloc | apply pw_below_drewN | apply below_drew1) | exact HB.out))) : w.heap.size ≤ gb120)); have n3_ := Aside0.mk ((by rw [hg]; exact (below_size (by repeat (first | (with_reducible first | exact HB.out | apply below_alloc | apply pw_below_drewN | apply below_drew1) | exact HB.out))) : w.heap.size ≤ gb120)); clear HB; have HB := n0_; have BK120 := n1_; have GW120 := n2_; have GE120 := n3_; clear n0_ n1_ n2_ n3_; clear hb hbox hg; have hcz3_0 : w2.cell? ⟨gb120, 0, none⟩ = some (.int .u8 0) := (blk_cell BK120.out 0).trans rfl; have hcz3_1 : w2.cell? ⟨gb120, 1, none⟩ = some (.int .i64 0) := (blk_cell BK120.out 1).trans rfl; have hcz3_2 : w2.cell? ⟨gb120, 2, none⟩ = some (.int .u64 0) := (blk_cell BK120.out 2).trans rfl; have hfz3_0 := blk_frozen BK120.out 0; have hfz3_1 := blk_frozen BK120.out 1; have hfz3_2 := blk_frozen BK120.out 2))
  refine bodyPost_ret (results_cell_row rfl _ _ gb120 42 #[.int .u8 a0, .int .i64 0, .int .u64 0] (0, 0) _ rfl (by (with_reducible repeat (first | refine blk_drewN ?_ _ | refine blk_drew ?_ | refine blk_alloc ?_ _)); refine blk_put (cs := #[.int .u8 a0, .int .i64 0, .int .u64 0]) ?_ 2 _ rfl; (with_reducible repeat (first | refine blk_drewN ?_ _ | refine blk_drew ?_ | refine blk_alloc ?_ _)); refine blk_put (cs := #[.int .u8 a0, .int .i64 0, .int .u64 0]) ?_ 1 _ rfl; (with_reducible repeat (first | refine blk_drewN ?_ _ | refine blk_drew ?_ | refine blk_alloc ?_ _)); refine blk_put (cs := #[.int .u8 0, .int .i64 0, .int .u64 0]) ?_ 0 _ rfl; (with_reducible repeat (first | refine blk_drewN ?_ _ | refine blk_drew ?_ | refine blk_alloc ?_ _)); exact BK120.out) Try.underlying42 rfl (by kernel_rfl)) rfl ?_
  exact ⟨by first | rfl | (simp [errW_none, errW_some] <;> rfl) | (simp [*, errW_none, errW_some] <;> rfl), by repeat (first | (with_reducible first | exact HB.out | apply below_alloc | apply pw_below_drewN | apply below_drew1 | refine below_set ?_ GE120.out) | exact HB.out)⟩

/-! ### value_Int: function 90 -/
def value_Int.f (a0 : Int) : Option (Int × Bool) := some (intV a0, intOk a0)


set_option maxHeartbeats 8000000 in
set_option maxRecDepth 100000 in
theorem value_Int.calls (a0 : Int) (r1 : Int) (r2 : Bool) (w : World) (h : value_Int.f a0 = some (r1, r2)) :
    Calls Try.prog 90 #[.int .i64 a0] w fun e w' => e = .returned (.tuple #[.int .u64 r1, .bool r2]) ∧ Drawn0 w w' := by
  unfold value_Int.f at h
  obtain ⟨rfl, rfl⟩ := Prod.mk.inj (Option.some.inj h)
  refine (int_any a0  w).mono ?_
  rintro e w' ⟨rfl, rfl⟩
  exact ⟨rfl, Drawn0.refl _⟩

/-! ### locks_number: function 55 -/
def locks_number.f (a0 : Int) : Option (Int × Int × Int) := (value_Int.f a0).bind fun bt122 => (some (1, 0, bt122.1))
set_option maxHeartbeats 8000000 in
set_option maxRecDepth 100000 in
theorem locks_number.calls (a0 : Int) (r1 : Int) (r2 : Int) (r3 : Int) (w : World) (h : locks_number.f a0 = some (r1, r2, r3)) :
    Calls Try.prog 55 #[.int .i64 a0] w fun e w' => e = .returned (.agg #[.int .u8 r1, .int .i64 r2, .int .u64 r3]) ∧ Below w.heap.size w w' := by
  have hu42 := Try.underlying42
  have HB := Aside0.mk (Below.refl w.heap.size w)
  have H : ((value_Int.f a0).bind fun bt122 => (some (1, 0, bt122.1))) = some (r1, r2, r3) := h
  clear h
  replace H := Option.bind_eq_some_iff.mp H
  obtain ⟨⟨t122, t123⟩, A20, H⟩ := H
  replace H : (some (1, 0, t122)) = some (r1, r2, r3) := H
  have A2 := Aside0.mk A20
  clear A20
  simp only [Option.some.injEq, Prod.mk.injEq] at H
  obtain ⟨rfl, rfl, rfl⟩ := H
  go_enter Try.func55, Try.ntmps55
  go_wp2_with (first | ((with_reducible refine gate_dst (N := 2) rfl ?_); refine box_event ?hg (N := 2) ?hd (cs := #[.int .u8 0, .int .i64 0, .int .u64 0]) (t := 42) ?hr ?_; (case hd => rfl); (case hg => rfl); (case hr => first | (go_simp; done) | (go_simp; rfl)); intro gb121 hg w3 hbox hb; have n0_ := Aside0.mk (below_step (by repeat (first | (with_reducible first | exact HB.out | apply below_alloc | apply pw_below_drewN | apply below_drew1) | exact HB.out)) hb); have n1_ := Aside0.mk (hbox); have n2_ := Aside0.mk ((by rw [hg]; exact (below_size (by repeat (first | (with_reducible first | exact HB.out | apply below_alloc | apply pw_below_drewN | apply below_drew1) | exact HB.out))) : w.heap.size ≤ gb121)); have n3_ := Aside0.mk ((by rw [hg]; exact (below_size (by repeat (first | (with_reducible first | exact HB.out | apply below_alloc | apply pw_below_drewN | apply below_drew1) | exact HB.out))) : w.heap.size ≤ gb121)); clear HB; have HB := n0_; have BK121 := n1_; have GW121 := n2_; have GE121 := n3_; clear n0_ n1_ n2_ n3_; clear hb hbox hg) | ((with_reducible refine gate_callee (f := 90) rfl ?_); refine goesL_ (some 7) rfl rfl Try.func90 (by kernel_rfl) rfl #[.int .i64 a0] rfl (by (try simp only [List.map_toArray, List.map_cons, List.map_nil]); first | done | rfl | (simp only [List.length_drop, List.length_take]; rfl)) ?_; (with_reducible refine (value_Int.calls a0 t122 t123 _ A2.out).mono ?_); rintro e w' ⟨rfl, ⟨nd, rfl⟩⟩; refine ⟨_, rfl, ?_⟩; (try (rw [drewN_self w3]; generalize hq_ : World.drewN w3 _ = w3; have n0_ : Aside0 (w3.heap[gb121]? = some (.cells #[.int .u8 0, .int .i64 0, .int .u64 0] 42 (0, 0))) := ⟨by rw [← hq_]; exact (by (with_reducible repeat (first | refine blk_drewN ?_ _ | refine blk_drew ?_ | refine blk_alloc ?_ _)); exact BK121.out)⟩; have n1_ : Aside0 (Below w.heap.size w w3) := ⟨by rw [← hq_]; exact (by repeat (first | (with_reducible first | exact HB.out | apply below_alloc | apply pw_below_drewN | apply below_drew1 | refine below_set ?_ GE121.out) | exact HB.out))⟩; clear BK121 HB hq_; have BK121 := n0_; have HB := n1_; clear n0_ n1_)); have hcz4_0 : w3.cell? ⟨gb121, 0, none⟩ = some (.int .u8 0) := (blk_cell BK121.out 0).trans rfl; have hcz4_1 : w3.cell? ⟨gb121, 1, none⟩ = some (.int .i64 0) := (blk_cell BK121.out 1).trans rfl; have hcz4_2 : w3.cell? ⟨gb121, 2, none⟩ = some (.int .u64 0) := (blk_cell BK121.out 2).trans rfl; have hfz4_0 := blk_frozen BK121.out 0; have hfz4_1 := blk_frozen BK121.out 1; have hfz4_2 := blk_frozen BK121.out 2))
  refine bodyPost_ret (results_cell_row rfl _ _ gb121 42 #[.int .u8 1, .int .i64 0, .int .u64 t122] (0, 0) _ rfl (by (with_reducible repeat (first | refine blk_drewN ?_ _ | refine blk_drew ?_ | refine blk_alloc ?_ _)); refine blk_put (cs := #[.int .u8 1, .int .i64 0, .int .u64 0]) ?_ 2 _ rfl; (with_reducible repeat (first | refine blk_drewN ?_ _ | refine blk_drew ?_ | refine blk_alloc ?_ _)); refine blk_put (cs := #[.int .u8 1, .int .i64 0, .int .u64 0]) ?_ 1 _ rfl; (with_reducible repeat (first | refine blk_drewN ?_ _ | refine blk_drew ?_ | refine blk_alloc ?_ _)); refine blk_put (cs := #[.int .u8 0, .int .i64 0, .int .u64 0]) ?_ 0 _ rfl; (with_reducible repeat (first | refine blk_drewN ?_ _ | refine blk_drew ?_ | refine blk_alloc ?_ _)); exact BK121.out) Try.underlying42 rfl (by kernel_rfl)) rfl ?_
  exact ⟨by first | rfl | (simp [errW_none, errW_some] <;> rfl) | (simp [*, errW_none, errW_some] <;> rfl), by repeat (first | (with_reducible first | exact HB.out | apply below_alloc | apply pw_below_drewN | apply below_drew1 | refine below_set ?_ GE121.out) | exact HB.out)⟩

/-! ### locks_Up: function 16 -/
def locks_Up.f (a0 : Int) (a1 : Int) : Option ((List (S42)) × Int) := (locks_may.f a0 a1 0).bind fun t124 => (if t124 = true then ((locks_with.f 21 5).bind fun bt125 => ((locks_with.f 4 a1).bind fun bt128 => ((locks_number.f 1).bind fun bt131 => ((locks_op.f 8).bind fun bt134 => ((locks_with.f 5 a1).bind fun bt137 => ((locks_op.f 22).bind fun bt140 => ((locks_block.f a0 (([(⟨bt125.1, bt125.2.1, bt125.2.2⟩ : S42), (⟨bt128.1, bt128.2.1, bt128.2.2⟩ : S42), (⟨bt131.1, bt131.2.1, bt131.2.2⟩ : S42), (⟨bt134.1, bt134.2.1, bt134.2.2⟩ : S42), (⟨bt137.1, bt137.2.1, bt137.2.2⟩ : S42), (⟨bt140.1, bt140.2.1, bt140.2.2⟩ : S42)] : List (S42)))).bind fun bt146 => (some (bt146.1, bt146.2))))))))) else (some (([] : List (S42)), 2)))
set_option maxHeartbeats 8000000 in
set_option maxRecDepth 100000 in
theorem locks_Up.calls (a0 : Int) (a1 : Int) (r1 : List (S42)) (r2 : Int) (w : World) (h : locks_Up.f a0 a1 = some (r1, r2)) :
    Calls Try.prog 16 #[.int .i64 a0, .int .i64 a1] w fun e w' => ∃ v0_ : Value, e = .returned (.tuple #[v0_, .int .i64 r2]) ∧ Kd.R k42 42 w' w.heap.size (fun _ => True) v0_ r1 ∧ Below w.heap.size w w' := by
  have HB := Aside0.mk (Below.refl w.heap.size w)
  have H : ((locks_may.f a0 a1 0).bind fun t124 => (if t124 = true then ((locks_with.f 21 5).bind fun bt125 => ((locks_with.f 4 a1).bind fun bt128 => ((locks_number.f 1).bind fun bt131 => ((locks_op.f 8).bind fun bt134 => ((locks_with.f 5 a1).bind fun bt137 => ((locks_op.f 22).bind fun bt140 => ((locks_block.f a0 (([(⟨bt125.1, bt125.2.1, bt125.2.2⟩ : S42), (⟨bt128.1, bt128.2.1, bt128.2.2⟩ : S42), (⟨bt131.1, bt131.2.1, bt131.2.2⟩ : S42), (⟨bt134.1, bt134.2.1, bt134.2.2⟩ : S42), (⟨bt137.1, bt137.2.1, bt137.2.2⟩ : S42), (⟨bt140.1, bt140.2.1, bt140.2.2⟩ : S42)] : List (S42)))).bind fun bt146 => (some (bt146.1, bt146.2))))))))) else (some (([] : List (S42)), 2)))) = some (r1, r2) := h
  clear h
  replace H := Option.bind_eq_some_iff.mp H
  obtain ⟨t124, A30, H⟩ := H
  replace H : (if t124 = true then ((locks_with.f 21 5).bind fun bt125 => ((locks_with.f 4 a1).bind fun bt128 => ((locks_number.f 1).bind fun bt131 => ((locks_op.f 8).bind fun bt134 => ((locks_with.f 5 a1).bind fun bt137 => ((locks_op.f 22).bind fun bt140 => ((locks_block.f a0 (([(⟨bt125.1, bt125.2.1, bt125.2.2⟩ : S42), (⟨bt128.1, bt128.2.1, bt128.2.2⟩ : S42), (⟨bt131.1, bt131.2.1, bt131.2.2⟩ : S42), (⟨bt134.1, bt134.2.1, bt134.2.2⟩ : S42), (⟨bt137.1, bt137.2.1, bt137.2.2⟩ : S42), (⟨bt140.1, bt140.2.1, bt140.2.2⟩ : S42)] : List (S42)))).bind fun bt146 => (some (bt146.1, bt146.2))))))))) else (some (([] : List (S42)), 2))) = some (r1, r2) := H
  have A3 := Aside0.mk A30
  clear A30
  by_cases c4 : t124 = true
  · subst c4
    have H1 : ((locks_with.f 21 5).bind fun bt125 => ((locks_with.f 4 a1).bind fun bt128 => ((locks_number.f 1).bind fun bt131 => ((locks_op.f 8).bind fun bt134 => ((locks_with.f 5 a1).bind fun bt137 => ((locks_op.f 22).bind fun bt140 => ((locks_block.f a0 (([(⟨bt125.1, bt125.2.1, bt125.2.2⟩ : S42), (⟨bt128.1, bt128.2.1, bt128.2.2⟩ : S42), (⟨bt131.1, bt131.2.1, bt131.2.2⟩ : S42), (⟨bt134.1, bt134.2.1, bt134.2.2⟩ : S42), (⟨bt137.1, bt137.2.1, bt137.2.2⟩ : S42), (⟨bt140.1, bt140.2.1, bt140.2.2⟩ : S42)] : List (S42)))).bind fun bt146 => (some (bt146.1, bt146.2))))))))) = some (r1, r2) := by rw [if_pos rfl] at H; exact H
    clear H
    have H := H1
    clear H1
    replace H := Option.bind_eq_some_iff.mp H
    obtain ⟨⟨t125, t126, t127⟩, A50, H⟩ := H
    replace H : ((locks_with.f 4 a1).bind fun bt128 => ((locks_number.f 1).bind fun bt131 => ((locks_op.f 8).bind fun bt134 => ((locks_with.f 5 a1).bind fun bt137 => ((locks_op.f 22).bind fun bt140 => ((locks_block.f a0 (([(⟨t125, t126, t127⟩ : S42), (⟨bt128.1, bt128.2.1, bt128.2.2⟩ : S42), (⟨bt131.1, bt131.2.1, bt131.2.2⟩ : S42), (⟨bt134.1, bt134.2.1, bt134.2.2⟩ : S42), (⟨bt137.1, bt137.2.1, bt137.2.2⟩ : S42), (⟨bt140.1, bt140.2.1, bt140.2.2⟩ : S42)] : List (S42)))).bind fun bt146 => (some (bt146.1, bt146.2)))))))) = some (r1, r2) := H
    have A5 := Aside0.mk A50
    clear A50
    replace H := Option.bind_eq_some_iff.mp H
    obtain ⟨⟨t128, t129, t130⟩, A60, H⟩ := H
    replace H : ((locks_number.f 1).bind fun bt131 => ((locks_op.f 8).bind fun bt134 => ((locks_with.f 5 a1).bind fun bt137 => ((locks_op.f 22).bind fun bt140 => ((locks_block.f a0 (([(⟨t125, t126, t127⟩ : S42), (⟨t128, t129, t130⟩ : S42), (⟨bt131.1, bt131.2.1, bt131.2.2⟩ : S42), (⟨bt134.1, bt134.2.1, bt134.2.2⟩ : S42), (⟨bt137.1, bt137.2.1, bt137.2.2⟩ : S42), (⟨bt140.1, bt140.2.1, bt140.2.2⟩ : S42)] : List (S42)))).bind fun bt146 => (some (bt146.1, bt146.2))))))) = some (r1, r2) := H
    have A6 := Aside0.mk A60
    clear A60
    replace H := Option.bind_eq_some_iff.mp H
    obtain ⟨⟨t131, t132, t133⟩, A70, H⟩ := H
    replace H : ((locks_op.f 8).bind fun bt134 => ((locks_with.f 5 a1).bind fun bt137 => ((locks_op.f 22).bind fun bt140 => ((locks_block.f a0 (([(⟨t125, t126, t127⟩ : S42), (⟨t128, t129, t130⟩ : S42), (⟨t131, t132, t133⟩ : S42), (⟨bt134.1, bt134.2.1, bt134.2.2⟩ : S42), (⟨bt137.1, bt137.2.1, bt137.2.2⟩ : S42), (⟨bt140.1, bt140.2.1, bt140.2.2⟩ : S42)] : List (S42)))).bind fun bt146 => (some (bt146.1, bt146.2)))))) = some (r1, r2) := H
    have A7 := Aside0.mk A70
    clear A70
    replace H := Option.bind_eq_some_iff.mp H
    obtain ⟨⟨t134, t135, t136⟩, A80, H⟩ := H
    replace H : ((locks_with.f 5 a1).bind fun bt137 => ((locks_op.f 22).bind fun bt140 => ((locks_block.f a0 (([(⟨t125, t126, t127⟩ : S42), (⟨t128, t129, t130⟩ : S42), (⟨t131, t132, t133⟩ : S42), (⟨t134, t135, t136⟩ : S42), (⟨bt137.1, bt137.2.1, bt137.2.2⟩ : S42), (⟨bt140.1, bt140.2.1, bt140.2.2⟩ : S42)] : List (S42)))).bind fun bt146 => (some (bt146.1, bt146.2))))) = some (r1, r2) := H
    have A8 := Aside0.mk A80
    clear A80
    replace H := Option.bind_eq_some_iff.mp H
    obtain ⟨⟨t137, t138, t139⟩, A90, H⟩ := H
    replace H : ((locks_op.f 22).bind fun bt140 => ((locks_block.f a0 (([(⟨t125, t126, t127⟩ : S42), (⟨t128, t129, t130⟩ : S42), (⟨t131, t132, t133⟩ : S42), (⟨t134, t135, t136⟩ : S42), (⟨t137, t138, t139⟩ : S42), (⟨bt140.1, bt140.2.1, bt140.2.2⟩ : S42)] : List (S42)))).bind fun bt146 => (some (bt146.1, bt146.2)))) = some (r1, r2) := H
    have A9 := Aside0.mk A90
    clear A90
    replace H := Option.bind_eq_some_iff.mp H
    obtain ⟨⟨t140, t141, t142⟩, A100, H⟩ := H
    replace H : ((locks_block.f a0 (([(⟨t125, t126, t127⟩ : S42), (⟨t128, t129, t130⟩ : S42), (⟨t131, t132, t133⟩ : S42), (⟨t134, t135, t136⟩ : S42), (⟨t137, t138, t139⟩ : S42), (⟨t140, t141, t142⟩ : S42)] : List (S42)))).bind fun bt146 => (some (bt146.1, bt146.2))) = some (r1, r2) := H
    have A10 := Aside0.mk A100
    clear A100
    obtain ⟨y143, hy143⟩ : ∃ y_ : List (S42), y_ = (([(⟨t125, t126, t127⟩ : S42), (⟨t128, t129, t130⟩ : S42), (⟨t131, t132, t133⟩ : S42), (⟨t134, t135, t136⟩ : S42), (⟨t137, t138, t139⟩ : S42), (⟨t140, t141, t142⟩ : S42)] : List (S42))) := ⟨_, rfl⟩
    replace H : ((locks_block.f a0 y143).bind fun bt146 => (some (bt146.1, bt146.2))) = some (r1, r2) := by first | (rw [hy143]; with_reducible exact H) | (have H2_ := (Option.bind_some _ _).symm.trans H; rw [hy143]; with_reducible exact H2_) | (have H2_ := (Option.bind_some _ _).symm.trans H; with_reducible exact H2_) | with_reducible exact H | (rw [hy143]; exact H) | exact H
    have Ny143 := Aside0.mk hy143
    clear hy143
    replace H := Option.bind_eq_some_iff.mp H
    obtain ⟨⟨t146, t147⟩, A110, H⟩ := H
    replace H : (some (t146, t147)) = some (r1, r2) := H
    have A11 := Aside0.mk A110
    clear A110
    simp only [Option.some.injEq, Prod.mk.injEq] at H
    obtain ⟨rfl, rfl⟩ := H
    go_enter Try.func16, Try.ntmps16
    go_wp2_with (first | ((with_reducible refine gate_callee (f := 51) rfl ?_); refine goesL_ (some 8) rfl rfl Try.func51 (by kernel_rfl) rfl #[.int .i64 a0, .int .i64 a1, .int .i64 0] rfl (by (try simp only [List.map_toArray, List.map_cons, List.map_nil]); first | done | rfl | (simp only [List.length_drop, List.length_take]; rfl)) ?_; (with_reducible refine (locks_may.calls a0 a1 0 true _ A3.out).mono ?_); rintro e w' ⟨rfl, ⟨nd, rfl⟩⟩; refine ⟨_, rfl, ?_⟩) | ((with_reducible refine gate_callee (f := 53) rfl ?_); refine goesL_ (some 11) rfl rfl Try.func53 (by kernel_rfl) rfl #[.int .u8 21, .int .i64 5] rfl (by (try simp only [List.map_toArray, List.map_cons, List.map_nil]); first | done | rfl | (simp only [List.length_drop, List.length_take]; rfl)) ?_; (with_reducible refine (locks_with.calls 21 5 t125 t126 t127 _ A5.out).mono ?_); rintro e w12 ⟨rfl, hb⟩; refine ⟨_, rfl, ?_⟩; have n0_ := Aside0.mk (below_step (by repeat (first | (with_reducible first | exact HB.out | apply below_alloc | apply pw_below_drewN | apply below_drew1) | exact HB.out)) hb); clear HB; have HB := n0_; clear n0_; (try clear hb); (try clear hb2); (try clear hk); (try clear hi)) | ((with_reducible refine gate_callee (f := 53) rfl ?_); refine goesL_ (some 13) rfl rfl Try.func53 (by kernel_rfl) rfl #[.int .u8 4, .int .i64 a1] rfl (by (try simp only [List.map_toArray, List.map_cons, List.map_nil]); first | done | rfl | (simp only [List.length_drop, List.length_take]; rfl)) ?_; (with_reducible refine (locks_with.calls 4 a1 t128 t129 t130 _ A6.out).mono ?_); rintro e w13 ⟨rfl, hb⟩; refine ⟨_, rfl, ?_⟩; have n0_ := Aside0.mk (below_step (by repeat (first | (with_reducible first | exact HB.out | apply below_alloc | apply pw_below_drewN | apply below_drew1) | exact HB.out)) hb); clear HB; have HB := n0_; clear n0_; (try clear hb); (try clear hb2); (try clear hk); (try clear hi)) | ((with_reducible refine gate_callee (f := 55) rfl ?_); refine goesL_ (some 14) rfl rfl Try.func55 (by kernel_rfl) rfl #[.int .i64 1] rfl (by (try simp only [List.map_toArray, List.map_cons, List.map_nil]); first | done | rfl | (simp only [List.length_drop, List.length_take]; rfl)) ?_; (with_reducible refine (locks_number.calls 1 t131 t132 t133 _ A7.out).mono ?_); rintro e w14 ⟨rfl, hb⟩; refine ⟨_, rfl, ?_⟩; have n0_ := Aside0.mk (below_step (by repeat (first | (with_reducible first | exact HB.out | apply below_alloc | apply pw_below_drewN | apply below_drew1) | exact HB.out)) hb); clear HB; have HB := n0_; clear n0_; (try clear hb); (try clear hb2); (try clear hk); (try clear hi)) | ((with_reducible refine gate_callee (f := 54) rfl ?_); refine goesL_ (some 15) rfl rfl Try.func54 (by kernel_rfl) rfl #[.int .u8 8] rfl (by (try simp only [List.map_toArray, List.map_cons, List.map_nil]); first | done | rfl | (simp only [List.length_drop, List.length_take]; rfl)) ?_; (with_reducible refine (locks_op.calls 8 t134 t135 t136 _ A8.out).mono ?_); rintro e w15 ⟨rfl, hb⟩; refine ⟨_, rfl, ?_⟩; have n0_ := Aside0.mk (below_step (by repeat (first | (with_reducible first | exact HB.out | apply below_alloc | apply pw_below_drewN | apply below_drew1) | exact HB.out)) hb); clear HB; have HB := n0_; clear n0_; (try clear hb); (try clear hb2); (try clear hk); (try clear hi)) | ((with_reducible refine gate_callee (f := 53) rfl ?_); refine goesL_ (some 17) rfl rfl Try.func53 (by kernel_rfl) rfl #[.int .u8 5, .int .i64 a1] rfl (by (try simp only [List.map_toArray, List.map_cons, List.map_nil]); first | done | rfl | (simp only [List.length_drop, List.length_take]; rfl)) ?_; (with_reducible refine (locks_with.calls 5 a1 t137 t138 t139 _ A9.out).mono ?_); rintro e w16 ⟨rfl, hb⟩; refine ⟨_, rfl, ?_⟩; have n0_ := Aside0.mk (below_step (by repeat (first | (with_reducible first | exact HB.out | apply below_alloc | apply pw_below_drewN | apply below_drew1) | exact HB.out)) hb); clear HB; have HB := n0_; clear n0_; (try clear hb); (try clear hb2); (try clear hk); (try clear hi)) | ((with_reducible refine gate_callee (f := 54) rfl ?_); refine goesL_ (some 18) rfl rfl Try.func54 (by kernel_rfl) rfl #[.int .u8 22] rfl (by (try simp only [List.map_toArray, List.map_cons, List.map_nil]); first | done | rfl | (simp only [List.length_drop, List.length_take]; rfl)) ?_; (with_reducible refine (locks_op.calls 22 t140 t141 t142 _ A10.out).mono ?_); rintro e w17 ⟨rfl, hb⟩; refine ⟨_, rfl, ?_⟩; have n0_ := Aside0.mk (below_step (by repeat (first | (with_reducible first | exact HB.out | apply below_alloc | apply pw_below_drewN | apply below_drew1) | exact HB.out)) hb); clear HB; have HB := n0_; clear n0_; (try clear hb); (try clear hb2); (try clear hk); (try clear hi)) | ((with_reducible refine gate_dst (N := 19) rfl ?_); refine Kd.R_lit k42 _ 42 ?hg (N := 19) ?hd (xs := ([(⟨t125, t126, t127⟩ : S42), (⟨t128, t129, t130⟩ : S42), (⟨t131, t132, t133⟩ : S42), (⟨t134, t135, t136⟩ : S42), (⟨t137, t138, t139⟩ : S42), (⟨t140, t141, t142⟩ : S42)] : List (S42))) (inner := [.int .u8 t125, .int .i64 t126, .int .u64 t127, .int .u8 t128, .int .i64 t129, .int .u64 t130, .int .u8 t131, .int .i64 t132, .int .u64 t133, .int .u8 t134, .int .i64 t135, .int .u64 t136, .int .u8 t137, .int .i64 t138, .int .u64 t139, .int .u8 t140, .int .i64 t141, .int .u64 t142]) (ok := fun _ => True) (okp := fun _ => True) ?hr ?hp (fun _ hk => hk) trivial (Below.refl _ _) (Nat.le_refl _) (by simp) ?_; (case hd => rfl); (case hg => rfl); (case hr => first | (go_simp; done) | (go_simp; rfl)); (case hp => exact (Reps.c3 (show Kd.M k42 _ _ _ (⟨t125, t126, t127⟩ : S42) [.int .u8 t125, .int .i64 t126, .int .u64 t127] from (k42_mkM _ _ _ (⟨t125, t126, t127⟩ : S42) )) (Reps.c3 (show Kd.M k42 _ _ _ (⟨t128, t129, t130⟩ : S42) [.int .u8 t128, .int .i64 t129, .int .u64 t130] from (k42_mkM _ _ _ (⟨t128, t129, t130⟩ : S42) )) (Reps.c3 (show Kd.M k42 _ _ _ (⟨t131, t132, t133⟩ : S42) [.int .u8 t131, .int .i64 t132, .int .u64 t133] from (k42_mkM _ _ _ (⟨t131, t132, t133⟩ : S42) )) (Reps.c3 (show Kd.M k42 _ _ _ (⟨t134, t135, t136⟩ : S42) [.int .u8 t134, .int .i64 t135, .int .u64 t136] from (k42_mkM _ _ _ (⟨t134, t135, t136⟩ : S42) )) (Reps.c3 (show Kd.M k42 _ _ _ (⟨t137, t138, t139⟩ : S42) [.int .u8 t137, .int .i64 t138, .int .u64 t139] from (k42_mkM _ _ _ (⟨t137, t138, t139⟩ : S42) )) (Reps.c3 (show Kd.M k42 _ _ _ (⟨t140, t141, t142⟩ : S42) [.int .u8 t140, .int .i64 t141, .int .u64 t142] from (k42_mkM _ _ _ (⟨t140, t141, t142⟩ : S42) )) (Reps.none _ _)))))))); intro v144 w18 ho19 hb hg_ hnew_; clear hg_ hnew_; (first | rw [← Ny143.out] at ho19 | (simp only [Int.reduceToNat] at ho19; rw [← Ny143.out] at ho19)); have n0_ := Aside0.mk (Kd.R_lower ho19 (below_size (by repeat (first | (with_reducible first | exact HB.out | apply below_alloc | apply pw_below_drewN | apply below_drew1) | exact HB.out)))); have n1_ := Aside0.mk (below_step (by repeat (first | (with_reducible first | exact HB.out | apply below_alloc | apply pw_below_drewN | apply below_drew1) | exact HB.out)) hb); clear HB; have HO145 := n0_; have HB := n1_; clear n0_ n1_; clear hb ho19; obtain ⟨Ao20, co20, eo20⟩ := Kd.R_slice HO145.out; subst eo20) | ((with_reducible refine gate_callee (f := 52) rfl ?_); refine goesL_ (some 20) rfl rfl Try.func52 (by kernel_rfl) rfl #[.int .i64 a0, .slice Ao20 y143.length co20] rfl (by (try simp only [List.map_toArray, List.map_cons, List.map_nil]); first | done | rfl | (simp only [List.length_drop, List.length_take]; rfl)) ?_; (with_reducible refine (locks_block.calls a0 _ _ y143 t146 t147 _ ?side1 ?side2 A11.out).mono ?_); (case side1 => repeat (first | exact (Kd.R_reads' HO145.out).2.2 | (with_reducible refine Kd.C_alloc ?_ _) | (with_reducible refine Kd.C_drewN ?_ _) | (with_reducible refine Kd.C_drew ?_))); (case side2 => exact (Kd.R_reads' HO145.out).2.1); rintro e w21 ⟨v148, rfl, ho0, hb⟩; refine ⟨_, rfl, ?_⟩; have n0_ := Aside0.mk (Kd.R_elder' (by (with_reducible repeat (first | apply Kd.R_alloc | apply Kd.R_drewN | apply Kd.R_drew)); exact HO145.out) (Kd.R_base ho0) hb); have n1_ := Aside0.mk (Kd.R_lower (Kd.R_new' ho0 (Kd.R_lt (by (with_reducible repeat (first | apply Kd.R_alloc | apply Kd.R_drewN | apply Kd.R_drew)); exact HO145.out))) (below_size (by repeat (first | (with_reducible first | exact HB.out | apply below_alloc | apply pw_below_drewN | apply below_drew1) | exact HB.out)))); have n2_ := Aside0.mk (below_step (by repeat (first | (with_reducible first | exact HB.out | apply below_alloc | apply pw_below_drewN | apply below_drew1) | exact HB.out)) hb); clear HO145; clear HB; have HO145 := n0_; have HO149 := n1_; have HB := n2_; clear n0_ n1_ n2_; (try clear hb); (try clear hb2); (try clear hk); (try clear hi); (try clear ho0)))
    go_ret2
    exact ⟨_, by first | rfl | (simp [errW_none, errW_some] <;> rfl) | (simp [*, errW_none, errW_some] <;> rfl), by (with_reducible repeat (first | apply Kd.R_alloc | apply Kd.R_drewN | apply Kd.R_drew)); exact Kd.R_mono HO149.out (fun _ hk => trivial), by repeat (first | (with_reducible first | exact HB.out | apply below_alloc | apply pw_below_drewN | apply below_drew1) | exact HB.out)⟩
  · replace c4 := Bool.eq_false_iff.mpr c4
    subst c4
    have H1 : (some (([] : List (S42)), 2)) = some (r1, r2) := by rw [if_neg (show ¬ (false = true) by decide)] at H; exact H
    clear H
    have H := H1
    clear H1
    simp only [Option.some.injEq, Prod.mk.injEq] at H
    obtain ⟨rfl, rfl⟩ := H
    go_enter Try.func16, Try.ntmps16
    go_wp2_with (first | ((with_reducible refine gate_callee (f := 51) rfl ?_); refine goesL_ (some 8) rfl rfl Try.func51 (by kernel_rfl) rfl #[.int .i64 a0, .int .i64 a1, .int .i64 0] rfl (by (try simp only [List.map_toArray, List.map_cons, List.map_nil]); first | done | rfl | (simp only [List.length_drop, List.length_take]; rfl)) ?_; (with_reducible refine (locks_may.calls a0 a1 0 false _ A3.out).mono ?_); rintro e w' ⟨rfl, ⟨nd, rfl⟩⟩; refine ⟨_, rfl, ?_⟩))
    go_ret2
    exact ⟨_, by first | rfl | (simp [errW_none, errW_some] <;> rfl) | (simp [*, errW_none, errW_some] <;> rfl), by first | exact Kd.R_nil _ _ _ _ _ | exact Kd.N_nil _ _ _ _ _ | exact Kd.V_nil _ _ _ _ _ | exact Kd.Q_nil _ _ _ _ _ | exact Kd.S_nil _ _ _ _ _, by repeat (first | (with_reducible first | exact HB.out | apply below_alloc | apply pw_below_drewN | apply below_drew1) | exact HB.out)⟩

/-! ### rowlocklaw22_live: function 18 -/
def rowlocklaw22_live.f  : Option (Bool) := (locks_Up.f 0 3).bind fun bt150 => (if bt150.2 = 0 then (if (bt150.1.length : Int) = 6 then (if 0 < (bt150.1.length : Int) then (if (((rd_T42 bt150.1 0).f0) == 21 && (((rd_T42 bt150.1 0).f1) == 5 && (((rd_T42 bt150.1 0).f2) == 0))) = true then (if 5 < (bt150.1.length : Int) then (some (((rd_T42 bt150.1 5).f0) == 22)) else (none)) else (some false)) else (none)) else (some false)) else (some false))
set_option maxHeartbeats 8000000 in
set_option maxRecDepth 100000 in
theorem rowlocklaw22_live.calls  (r : Bool) (w : World) (h : rowlocklaw22_live.f  = some r) :
    Calls Try.prog 18 #[] w fun e w' => e = .returned (.bool r) ∧ Below w.heap.size w w' := by
  have hu42 := Try.underlying42
  have HB := Aside0.mk (Below.refl w.heap.size w)
  have H : ((locks_Up.f 0 3).bind fun bt150 => (if bt150.2 = 0 then (if (bt150.1.length : Int) = 6 then (if 0 < (bt150.1.length : Int) then (if (((rd_T42 bt150.1 0).f0) == 21 && (((rd_T42 bt150.1 0).f1) == 5 && (((rd_T42 bt150.1 0).f2) == 0))) = true then (if 5 < (bt150.1.length : Int) then (some (((rd_T42 bt150.1 5).f0) == 22)) else (none)) else (some false)) else (none)) else (some false)) else (some false))) = some r := h
  clear h
  replace H := Option.bind_eq_some_iff.mp H
  obtain ⟨⟨t150, t151⟩, A10, H⟩ := H
  replace H : (if t151 = 0 then (if (t150.length : Int) = 6 then (if 0 < (t150.length : Int) then (if (((rd_T42 t150 0).f0) == 21 && (((rd_T42 t150 0).f1) == 5 && (((rd_T42 t150 0).f2) == 0))) = true then (if 5 < (t150.length : Int) then (some (((rd_T42 t150 5).f0) == 22)) else (none)) else (some false)) else (none)) else (some false)) else (some false)) = some r := H
  have A1 := Aside0.mk A10
  clear A10
  by_cases c2 : t151 = 0
  · rw [if_pos c2] at H
    have c2b0 : (t151 == 0) = true := beq_iff_eq.mpr c2
    have c2b1 : (t151 != 0) = false := bne_eq_false_iff_eq.mpr c2
    clear c2
    by_cases c3 : (t150.length : Int) = 6
    · rw [if_pos c3] at H
      have c3b0 : ((t150.length : Int) == 6) = true := beq_iff_eq.mpr c3
      have c3b1 : ((t150.length : Int) != 6) = false := bne_eq_false_iff_eq.mpr c3
      clear c3
      by_cases c4 : 0 < (t150.length : Int)
      · rw [if_pos c4] at H
        have c4b0 : decide (0 < (t150.length : Int)) = true := decide_eq_true c4
        have c4b1 : decide (0 < t150.length) = true := decide_eq_true (by omega)
        clear c4
        by_cases c5 : (((rd_T42 t150 0).f0) == 21 && (((rd_T42 t150 0).f1) == 5 && (((rd_T42 t150 0).f2) == 0))) = true
        · rw [if_pos c5] at H
          have c5b0 : (((rd_T42 t150 0).f0) == 21 && (((rd_T42 t150 0).f1) == 5 && (((rd_T42 t150 0).f2) == 0))) = true := c5
          (try (have c5b1 : decide (((rd_T42 t150 0).f0) = 21 && (((rd_T42 t150 0).f1) == 5 && (((rd_T42 t150 0).f2) == 0))) = true := by simpa using c5))
          (try (have c5b2 : (((rd_T42 t150 0).f0) == 21 && (((rd_T42 t150 0).f1) == 5 && (((rd_T42 t150 0).f2) == 0))) = true := by simpa using c5))
          clear c5
          by_cases c6 : 5 < (t150.length : Int)
          · rw [if_pos c6] at H
            have c6b0 : decide (5 < (t150.length : Int)) = true := decide_eq_true c6
            have c6b1 : decide (5 < t150.length) = true := decide_eq_true (by omega)
            clear c6
            obtain rfl := Option.some.inj H
            go_enter Try.func18, Try.ntmps18
            go_wp2_with (first | ((with_reducible refine gate_callee (f := 16) rfl ?_); refine goesL_ (some 4) rfl rfl Try.func16 (by kernel_rfl) rfl #[.int .i64 0, .int .i64 3] rfl (by (try simp only [List.map_toArray, List.map_cons, List.map_nil]); first | done | rfl | (simp only [List.length_drop, List.length_take]; rfl)) ?_; (with_reducible refine (locks_Up.calls 0 3 t150 t151 _ A1.out).mono ?_); rintro e w7 ⟨v152, rfl, ho0, hb⟩; refine ⟨_, rfl, ?_⟩; have n0_ := Aside0.mk (Kd.R_lower ho0 (below_size (by repeat (first | (with_reducible first | exact HB.out | apply below_alloc | apply pw_below_drewN | apply below_drew1) | exact HB.out)))); have n1_ := Aside0.mk (below_step (by repeat (first | (with_reducible first | exact HB.out | apply below_alloc | apply pw_below_drewN | apply below_drew1) | exact HB.out)) hb); clear HB; have HO153 := n0_; have HB := n1_; clear n0_ n1_; (try clear hb); (try clear hb2); (try clear hk); (try clear hi); (try clear ho0); obtain ⟨Ao8, co8, eo8⟩ := Kd.R_slice HO153.out; subst eo8; have p154 : 0 ≤ (0 : Int) := (by omega); have q154 : 0 < (t150.length : Int) := of_decide_eq_true (by first | (with_reducible assumption) | assumption); obtain ⟨ad154, e154, hx154_0, hx154_1, hx154_2⟩ := at_T42 (Kd.R_reads' HO153.out).2.2 0 p154 q154; cases e154; have qi154 : (0 < t150.length) = True := eq_true (by omega); (try rw [show ((0 : Int)).toNat = 0 from rfl] at hx154_0); (try rw [show 0 * 3 = 0 from rfl] at hx154_0); (try rw [Addr.add_zero'] at hx154_0); (try rw [show ((0 : Int)).toNat = 0 from rfl] at hx154_1); (try rw [show 0 * 3 = 0 from rfl] at hx154_1); (try rw [Addr.add_zero'] at hx154_1); (try rw [show ((0 : Int)).toNat = 0 from rfl] at hx154_2); (try rw [show 0 * 3 = 0 from rfl] at hx154_2); (try rw [Addr.add_zero'] at hx154_2); replace p154 := eq_true p154; replace q154 := eq_true q154; have p155 : 0 ≤ (5 : Int) := (by omega); have q155 : 5 < (t150.length : Int) := of_decide_eq_true (by first | (with_reducible assumption) | assumption); obtain ⟨ad155, e155, hx155_0, hx155_1, hx155_2⟩ := at_T42 (Kd.R_reads' HO153.out).2.2 5 p155 q155; obtain rfl : ad154 = ad155 := (by injection e155); (try simp only [show (5 : Int).toNat = 5 from rfl, Nat.reduceMul, Nat.reduceEqDiff, Go.Addr.add, ↓reduceIte] at hx155_0); (try simp only [show (5 : Int).toNat = 5 from rfl, Nat.reduceMul, Nat.reduceEqDiff, Go.Addr.add, ↓reduceIte] at hx155_1); (try simp only [show (5 : Int).toNat = 5 from rfl, Nat.reduceMul, Nat.reduceEqDiff, Go.Addr.add, ↓reduceIte] at hx155_2); have qi155 : (5 < t150.length) = True := eq_true (by omega); (try rw [show ((5 : Int)).toNat = 5 from rfl] at hx155_0); (try rw [show 5 * 3 = 15 from rfl] at hx155_0); (try rw [show ((5 : Int)).toNat = 5 from rfl] at hx155_1); (try rw [show 5 * 3 = 15 from rfl] at hx155_1); (try rw [show ((5 : Int)).toNat = 5 from rfl] at hx155_2); (try rw [show 5 * 3 = 15 from rfl] at hx155_2); replace p155 := eq_true p155; replace q155 := eq_true q155))
            go_ret
            exact ⟨by first | rfl | (simp [errW_none, errW_some] <;> rfl) | (simp [*, errW_none, errW_some] <;> rfl), by repeat (first | (with_reducible first | exact HB.out | apply below_alloc | apply pw_below_drewN | apply below_drew1) | exact HB.out)⟩
          · rw [if_neg c6] at H
            exact absurd H (by simp)
        · rw [if_neg c5] at H
          have c5b0 : (((rd_T42 t150 0).f0) == 21 && (((rd_T42 t150 0).f1) == 5 && (((rd_T42 t150 0).f2) == 0))) = false := by simpa using c5
          (try (have c5b1 : decide (((rd_T42 t150 0).f0) = 21 && (((rd_T42 t150 0).f1) == 5 && (((rd_T42 t150 0).f2) == 0))) = false := by simpa using c5))
          (try (have c5b2 : (((rd_T42 t150 0).f0) == 21 && (((rd_T42 t150 0).f1) == 5 && (((rd_T42 t150 0).f2) == 0))) = false := by simpa using c5))
          (try (have c5b3 : ¬ (((rd_T42 t150 0).f0) = 21 && (((rd_T42 t150 0).f1) == 5 && (((rd_T42 t150 0).f2) == 0))) := by simpa using c5))
          clear c5
          obtain rfl := Option.some.inj H
          go_enter Try.func18, Try.ntmps18
          go_wp2_with (first | ((with_reducible refine gate_callee (f := 16) rfl ?_); refine goesL_ (some 4) rfl rfl Try.func16 (by kernel_rfl) rfl #[.int .i64 0, .int .i64 3] rfl (by (try simp only [List.map_toArray, List.map_cons, List.map_nil]); first | done | rfl | (simp only [List.length_drop, List.length_take]; rfl)) ?_; (with_reducible refine (locks_Up.calls 0 3 t150 t151 _ A1.out).mono ?_); rintro e w9 ⟨v152, rfl, ho0, hb⟩; refine ⟨_, rfl, ?_⟩; have n0_ := Aside0.mk (Kd.R_lower ho0 (below_size (by repeat (first | (with_reducible first | exact HB.out | apply below_alloc | apply pw_below_drewN | apply below_drew1) | exact HB.out)))); have n1_ := Aside0.mk (below_step (by repeat (first | (with_reducible first | exact HB.out | apply below_alloc | apply pw_below_drewN | apply below_drew1) | exact HB.out)) hb); clear HB; have HO153 := n0_; have HB := n1_; clear n0_ n1_; (try clear hb); (try clear hb2); (try clear hk); (try clear hi); (try clear ho0); obtain ⟨Ao10, co10, eo10⟩ := Kd.R_slice HO153.out; subst eo10; have p154 : 0 ≤ (0 : Int) := (by omega); have q154 : 0 < (t150.length : Int) := of_decide_eq_true (by first | (with_reducible assumption) | assumption); obtain ⟨ad154, e154, hx154_0, hx154_1, hx154_2⟩ := at_T42 (Kd.R_reads' HO153.out).2.2 0 p154 q154; cases e154; have qi154 : (0 < t150.length) = True := eq_true (by omega); (try rw [show ((0 : Int)).toNat = 0 from rfl] at hx154_0); (try rw [show 0 * 3 = 0 from rfl] at hx154_0); (try rw [Addr.add_zero'] at hx154_0); (try rw [show ((0 : Int)).toNat = 0 from rfl] at hx154_1); (try rw [show 0 * 3 = 0 from rfl] at hx154_1); (try rw [Addr.add_zero'] at hx154_1); (try rw [show ((0 : Int)).toNat = 0 from rfl] at hx154_2); (try rw [show 0 * 3 = 0 from rfl] at hx154_2); (try rw [Addr.add_zero'] at hx154_2); replace p154 := eq_true p154; replace q154 := eq_true q154))
          go_ret
          exact ⟨by first | rfl | (simp [errW_none, errW_some] <;> rfl) | (simp [*, errW_none, errW_some] <;> rfl), by repeat (first | (with_reducible first | exact HB.out | apply below_alloc | apply pw_below_drewN | apply below_drew1) | exact HB.out)⟩
      · rw [if_neg c4] at H
        exact absurd H (by simp)
    · rw [if_neg c3] at H
      have c3b0 : ((t150.length : Int) == 6) = false := beq_eq_false_iff_ne.mpr c3
      have c3b1 : ((t150.length : Int) != 6) = true := bne_iff_ne.mpr c3
      obtain rfl := Option.some.inj H
      go_enter Try.func18, Try.ntmps18
      go_wp2_with (first | ((with_reducible refine gate_callee (f := 16) rfl ?_); refine goesL_ (some 4) rfl rfl Try.func16 (by kernel_rfl) rfl #[.int .i64 0, .int .i64 3] rfl (by (try simp only [List.map_toArray, List.map_cons, List.map_nil]); first | done | rfl | (simp only [List.length_drop, List.length_take]; rfl)) ?_; (with_reducible refine (locks_Up.calls 0 3 t150 t151 _ A1.out).mono ?_); rintro e w11 ⟨v152, rfl, ho0, hb⟩; refine ⟨_, rfl, ?_⟩; have n0_ := Aside0.mk (Kd.R_lower ho0 (below_size (by repeat (first | (with_reducible first | exact HB.out | apply below_alloc | apply pw_below_drewN | apply below_drew1) | exact HB.out)))); have n1_ := Aside0.mk (below_step (by repeat (first | (with_reducible first | exact HB.out | apply below_alloc | apply pw_below_drewN | apply below_drew1) | exact HB.out)) hb); clear HB; have HO153 := n0_; have HB := n1_; clear n0_ n1_; (try clear hb); (try clear hb2); (try clear hk); (try clear hi); (try clear ho0); obtain ⟨Ao12, co12, eo12⟩ := Kd.R_slice HO153.out; subst eo12))
      go_ret
      exact ⟨by first | rfl | (simp [errW_none, errW_some] <;> rfl) | (simp [*, errW_none, errW_some] <;> rfl), by repeat (first | (with_reducible first | exact HB.out | apply below_alloc | apply pw_below_drewN | apply below_drew1) | exact HB.out)⟩
  · rw [if_neg c2] at H
    have c2b0 : (t151 == 0) = false := beq_eq_false_iff_ne.mpr c2
    have c2b1 : (t151 != 0) = true := bne_iff_ne.mpr c2
    obtain rfl := Option.some.inj H
    go_enter Try.func18, Try.ntmps18
    go_wp2_with (first | ((with_reducible refine gate_callee (f := 16) rfl ?_); refine goesL_ (some 4) rfl rfl Try.func16 (by kernel_rfl) rfl #[.int .i64 0, .int .i64 3] rfl (by (try simp only [List.map_toArray, List.map_cons, List.map_nil]); first | done | rfl | (simp only [List.length_drop, List.length_take]; rfl)) ?_; (with_reducible refine (locks_Up.calls 0 3 t150 t151 _ A1.out).mono ?_); rintro e w13 ⟨v152, rfl, ho0, hb⟩; refine ⟨_, rfl, ?_⟩; have n0_ := Aside0.mk (Kd.R_lower ho0 (below_size (by repeat (first | (with_reducible first | exact HB.out | apply below_alloc | apply pw_below_drewN | apply below_drew1) | exact HB.out)))); have n1_ := Aside0.mk (below_step (by repeat (first | (with_reducible first | exact HB.out | apply below_alloc | apply pw_below_drewN | apply below_drew1) | exact HB.out)) hb); clear HB; have HO153 := n0_; have HB := n1_; clear n0_ n1_; (try clear hb); (try clear hb2); (try clear hk); (try clear hi); (try clear ho0)))
    go_ret
    exact ⟨by first | rfl | (simp [errW_none, errW_some] <;> rfl) | (simp [*, errW_none, errW_some] <;> rfl), by repeat (first | (with_reducible first | exact HB.out | apply below_alloc | apply pw_below_drewN | apply below_drew1) | exact HB.out)⟩

/-! ### rowlockref14_Same: function 19 -/
def rowlockref14_Same.l0 : Nat → List (S42) → List (S42) → Int → Option (Bool)
  | 0, _, _, _ => none
  | k + 1, x0, x1, x5 => if x5 < (x0.length : Int) then (if 0 ≤ x5 then (if x5 < (x1.length : Int) then (if (!(((rd_T42 x0 x5).f0) == ((rd_T42 x1 x5).f0)) || (!(((rd_T42 x0 x5).f1) == ((rd_T42 x1 x5).f1)) || (!(((rd_T42 x0 x5).f2) == ((rd_T42 x1 x5).f2))))) = true then (some false) else (rowlockref14_Same.l0 k x0 x1 (wrap64 (x5 + 1)))) else (none)) else (none)) else (some true)
def rowlockref14_Same.f (k : Nat) (l0 : List (S42)) (l1 : List (S42)) : Option (Bool) := if (l0.length : Int) = (l1.length : Int) then (rowlockref14_Same.l0 k l0 l1 0) else (some false)
theorem rowlockref14_Same.mono_l : ∀ k, (∀ y0 y1 y2, LeO (rowlockref14_Same.l0 k y0 y1 y2) (rowlockref14_Same.l0 (k + 1) y0 y1 y2))
  | 0 => fun _ _ _ r h => by simp [rowlockref14_Same.l0] at h
  | k + 1 => by
    have ih0 := rowlockref14_Same.mono_l k
    · intro y0 y1 y2
      unfold rowlockref14_Same.l0
      repeat' first
      | (with_reducible exact ih0 _ _ _)
      | (with_reducible exact LeO.refl _)
      | (with_reducible exact LeO.none _)
      | (with_reducible refine LeO.ite ?_ ?_)
      | (with_reducible refine LeO.bind ?_ (fun _ => ?_))
      | exact ih0 _ _ _
      | exact LeO.none _
      | refine LeO.ite ?_ ?_
      | refine LeO.bind ?_ (fun _ => ?_)
theorem rowlockref14_Same.mono : ∀ a0 a1 k, LeO (rowlockref14_Same.f k a0 a1) (rowlockref14_Same.f (k + 1) a0 a1) := by
  intro a0 a1 k
  have ih0 := rowlockref14_Same.mono_l k
  unfold rowlockref14_Same.f
  repeat' first
      | (with_reducible exact ih0 _ _ _)
      | (with_reducible exact LeO.refl _)
      | (with_reducible exact LeO.none _)
      | (with_reducible refine LeO.ite ?_ ?_)
      | (with_reducible refine LeO.bind ?_ (fun _ => ?_))
      | exact ih0 _ _ _
      | exact LeO.none _
      | refine LeO.ite ?_ ?_
      | refine LeO.bind ?_ (fun _ => ?_)
set_option maxHeartbeats 8000000 in
set_option maxRecDepth 100000 in
theorem rowlockref14_Same.calls (k : Nat) (A0 : Option Addr) (c0 : Nat) (l0 : List (S42)) (A1 : Option Addr) (c1 : Nat) (l1 : List (S42)) (r : Bool) (w : World) (hr0 : Kd.C k42 w A0 l0.length l0) (hc0 : l0.length ≤ c0) (hr1 : Kd.C k42 w A1 l1.length l1) (hc1 : l1.length ≤ c1) (h : rowlockref14_Same.f k l0 l1 = some r) :
    Calls Try.prog 19 #[.slice A0 l0.length c0, .slice A1 l1.length c1] w fun e w' => e = .returned (.bool r) ∧ Drawn0 w w' := by
  have hu42 := Try.underlying42
  have HR0 := Aside0.mk hr0
  have HC0 := Aside0.mk hc0
  clear hr0 hc0
  have HR1 := Aside0.mk hr1
  have HC1 := Aside0.mk hc1
  clear hr1 hc1
  have H : (if (l0.length : Int) = (l1.length : Int) then (rowlockref14_Same.l0 k l0 l1 0) else (some false)) = some r := h
  clear h
  by_cases c3 : (l0.length : Int) = (l1.length : Int)
  · rw [if_pos c3] at H
    have c3b0 : ((l0.length : Int) == (l1.length : Int)) = true := beq_iff_eq.mpr c3
    have c3b1 : ((l0.length : Int) != (l1.length : Int)) = false := bne_eq_false_iff_eq.mpr c3
    have c3b2 : (l0.length == l1.length) = true := by first | simpa using c3 | (simp at c3 ⊢; omega)
    clear c3
    have H' := Aside0.mk H
    clear H
    go_enter Try.func19, Try.ntmps19
    go_wp2
    repeat (go_quiet (fail); try go_wp2)
    go_loopg [5] k (fun kq v5 w' => ∃ (x5_1 : Int), v5 = .int .i64 x5_1 ∧ Aside0 (rowlockref14_Same.l0 kq l0 l1 x5_1 = some r) ∧ Aside0 (kq ≤ k) ∧ Drawn0 w w')
    case atStart => exact ⟨(0), (by first | rfl | (simp; done) | (simp [*]; done)), H', ⟨Nat.le_refl _⟩, by repeat (first | exact Drawn0.refl _ | apply Drawn0.step)⟩
    case round =>
      clear H'
      try clear c1
      try clear p2
      try clear c3
      try clear c3b0
      try clear c3b1
      try clear c3b2
      obtain ⟨x5_1, rfl, HA, HK1, ⟨m1, rfl⟩⟩ := hrel
      cases gk with
      | zero => exact absurd HA.out (by simp [rowlockref14_Same.l0])
      | succ k1 =>
        have H := HA.out
        clear HA
        simp only [rowlockref14_Same.l0] at H
        by_cases c4 : x5_1 < (l0.length : Int)
        · rw [if_pos c4] at H
          have c4b0 : decide (x5_1 < (l0.length : Int)) = true := decide_eq_true c4
          clear c4
          by_cases c5 : 0 ≤ x5_1
          · rw [if_pos c5] at H
            have c5b0 : decide (0 ≤ x5_1) = true := decide_eq_true c5
            clear c5
            by_cases c6 : x5_1 < (l1.length : Int)
            · rw [if_pos c6] at H
              have c6b0 : decide (x5_1 < (l1.length : Int)) = true := decide_eq_true c6
              clear c6
              by_cases c7 : (!(((rd_T42 l0 x5_1).f0) == ((rd_T42 l1 x5_1).f0)) || (!(((rd_T42 l0 x5_1).f1) == ((rd_T42 l1 x5_1).f1)) || (!(((rd_T42 l0 x5_1).f2) == ((rd_T42 l1 x5_1).f2))))) = true
              · rw [if_pos c7] at H
                have c7b0 : (!(((rd_T42 l0 x5_1).f0) == ((rd_T42 l1 x5_1).f0)) || (!(((rd_T42 l0 x5_1).f1) == ((rd_T42 l1 x5_1).f1)) || (!(((rd_T42 l0 x5_1).f2) == ((rd_T42 l1 x5_1).f2))))) = true := c7
                clear c7
                obtain rfl := Option.some.inj H
                have p156 : 0 ≤ (x5_1 : Int) := of_decide_eq_true (by first | (with_reducible assumption) | assumption)
                have q156 : x5_1 < (l0.length : Int) := of_decide_eq_true (by first | (with_reducible assumption) | assumption)
                obtain ⟨ad156, e156, hx156_0, hx156_1, hx156_2⟩ := at_T42 HR0.out x5_1 p156 q156
                cases e156
                replace p156 := eq_true p156
                replace q156 := eq_true q156
                have p157 : 0 ≤ (x5_1 : Int) := of_decide_eq_true (by first | (with_reducible assumption) | assumption)
                have q157 : x5_1 < (l1.length : Int) := of_decide_eq_true (by first | (with_reducible assumption) | assumption)
                obtain ⟨ad157, e157, hx157_0, hx157_1, hx157_2⟩ := at_T42 HR1.out x5_1 p157 q157
                cases e157
                replace p157 := eq_true p157
                replace q157 := eq_true q157
                go_wp2
                repeat (go_quiet (fail); try go_wp2)
                go_ret
                exact ⟨by first | rfl | (simp; done) | (simp [*]; done), by repeat (first | exact Drawn0.refl _ | apply Drawn0.step)⟩
              · rw [if_neg c7] at H
                have c7b0 : (!(((rd_T42 l0 x5_1).f0) == ((rd_T42 l1 x5_1).f0)) || (!(((rd_T42 l0 x5_1).f1) == ((rd_T42 l1 x5_1).f1)) || (!(((rd_T42 l0 x5_1).f2) == ((rd_T42 l1 x5_1).f2))))) = false := by simpa using c7
                clear c7
                have H' := Aside0.mk H
                clear H
                have p156 : 0 ≤ (x5_1 : Int) := of_decide_eq_true (by first | (with_reducible assumption) | assumption)
                have q156 : x5_1 < (l0.length : Int) := of_decide_eq_true (by first | (with_reducible assumption) | assumption)
                obtain ⟨ad156, e156, hx156_0, hx156_1, hx156_2⟩ := at_T42 HR0.out x5_1 p156 q156
                cases e156
                replace p156 := eq_true p156
                replace q156 := eq_true q156
                have p157 : 0 ≤ (x5_1 : Int) := of_decide_eq_true (by first | (with_reducible assumption) | assumption)
                have q157 : x5_1 < (l1.length : Int) := of_decide_eq_true (by first | (with_reducible assumption) | assumption)
                obtain ⟨ad157, e157, hx157_0, hx157_1, hx157_2⟩ := at_T42 HR1.out x5_1 p157 q157
                cases e157
                replace p157 := eq_true p157
                replace q157 := eq_true q157
                go_wp2
                repeat (go_quiet (fail); try go_wp2)
                go_roundg k1
                case measure => have := HK1.out; omega
                case rel => exact ⟨(wrap64 (x5_1 + 1)), (by first | rfl | (simp; done) | (simp [*]; done)), H', ⟨by have := HK1.out; omega⟩, by repeat (first | exact Drawn0.refl _ | apply Drawn0.step)⟩
            · rw [if_neg c6] at H
              exact absurd H (by simp)
          · rw [if_neg c5] at H
            exact absurd H (by simp)
        · rw [if_neg c4] at H
          have c4b0 : decide (x5_1 < (l0.length : Int)) = false := decide_eq_false c4
          clear c4
          obtain rfl := Option.some.inj H
          go_wp2
          repeat (go_quiet (fail); try go_wp2)
          go_ret
          exact ⟨by first | rfl | (simp; done) | (simp [*]; done), by repeat (first | exact Drawn0.refl _ | apply Drawn0.step)⟩
  · rw [if_neg c3] at H
    have c3b0 : ((l0.length : Int) == (l1.length : Int)) = false := beq_eq_false_iff_ne.mpr c3
    have c3b1 : ((l0.length : Int) != (l1.length : Int)) = true := bne_iff_ne.mpr c3
    have c3b2 : (l0.length == l1.length) = false := by first | simpa using c3 | (simp at c3 ⊢; omega)
    obtain rfl := Option.some.inj H
    go_enter Try.func19, Try.ntmps19
    go_wp2
    repeat (go_quiet (fail); try go_wp2)
    go_ret
    exact ⟨by first | rfl | (simp; done) | (simp [*]; done), by repeat (first | exact Drawn0.refl _ | apply Drawn0.step)⟩

/-! ### locks_Lock: function 20 -/
def locks_Lock.f (a0 : Int) (a1 : Int) (a2 : Int) : Option ((List (S42)) × Int) := (locks_may.f a0 a1 a2).bind fun t158 => (if t158 = true then ((locks_with.f 21 6).bind fun bt159 => ((locks_with.f 4 a1).bind fun bt162 => ((locks_with.f 20 4).bind fun bt165 => ((locks_op.f 26).bind fun bt168 => ((locks_number.f (wrap64 (a2 + 1))).bind fun bt171 => ((locks_with.f 5 a1).bind fun bt174 => ((locks_op.f 22).bind fun bt177 => ((locks_block.f a0 (([(⟨bt159.1, bt159.2.1, bt159.2.2⟩ : S42), (⟨bt162.1, bt162.2.1, bt162.2.2⟩ : S42), (⟨bt165.1, bt165.2.1, bt165.2.2⟩ : S42), (⟨bt168.1, bt168.2.1, bt168.2.2⟩ : S42), (⟨bt171.1, bt171.2.1, bt171.2.2⟩ : S42), (⟨bt174.1, bt174.2.1, bt174.2.2⟩ : S42), (⟨bt177.1, bt177.2.1, bt177.2.2⟩ : S42)] : List (S42)))).bind fun bt183 => (some (bt183.1, bt183.2)))))))))) else (some (([] : List (S42)), 2)))
set_option maxHeartbeats 8000000 in
set_option maxRecDepth 100000 in
theorem locks_Lock.calls (a0 : Int) (a1 : Int) (a2 : Int) (r1 : List (S42)) (r2 : Int) (w : World) (h : locks_Lock.f a0 a1 a2 = some (r1, r2)) :
    Calls Try.prog 20 #[.int .i64 a0, .int .i64 a1, .int .i64 a2] w fun e w' => ∃ v0_ : Value, e = .returned (.tuple #[v0_, .int .i64 r2]) ∧ Kd.R k42 42 w' w.heap.size (fun _ => True) v0_ r1 ∧ Below w.heap.size w w' := by
  have HB := Aside0.mk (Below.refl w.heap.size w)
  have H : ((locks_may.f a0 a1 a2).bind fun t158 => (if t158 = true then ((locks_with.f 21 6).bind fun bt159 => ((locks_with.f 4 a1).bind fun bt162 => ((locks_with.f 20 4).bind fun bt165 => ((locks_op.f 26).bind fun bt168 => ((locks_number.f (wrap64 (a2 + 1))).bind fun bt171 => ((locks_with.f 5 a1).bind fun bt174 => ((locks_op.f 22).bind fun bt177 => ((locks_block.f a0 (([(⟨bt159.1, bt159.2.1, bt159.2.2⟩ : S42), (⟨bt162.1, bt162.2.1, bt162.2.2⟩ : S42), (⟨bt165.1, bt165.2.1, bt165.2.2⟩ : S42), (⟨bt168.1, bt168.2.1, bt168.2.2⟩ : S42), (⟨bt171.1, bt171.2.1, bt171.2.2⟩ : S42), (⟨bt174.1, bt174.2.1, bt174.2.2⟩ : S42), (⟨bt177.1, bt177.2.1, bt177.2.2⟩ : S42)] : List (S42)))).bind fun bt183 => (some (bt183.1, bt183.2)))))))))) else (some (([] : List (S42)), 2)))) = some (r1, r2) := h
  clear h
  replace H := Option.bind_eq_some_iff.mp H
  obtain ⟨t158, A40, H⟩ := H
  replace H : (if t158 = true then ((locks_with.f 21 6).bind fun bt159 => ((locks_with.f 4 a1).bind fun bt162 => ((locks_with.f 20 4).bind fun bt165 => ((locks_op.f 26).bind fun bt168 => ((locks_number.f (wrap64 (a2 + 1))).bind fun bt171 => ((locks_with.f 5 a1).bind fun bt174 => ((locks_op.f 22).bind fun bt177 => ((locks_block.f a0 (([(⟨bt159.1, bt159.2.1, bt159.2.2⟩ : S42), (⟨bt162.1, bt162.2.1, bt162.2.2⟩ : S42), (⟨bt165.1, bt165.2.1, bt165.2.2⟩ : S42), (⟨bt168.1, bt168.2.1, bt168.2.2⟩ : S42), (⟨bt171.1, bt171.2.1, bt171.2.2⟩ : S42), (⟨bt174.1, bt174.2.1, bt174.2.2⟩ : S42), (⟨bt177.1, bt177.2.1, bt177.2.2⟩ : S42)] : List (S42)))).bind fun bt183 => (some (bt183.1, bt183.2)))))))))) else (some (([] : List (S42)), 2))) = some (r1, r2) := H
  have A4 := Aside0.mk A40
  clear A40
  by_cases c5 : t158 = true
  · subst c5
    have H1 : ((locks_with.f 21 6).bind fun bt159 => ((locks_with.f 4 a1).bind fun bt162 => ((locks_with.f 20 4).bind fun bt165 => ((locks_op.f 26).bind fun bt168 => ((locks_number.f (wrap64 (a2 + 1))).bind fun bt171 => ((locks_with.f 5 a1).bind fun bt174 => ((locks_op.f 22).bind fun bt177 => ((locks_block.f a0 (([(⟨bt159.1, bt159.2.1, bt159.2.2⟩ : S42), (⟨bt162.1, bt162.2.1, bt162.2.2⟩ : S42), (⟨bt165.1, bt165.2.1, bt165.2.2⟩ : S42), (⟨bt168.1, bt168.2.1, bt168.2.2⟩ : S42), (⟨bt171.1, bt171.2.1, bt171.2.2⟩ : S42), (⟨bt174.1, bt174.2.1, bt174.2.2⟩ : S42), (⟨bt177.1, bt177.2.1, bt177.2.2⟩ : S42)] : List (S42)))).bind fun bt183 => (some (bt183.1, bt183.2)))))))))) = some (r1, r2) := by rw [if_pos rfl] at H; exact H
    clear H
    have H := H1
    clear H1
    replace H := Option.bind_eq_some_iff.mp H
    obtain ⟨⟨t159, t160, t161⟩, A60, H⟩ := H
    replace H : ((locks_with.f 4 a1).bind fun bt162 => ((locks_with.f 20 4).bind fun bt165 => ((locks_op.f 26).bind fun bt168 => ((locks_number.f (wrap64 (a2 + 1))).bind fun bt171 => ((locks_with.f 5 a1).bind fun bt174 => ((locks_op.f 22).bind fun bt177 => ((locks_block.f a0 (([(⟨t159, t160, t161⟩ : S42), (⟨bt162.1, bt162.2.1, bt162.2.2⟩ : S42), (⟨bt165.1, bt165.2.1, bt165.2.2⟩ : S42), (⟨bt168.1, bt168.2.1, bt168.2.2⟩ : S42), (⟨bt171.1, bt171.2.1, bt171.2.2⟩ : S42), (⟨bt174.1, bt174.2.1, bt174.2.2⟩ : S42), (⟨bt177.1, bt177.2.1, bt177.2.2⟩ : S42)] : List (S42)))).bind fun bt183 => (some (bt183.1, bt183.2))))))))) = some (r1, r2) := H
    have A6 := Aside0.mk A60
    clear A60
    replace H := Option.bind_eq_some_iff.mp H
    obtain ⟨⟨t162, t163, t164⟩, A70, H⟩ := H
    replace H : ((locks_with.f 20 4).bind fun bt165 => ((locks_op.f 26).bind fun bt168 => ((locks_number.f (wrap64 (a2 + 1))).bind fun bt171 => ((locks_with.f 5 a1).bind fun bt174 => ((locks_op.f 22).bind fun bt177 => ((locks_block.f a0 (([(⟨t159, t160, t161⟩ : S42), (⟨t162, t163, t164⟩ : S42), (⟨bt165.1, bt165.2.1, bt165.2.2⟩ : S42), (⟨bt168.1, bt168.2.1, bt168.2.2⟩ : S42), (⟨bt171.1, bt171.2.1, bt171.2.2⟩ : S42), (⟨bt174.1, bt174.2.1, bt174.2.2⟩ : S42), (⟨bt177.1, bt177.2.1, bt177.2.2⟩ : S42)] : List (S42)))).bind fun bt183 => (some (bt183.1, bt183.2)))))))) = some (r1, r2) := H
    have A7 := Aside0.mk A70
    clear A70
    replace H := Option.bind_eq_some_iff.mp H
    obtain ⟨⟨t165, t166, t167⟩, A80, H⟩ := H
    replace H : ((locks_op.f 26).bind fun bt168 => ((locks_number.f (wrap64 (a2 + 1))).bind fun bt171 => ((locks_with.f 5 a1).bind fun bt174 => ((locks_op.f 22).bind fun bt177 => ((locks_block.f a0 (([(⟨t159, t160, t161⟩ : S42), (⟨t162, t163, t164⟩ : S42), (⟨t165, t166, t167⟩ : S42), (⟨bt168.1, bt168.2.1, bt168.2.2⟩ : S42), (⟨bt171.1, bt171.2.1, bt171.2.2⟩ : S42), (⟨bt174.1, bt174.2.1, bt174.2.2⟩ : S42), (⟨bt177.1, bt177.2.1, bt177.2.2⟩ : S42)] : List (S42)))).bind fun bt183 => (some (bt183.1, bt183.2))))))) = some (r1, r2) := H
    have A8 := Aside0.mk A80
    clear A80
    replace H := Option.bind_eq_some_iff.mp H
    obtain ⟨⟨t168, t169, t170⟩, A90, H⟩ := H
    replace H : ((locks_number.f (wrap64 (a2 + 1))).bind fun bt171 => ((locks_with.f 5 a1).bind fun bt174 => ((locks_op.f 22).bind fun bt177 => ((locks_block.f a0 (([(⟨t159, t160, t161⟩ : S42), (⟨t162, t163, t164⟩ : S42), (⟨t165, t166, t167⟩ : S42), (⟨t168, t169, t170⟩ : S42), (⟨bt171.1, bt171.2.1, bt171.2.2⟩ : S42), (⟨bt174.1, bt174.2.1, bt174.2.2⟩ : S42), (⟨bt177.1, bt177.2.1, bt177.2.2⟩ : S42)] : List (S42)))).bind fun bt183 => (some (bt183.1, bt183.2)))))) = some (r1, r2) := H
    have A9 := Aside0.mk A90
    clear A90
    replace H := Option.bind_eq_some_iff.mp H
    obtain ⟨⟨t171, t172, t173⟩, A100, H⟩ := H
    replace H : ((locks_with.f 5 a1).bind fun bt174 => ((locks_op.f 22).bind fun bt177 => ((locks_block.f a0 (([(⟨t159, t160, t161⟩ : S42), (⟨t162, t163, t164⟩ : S42), (⟨t165, t166, t167⟩ : S42), (⟨t168, t169, t170⟩ : S42), (⟨t171, t172, t173⟩ : S42), (⟨bt174.1, bt174.2.1, bt174.2.2⟩ : S42), (⟨bt177.1, bt177.2.1, bt177.2.2⟩ : S42)] : List (S42)))).bind fun bt183 => (some (bt183.1, bt183.2))))) = some (r1, r2) := H
    have A10 := Aside0.mk A100
    clear A100
    replace H := Option.bind_eq_some_iff.mp H
    obtain ⟨⟨t174, t175, t176⟩, A110, H⟩ := H
    replace H : ((locks_op.f 22).bind fun bt177 => ((locks_block.f a0 (([(⟨t159, t160, t161⟩ : S42), (⟨t162, t163, t164⟩ : S42), (⟨t165, t166, t167⟩ : S42), (⟨t168, t169, t170⟩ : S42), (⟨t171, t172, t173⟩ : S42), (⟨t174, t175, t176⟩ : S42), (⟨bt177.1, bt177.2.1, bt177.2.2⟩ : S42)] : List (S42)))).bind fun bt183 => (some (bt183.1, bt183.2)))) = some (r1, r2) := H
    have A11 := Aside0.mk A110
    clear A110
    replace H := Option.bind_eq_some_iff.mp H
    obtain ⟨⟨t177, t178, t179⟩, A120, H⟩ := H
    replace H : ((locks_block.f a0 (([(⟨t159, t160, t161⟩ : S42), (⟨t162, t163, t164⟩ : S42), (⟨t165, t166, t167⟩ : S42), (⟨t168, t169, t170⟩ : S42), (⟨t171, t172, t173⟩ : S42), (⟨t174, t175, t176⟩ : S42), (⟨t177, t178, t179⟩ : S42)] : List (S42)))).bind fun bt183 => (some (bt183.1, bt183.2))) = some (r1, r2) := H
    have A12 := Aside0.mk A120
    clear A120
    obtain ⟨y180, hy180⟩ : ∃ y_ : List (S42), y_ = (([(⟨t159, t160, t161⟩ : S42), (⟨t162, t163, t164⟩ : S42), (⟨t165, t166, t167⟩ : S42), (⟨t168, t169, t170⟩ : S42), (⟨t171, t172, t173⟩ : S42), (⟨t174, t175, t176⟩ : S42), (⟨t177, t178, t179⟩ : S42)] : List (S42))) := ⟨_, rfl⟩
    replace H : ((locks_block.f a0 y180).bind fun bt183 => (some (bt183.1, bt183.2))) = some (r1, r2) := by first | (rw [hy180]; with_reducible exact H) | (have H2_ := (Option.bind_some _ _).symm.trans H; rw [hy180]; with_reducible exact H2_) | (have H2_ := (Option.bind_some _ _).symm.trans H; with_reducible exact H2_) | with_reducible exact H | (rw [hy180]; exact H) | exact H
    have Ny180 := Aside0.mk hy180
    clear hy180
    replace H := Option.bind_eq_some_iff.mp H
    obtain ⟨⟨t183, t184⟩, A130, H⟩ := H
    replace H : (some (t183, t184)) = some (r1, r2) := H
    have A13 := Aside0.mk A130
    clear A130
    simp only [Option.some.injEq, Prod.mk.injEq] at H
    obtain ⟨rfl, rfl⟩ := H
    go_enter Try.func20, Try.ntmps20
    go_wp2_with (first | ((with_reducible refine gate_callee (f := 51) rfl ?_); refine goesL_ (some 11) rfl rfl Try.func51 (by kernel_rfl) rfl #[.int .i64 a0, .int .i64 a1, .int .i64 a2] rfl (by (try simp only [List.map_toArray, List.map_cons, List.map_nil]); first | done | rfl | (simp only [List.length_drop, List.length_take]; rfl)) ?_; (with_reducible refine (locks_may.calls a0 a1 a2 true _ A4.out).mono ?_); rintro e w' ⟨rfl, ⟨nd, rfl⟩⟩; refine ⟨_, rfl, ?_⟩) | ((with_reducible refine gate_callee (f := 53) rfl ?_); refine goesL_ (some 14) rfl rfl Try.func53 (by kernel_rfl) rfl #[.int .u8 21, .int .i64 6] rfl (by (try simp only [List.map_toArray, List.map_cons, List.map_nil]); first | done | rfl | (simp only [List.length_drop, List.length_take]; rfl)) ?_; (with_reducible refine (locks_with.calls 21 6 t159 t160 t161 _ A6.out).mono ?_); rintro e w14 ⟨rfl, hb⟩; refine ⟨_, rfl, ?_⟩; have n0_ := Aside0.mk (below_step (by repeat (first | (with_reducible first | exact HB.out | apply below_alloc | apply pw_below_drewN | apply below_drew1) | exact HB.out)) hb); clear HB; have HB := n0_; clear n0_; (try clear hb); (try clear hb2); (try clear hk); (try clear hi)) | ((with_reducible refine gate_callee (f := 53) rfl ?_); refine goesL_ (some 16) rfl rfl Try.func53 (by kernel_rfl) rfl #[.int .u8 4, .int .i64 a1] rfl (by (try simp only [List.map_toArray, List.map_cons, List.map_nil]); first | done | rfl | (simp only [List.length_drop, List.length_take]; rfl)) ?_; (with_reducible refine (locks_with.calls 4 a1 t162 t163 t164 _ A7.out).mono ?_); rintro e w15 ⟨rfl, hb⟩; refine ⟨_, rfl, ?_⟩; have n0_ := Aside0.mk (below_step (by repeat (first | (with_reducible first | exact HB.out | apply below_alloc | apply pw_below_drewN | apply below_drew1) | exact HB.out)) hb); clear HB; have HB := n0_; clear n0_; (try clear hb); (try clear hb2); (try clear hk); (try clear hi)) | ((with_reducible refine gate_callee (f := 53) rfl ?_); refine goesL_ (some 17) rfl rfl Try.func53 (by kernel_rfl) rfl #[.int .u8 20, .int .i64 4] rfl (by (try simp only [List.map_toArray, List.map_cons, List.map_nil]); first | done | rfl | (simp only [List.length_drop, List.length_take]; rfl)) ?_; (with_reducible refine (locks_with.calls 20 4 t165 t166 t167 _ A8.out).mono ?_); rintro e w16 ⟨rfl, hb⟩; refine ⟨_, rfl, ?_⟩; have n0_ := Aside0.mk (below_step (by repeat (first | (with_reducible first | exact HB.out | apply below_alloc | apply pw_below_drewN | apply below_drew1) | exact HB.out)) hb); clear HB; have HB := n0_; clear n0_; (try clear hb); (try clear hb2); (try clear hk); (try clear hi)) | ((with_reducible refine gate_callee (f := 54) rfl ?_); refine goesL_ (some 18) rfl rfl Try.func54 (by kernel_rfl) rfl #[.int .u8 26] rfl (by (try simp only [List.map_toArray, List.map_cons, List.map_nil]); first | done | rfl | (simp only [List.length_drop, List.length_take]; rfl)) ?_; (with_reducible refine (locks_op.calls 26 t168 t169 t170 _ A9.out).mono ?_); rintro e w17 ⟨rfl, hb⟩; refine ⟨_, rfl, ?_⟩; have n0_ := Aside0.mk (below_step (by repeat (first | (with_reducible first | exact HB.out | apply below_alloc | apply pw_below_drewN | apply below_drew1) | exact HB.out)) hb); clear HB; have HB := n0_; clear n0_; (try clear hb); (try clear hb2); (try clear hk); (try clear hi)) | ((with_reducible refine gate_callee (f := 55) rfl ?_); refine goesL_ (some 21) rfl rfl Try.func55 (by kernel_rfl) rfl #[.int .i64 (wrap64 (a2 + 1))] rfl (by (try simp only [List.map_toArray, List.map_cons, List.map_nil]); first | done | rfl | (simp only [List.length_drop, List.length_take]; rfl)) ?_; (with_reducible refine (locks_number.calls (wrap64 (a2 + 1)) t171 t172 t173 _ A10.out).mono ?_); rintro e w18 ⟨rfl, hb⟩; refine ⟨_, rfl, ?_⟩; have n0_ := Aside0.mk (below_step (by repeat (first | (with_reducible first | exact HB.out | apply below_alloc | apply pw_below_drewN | apply below_drew1) | exact HB.out)) hb); clear HB; have HB := n0_; clear n0_; (try clear hb); (try clear hb2); (try clear hk); (try clear hi)) | ((with_reducible refine gate_callee (f := 53) rfl ?_); refine goesL_ (some 23) rfl rfl Try.func53 (by kernel_rfl) rfl #[.int .u8 5, .int .i64 a1] rfl (by (try simp only [List.map_toArray, List.map_cons, List.map_nil]); first | done | rfl | (simp only [List.length_drop, List.length_take]; rfl)) ?_; (with_reducible refine (locks_with.calls 5 a1 t174 t175 t176 _ A11.out).mono ?_); rintro e w19 ⟨rfl, hb⟩; refine ⟨_, rfl, ?_⟩; have n0_ := Aside0.mk (below_step (by repeat (first | (with_reducible first | exact HB.out | apply below_alloc | apply pw_below_drewN | apply below_drew1) | exact HB.out)) hb); clear HB; have HB := n0_; clear n0_; (try clear hb); (try clear hb2); (try clear hk); (try clear hi)) | ((with_reducible refine gate_callee (f := 54) rfl ?_); refine goesL_ (some 24) rfl rfl Try.func54 (by kernel_rfl) rfl #[.int .u8 22] rfl (by (try simp only [List.map_toArray, List.map_cons, List.map_nil]); first | done | rfl | (simp only [List.length_drop, List.length_take]; rfl)) ?_; (with_reducible refine (locks_op.calls 22 t177 t178 t179 _ A12.out).mono ?_); rintro e w20 ⟨rfl, hb⟩; refine ⟨_, rfl, ?_⟩; have n0_ := Aside0.mk (below_step (by repeat (first | (with_reducible first | exact HB.out | apply below_alloc | apply pw_below_drewN | apply below_drew1) | exact HB.out)) hb); clear HB; have HB := n0_; clear n0_; (try clear hb); (try clear hb2); (try clear hk); (try clear hi)) | ((with_reducible refine gate_dst (N := 25) rfl ?_); refine Kd.R_lit k42 _ 42 ?hg (N := 25) ?hd (xs := ([(⟨t159, t160, t161⟩ : S42), (⟨t162, t163, t164⟩ : S42), (⟨t165, t166, t167⟩ : S42), (⟨t168, t169, t170⟩ : S42), (⟨t171, t172, t173⟩ : S42), (⟨t174, t175, t176⟩ : S42), (⟨t177, t178, t179⟩ : S42)] : List (S42))) (inner := [.int .u8 t159, .int .i64 t160, .int .u64 t161, .int .u8 t162, .int .i64 t163, .int .u64 t164, .int .u8 t165, .int .i64 t166, .int .u64 t167, .int .u8 t168, .int .i64 t169, .int .u64 t170, .int .u8 t171, .int .i64 t172, .int .u64 t173, .int .u8 t174, .int .i64 t175, .int .u64 t176, .int .u8 t177, .int .i64 t178, .int .u64 t179]) (ok := fun _ => True) (okp := fun _ => True) ?hr ?hp (fun _ hk => hk) trivial (Below.refl _ _) (Nat.le_refl _) (by simp) ?_; (case hd => rfl); (case hg => rfl); (case hr => first | (go_simp; done) | (go_simp; rfl)); (case hp => exact (Reps.c3 (show Kd.M k42 _ _ _ (⟨t159, t160, t161⟩ : S42) [.int .u8 t159, .int .i64 t160, .int .u64 t161] from (k42_mkM _ _ _ (⟨t159, t160, t161⟩ : S42) )) (Reps.c3 (show Kd.M k42 _ _ _ (⟨t162, t163, t164⟩ : S42) [.int .u8 t162, .int .i64 t163, .int .u64 t164] from (k42_mkM _ _ _ (⟨t162, t163, t164⟩ : S42) )) (Reps.c3 (show Kd.M k42 _ _ _ (⟨t165, t166, t167⟩ : S42) [.int .u8 t165, .int .i64 t166, .int .u64 t167] from (k42_mkM _ _ _ (⟨t165, t166, t167⟩ : S42) )) (Reps.c3 (show Kd.M k42 _ _ _ (⟨t168, t169, t170⟩ : S42) [.int .u8 t168, .int .i64 t169, .int .u64 t170] from (k42_mkM _ _ _ (⟨t168, t169, t170⟩ : S42) )) (Reps.c3 (show Kd.M k42 _ _ _ (⟨t171, t172, t173⟩ : S42) [.int .u8 t171, .int .i64 t172, .int .u64 t173] from (k42_mkM _ _ _ (⟨t171, t172, t173⟩ : S42) )) (Reps.c3 (show Kd.M k42 _ _ _ (⟨t174, t175, t176⟩ : S42) [.int .u8 t174, .int .i64 t175, .int .u64 t176] from (k42_mkM _ _ _ (⟨t174, t175, t176⟩ : S42) )) (Reps.c3 (show Kd.M k42 _ _ _ (⟨t177, t178, t179⟩ : S42) [.int .u8 t177, .int .i64 t178, .int .u64 t179] from (k42_mkM _ _ _ (⟨t177, t178, t179⟩ : S42) )) (Reps.none _ _))))))))); intro v181 w21 ho22 hb hg_ hnew_; clear hg_ hnew_; (first | rw [← Ny180.out] at ho22 | (simp only [Int.reduceToNat] at ho22; rw [← Ny180.out] at ho22)); have n0_ := Aside0.mk (Kd.R_lower ho22 (below_size (by repeat (first | (with_reducible first | exact HB.out | apply below_alloc | apply pw_below_drewN | apply below_drew1) | exact HB.out)))); have n1_ := Aside0.mk (below_step (by repeat (first | (with_reducible first | exact HB.out | apply below_alloc | apply pw_below_drewN | apply below_drew1) | exact HB.out)) hb); clear HB; have HO182 := n0_; have HB := n1_; clear n0_ n1_; clear hb ho22; obtain ⟨Ao23, co23, eo23⟩ := Kd.R_slice HO182.out; subst eo23) | ((with_reducible refine gate_callee (f := 52) rfl ?_); refine goesL_ (some 26) rfl rfl Try.func52 (by kernel_rfl) rfl #[.int .i64 a0, .slice Ao23 y180.length co23] rfl (by (try simp only [List.map_toArray, List.map_cons, List.map_nil]); first | done | rfl | (simp only [List.length_drop, List.length_take]; rfl)) ?_; (with_reducible refine (locks_block.calls a0 _ _ y180 t183 t184 _ ?side1 ?side2 A13.out).mono ?_); (case side1 => repeat (first | exact (Kd.R_reads' HO182.out).2.2 | (with_reducible refine Kd.C_alloc ?_ _) | (with_reducible refine Kd.C_drewN ?_ _) | (with_reducible refine Kd.C_drew ?_))); (case side2 => exact (Kd.R_reads' HO182.out).2.1); rintro e w24 ⟨v185, rfl, ho0, hb⟩; refine ⟨_, rfl, ?_⟩; have n0_ := Aside0.mk (Kd.R_elder' (by (with_reducible repeat (first | apply Kd.R_alloc | apply Kd.R_drewN | apply Kd.R_drew)); exact HO182.out) (Kd.R_base ho0) hb); have n1_ := Aside0.mk (Kd.R_lower (Kd.R_new' ho0 (Kd.R_lt (by (with_reducible repeat (first | apply Kd.R_alloc | apply Kd.R_drewN | apply Kd.R_drew)); exact HO182.out))) (below_size (by repeat (first | (with_reducible first | exact HB.out | apply below_alloc | apply pw_below_drewN | apply below_drew1) | exact HB.out)))); have n2_ := Aside0.mk (below_step (by repeat (first | (with_reducible first | exact HB.out | apply below_alloc | apply pw_below_drewN | apply below_drew1) | exact HB.out)) hb); clear HO182; clear HB; have HO182 := n0_; have HO186 := n1_; have HB := n2_; clear n0_ n1_ n2_; (try clear hb); (try clear hb2); (try clear hk); (try clear hi); (try clear ho0)))
    go_ret2
    exact ⟨_, by first | rfl | (simp [errW_none, errW_some] <;> rfl) | (simp [*, errW_none, errW_some] <;> rfl), by (with_reducible repeat (first | apply Kd.R_alloc | apply Kd.R_drewN | apply Kd.R_drew)); exact Kd.R_mono HO186.out (fun _ hk => trivial), by repeat (first | (with_reducible first | exact HB.out | apply below_alloc | apply pw_below_drewN | apply below_drew1) | exact HB.out)⟩
  · replace c5 := Bool.eq_false_iff.mpr c5
    subst c5
    have H1 : (some (([] : List (S42)), 2)) = some (r1, r2) := by rw [if_neg (show ¬ (false = true) by decide)] at H; exact H
    clear H
    have H := H1
    clear H1
    simp only [Option.some.injEq, Prod.mk.injEq] at H
    obtain ⟨rfl, rfl⟩ := H
    go_enter Try.func20, Try.ntmps20
    go_wp2_with (first | ((with_reducible refine gate_callee (f := 51) rfl ?_); refine goesL_ (some 11) rfl rfl Try.func51 (by kernel_rfl) rfl #[.int .i64 a0, .int .i64 a1, .int .i64 a2] rfl (by (try simp only [List.map_toArray, List.map_cons, List.map_nil]); first | done | rfl | (simp only [List.length_drop, List.length_take]; rfl)) ?_; (with_reducible refine (locks_may.calls a0 a1 a2 false _ A4.out).mono ?_); rintro e w' ⟨rfl, ⟨nd, rfl⟩⟩; refine ⟨_, rfl, ?_⟩))
    go_ret2
    exact ⟨_, by first | rfl | (simp [errW_none, errW_some] <;> rfl) | (simp [*, errW_none, errW_some] <;> rfl), by first | exact Kd.R_nil _ _ _ _ _ | exact Kd.N_nil _ _ _ _ _ | exact Kd.V_nil _ _ _ _ _ | exact Kd.Q_nil _ _ _ _ _ | exact Kd.S_nil _ _ _ _ _, by repeat (first | (with_reducible first | exact HB.out | apply below_alloc | apply pw_below_drewN | apply below_drew1) | exact HB.out)⟩

end Go.Proofs.Ytmfcfihpmollfaa.PLocksBlocks
