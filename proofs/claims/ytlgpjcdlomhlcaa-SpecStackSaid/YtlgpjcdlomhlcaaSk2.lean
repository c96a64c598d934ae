
/-
  SpecStack: the walk.
-/
import Derived.Test.YtlgpjcdlomhlcaaSk1
import Derived.Test.YtlgpjcdlomhlcaaSp36
import Derived.Test.YtlgpjcdlomhlcaaSp22
import Derived.Lib.QuietBelow
namespace Go.Proofs.Ytlgpjcdlomhlcaa
open Go.RowKit Go.ChangeShapes Go.WideShapes
set_option linter.unusedSimpArgs false
set_option linter.unusedVariables false

set_option maxRecDepth 20000 in
set_option maxHeartbeats 8000000 in
theorem specStack_walk (W : World) (a0 : Option Addr) (n0 c0 : Nat) (h0 : InsIn W a0 n0 c0) (fu : Int) (hfu : (Lit.int .u8 fu).wf = true) : Calls Try.prog 7 #[.slice a0 n0 c0, .int .u8 fu] W fun e w' => e = .returned (.bool true) ∧ Below W.heap.size W w' := by
  obtain ⟨l0, rfl, hil, hc0, _⟩ := h0
  have hfl : (fewL l0).length ≤ 64 := by unfold fewL; rw [List.length_take]; omega
  have hflc : (fewL l0).length ≤ c0 := by unfold fewL; rw [List.length_take]; omega
  have hI : InssAt W a0 (fewL l0) := inss_take hil 64
  have HFW := Lib.hid (show ∀ w : World, Calls Try.prog 11 #[.slice a0 l0.length c0] w fun e w' => e = .returned (.slice a0 (fewL l0).length c0) ∧ w = w' from fun w => few17 a0 c0 l0 hc0 w)
  obtain ⟨l, hl⟩ : ∃ l, fewL l0 = l := ⟨_, rfl⟩
  rw [hl] at HFW hfl hflc hI
  obtain ⟨n0, hn0⟩ : ∃ n, l0.length = n := ⟨_, rfl⟩
  rw [hn0] at HFW
  rw [hn0]
  clear hl hn0 hil hc0
  have HCK := Lib.hid (show ∀ w : World, Below W.heap.size W w → Calls Try.prog 19 #[.slice a0 l.length c0, .int .i64 12] w fun e w' => e = .returned (.tuple #[.int .i64 (ck15 l 12).1, .int .i64 (ck15 l 12).2]) ∧ Below w.heap.size w w' from fun w hb => check15 l (by omega) 12 a0 c0 w (inss_below hI hb))
  have HF := Lib.hid (show 0 ≤ fu ∧ fu ≤ 255 from bounds_u8 hfu)
  have kf : wrap64 fu = fu := by have := HF.out; unfold wrap64; omega
  have HPA := Lib.hid (ck15_parts (l := l) (tv := 12))
  obtain ⟨⟨p, er⟩, hck⟩ : ∃ c, ck15 l 12 = c := ⟨_, rfl⟩
  rw [hck] at HCK HPA
  obtain ⟨nl, hnl⟩ : ∃ n, l.length = n := ⟨_, rfl⟩
  have HNL := Lib.hid hnl
  rw [hnl] at HCK HFW hfl hflc
  clear hck hfu
  by_cases he : er = 0
  case neg =>
    have q1 : (er != 0) = true := by simpa using he
    have q2 : (er == 0) = false := by simpa using he
    clear he hI hnl
    go_enter Try.func7, Try.ntmps7
    go_wp2_with (first | (go_at_call 11; refine (HFW.out _).mono ?_; rintro e w' ⟨rfl, rfl⟩) | (go_at_call 19; refine (HCK.out _ (Below.refl _ _)).mono ?_; rintro e w1 ⟨rfl, hb1⟩; have B1 := Lib.hid hb1; clear hb1) | (go_at_call 14; refine (live_any _).mono ?_; rintro e w8 ⟨rfl, hb8⟩; have B8 := Lib.hid (B1.out.trans (hb8.mono B1.out.size)); clear hb8))
    go_ret
    exact ⟨rfl, B8.out⟩
  subst he
  obtain ⟨g1, g2, g3, _, _, _, g7⟩ := HPA.out rfl
  have hsp := dp15_spec g1 g7
  have HDP := Lib.hid (show ∀ w : World, Below W.heap.size W w → Calls Try.prog 20 #[.slice a0 l.length c0] w (DpPost l w) from fun w hb => depths15 l g1 (by omega) g3 a0 c0 w (inss_below hI hb))
  have HPL := Lib.hid (show ∀ w : World, Below W.heap.size W w → Calls Try.prog 21 #[.slice a0 l.length c0, stV St.zero none 0 none 0, .int .i64 fu] w (OcPost (goF l (fuelF fu).toNat St.zero) w) from fun w hb => plain_all l c0 a0 (by omega) (by omega) St.zero zero_ok fu (by decide) (by decide) none 0 none 0 w (Src.row (row_nil _ 0) (by decide)) (Src.row (row_nil _ 0) (by decide)) (inss_below hI hb))
  have hst := goF_stk hI hsp.2.2 (fuelF fu).toNat St.zero ⟨by decide, by show (0 : Int) < _; omega, by rw [show (St.zero.pc.toNat) = 0 from rfl, hsp.2.1]; rfl⟩
  unfold DpPost at HDP
  unfold OcPost at HPL
  obtain ⟨⟨d, dp2, dp3⟩, hd⟩ : ∃ d, dp15 l = d := ⟨_, rfl⟩
  obtain ⟨o, ho⟩ : ∃ o, goF l (fuelF fu).toNat St.zero = o := ⟨_, rfl⟩
  rw [hd] at HDP hsp hst g7
  rw [ho] at HPL hst
  dsimp only at HDP hsp hst g7
  subst g7
  obtain ⟨t1, t2, t3⟩ := hst
  obtain ⟨j, hj⟩ : ∃ j : Nat, o.s.pc = (j : Int) := ⟨o.s.pc.toNat, by omega⟩
  rw [hj, Int.toNat_natCast] at t3
  rw [hj, hnl] at t2
  have hdl := hsp.1
  rw [hnl] at HDP HPL hdl
  rw [show stV St.zero none 0 none 0 = .agg #[.int .i64 0, .slice none 0 0, .int .u64 0, .int .u64 0, .int .u64 0, .int .u64 0, .slice none 0 0] from rfl] at HPL
  have HJ := Lib.hid hj
  have HT := Lib.hid t3
  have HD := Lib.hid hdl
  have k1 : decide ((j : Int) ≥ 0) = true := decide_eq_true (by omega)
  have k2 : decide ((0 : Int) ≤ (j : Int)) = true := k1
  have k3 : decide ((j : Int) < (nl : Int)) = true := decide_eq_true t2
  have k4 : decide (j < nl) = true := decide_eq_true (by omega)
  have k5 : (j : Int) < (d.length : Int) := by omega
  have k6 : (0 : Int) ≤ (j : Int) := by omega
  clear hj t1 t2 t3 hdl hsp hd ho g1 g2 g3 hI hnl hfl hflc HPA
  go_enter Try.func7, Try.ntmps7
  go_upto_region 7 with (first | (go_at_call 11; refine (HFW.out _).mono ?_; rintro e w' ⟨rfl, rfl⟩) | (go_at_call 19; refine (HCK.out _ (Below.refl _ _)).mono ?_; rintro e w1 ⟨rfl, hb1⟩; have B1 := Lib.hid hb1; clear hb1) | (go_at_call 20; refine (HDP.out _ B1.out).mono ?_; rintro e w2 ⟨Ad, cd, rfl, hr2, hb2⟩; have B2 := Lib.hid (B1.out.trans (hb2.mono B1.out.size)); have R2 := Lib.hid hr2; clear hr2 hb2) | (go_at_call 21; refine (HPL.out _ B2.out).mono ?_; rintro e w3 ⟨hb3, A1, c1, A2, c2, A3, c3, Aa, ca, rfl, _⟩; unfold ocC; have B3 := Lib.hid (B2.out.trans (hb3.mono B2.out.size)); have R3 := Lib.hid (irow_below R2.out hb3); clear hb3))
  rw [HJ.out]
  have X4 := Lib.hid (heap_alloc_new w3 (.cells #[.int .u8 o.kind, .int .i64 (j : Int), .slice A1 o.s.stk.length c1, .int .u64 o.s.la, .int .u64 o.s.lb, .int .u64 o.s.lc, .int .u64 o.s.ld, .slice A2 o.s.out.length c2, .slice A3 o.hp.length c3, .slice Aa o.arms.length ca, .int .i64 o.err] 46))
  have B4 := Lib.hid (B3.out.alloc B3.out.size (.cells #[.int .u8 o.kind, .int .i64 (j : Int), .slice A1 o.s.stk.length c1, .int .u64 o.s.la, .int .u64 o.s.lb, .int .u64 o.s.lc, .int .u64 o.s.ld, .slice A2 o.s.out.length c2, .slice A3 o.hp.length c3, .slice Aa o.arms.length ca, .int .i64 o.err] 46))
  have R4 := Lib.hid (irow_below R3.out ((Below.refl w3.heap.size w3).alloc (Nat.le_refl _) (.cells #[.int .u8 o.kind, .int .i64 (j : Int), .slice A1 o.s.stk.length c1, .int .u64 o.s.la, .int .u64 o.s.lb, .int .u64 o.s.lc, .int .u64 o.s.ld, .slice A2 o.s.out.length c2, .slice A3 o.hp.length c3, .slice Aa o.arms.length ca, .int .i64 o.err] 46)))
  generalize World.alloc _ _ = w4 at X4 B4 R4 ⊢
  generalize w3.heap.size = xo at X4 ⊢
  have x1 : w4.cell? ⟨xo, 1, none⟩ = some (.int .i64 (j : Int)) := hp_cell X4.out 1
  have xl := hp_lt X4.out
  go_upto_region 8 with fail
  clear x1 xl
  obtain ⟨gd, ed, xd, _, ld⟩ := irow_head R4.out (i := j) (by rw [HD.out]; exact of_decide_eq_true k4)
  subst ed
  rw [HT.out] at xd
  have k7 := cell_regrown xd
  have k8 := cell_regrown (show w4.cell? ⟨xo, 2, none⟩ = some (.slice A1 o.s.stk.length c1) from hp_cell X4.out 2)
  have k9 : ∀ (d : Nat) (os : Array Obj), gd < (Sort.grow (redrawn w4 d) os).heap.size := fun d os => Nat.lt_of_lt_of_le ld (below_regrown w4 d os).size
  have k10 : ∀ (d : Nat) (os : Array Obj), xo < (Sort.grow (redrawn w4 d) os).heap.size := fun d os => Nat.lt_of_lt_of_le (hp_lt X4.out) (below_regrown w4 d os).size
  rw [HD.out] at k5 ⊢
  have cL : ∀ (d : Nat) (os : Array Obj), Calls Try.prog 14 #[] (Sort.grow (redrawn w4 d) os) fun e w'' => e = .returned (.bool true) ∧ ∃ p : Regrown, w'' = Sort.grow (redrawn w4 p.d) p.os := fun d os => Calls.regrown_of (live_any _)
  clear xd ld
  refine wp_region_quiet_below (by kernel_rfl) (by kernel_rfl) ?_
  repeat (quiet_step ((go_at_call 14; exact cL _ _)))
  refine wpQuiet_nil ?_
  intro _ hw'
  obtain ⟨⟨dq, osq⟩, hw''⟩ := hw'
  subst hw''
  go_wp2_with fail
  go_ret
  exact ⟨rfl, B4.out.trans ((below_regrown w4 dq osq).mono B4.out.size)⟩
end Go.Proofs.Ytlgpjcdlomhlcaa
