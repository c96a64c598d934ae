
/-
  spec: touch, at an index.
-/
import Derived.Test.YtlgpjcdlomhlcaaSp5
namespace Go.Proofs.Ytlgpjcdlomhlcaa
open Go.RowKit Go.ChangeShapes Go.WideShapes
set_option linter.unusedSimpArgs false
set_option linter.unusedVariables false
section
variable {F : Nat → Prop} {w : World} {g : Nat} {T : TypeId} {X : List Value} {I : Value} {s : St} {hp : List Int} {p : Pl}
set_option maxRecDepth 20000 in
set_option maxHeartbeats 4000000 in
theorem touch_6 (ag v : Int) (hx : Ins3.ok ⟨6, ag, v⟩) (hfi : fitI 6 s.stk.length = true) (hag : 0 ≤ ag ∧ ag < 64) (hpc : 0 ≤ s.pc ∧ s.pc < 1000) (hn : s.stk.length ≤ 800) (hhp : hp.length ≤ 1000) (w : World) (h : WK F w g T X I s hp p) :
    Calls Try.prog 79 #[.pointer (some ⟨g, 0, none⟩), .agg #[.int .u8 6, .int .i64 ag, .int .u64 v]] w (WRes F w g T X I (if idxB (topI s.stk) ag hp.length then getF (ag + wholeN (topI s.stk)) { s with stk := s.stk.dropLast } hp else .error 2)) := by
  have HO := Lib.hid hx
  have HFI := Lib.hid hfi
  have lg := h.lt
  have KB := Lib.hid (h.box (.cells #[.int .u8 6, .int .i64 ag, .int .u64 v] 42))
  have BX0 := Lib.hid (show BoxX (w.alloc (.cells #[.int .u8 6, .int .i64 ag, .int .u64 v] 42)) w.heap.size 6 ag v from heap_alloc_new w _)
  have FB := Lib.hid (h.fr ((Below.refl _ _).alloc (Nat.le_refl _) (.cells #[.int .u8 6, .int .i64 ag, .int .u64 v] 42)))
  have HPC := Lib.hid (show I64 (s.pc + 1) from ⟨by omega, by omega⟩)
  have kw : wrap64 (s.pc + 1) = s.pc + 1 := by unfold wrap64; omega
  have ne1 : g ≠ w.heap.size := by omega
  have ne2 : w.heap.size ≠ g := by omega
  have HPO := Lib.hid (fit_pops hfi)
  have HW := Lib.hid h.stk.2
  have HHW := Lib.hid h.hep.2
  have e1 : popsI 6 = 1 := by decide
  have e2 : 1 ≤ s.stk.length := by have := HPO.out; omega
  obtain ⟨l, a, hl⟩ := snoc_of e2
  have HL := Lib.hid hl
  have ha : W64 a := HW.out a (by rw [hl]; simp)
  have HA := Lib.hid ha
  have hll : l.length ≤ 800 := by rw [hl] at hn; simp at hn; omega
  clear hl ha e1 e2
  have kw2 : wrap64 ((hp.length : Int) - ag) = (hp.length : Int) - ag := by unfold wrap64; omega
  have HC := Lib.hid (fun w => whole_any a HA.out w)
  obtain ⟨k, hk⟩ : ∃ k, wholeN a = k := ⟨_, rfl⟩
  have HK := Lib.hid hk
  have hI : idxB (topI s.stk) ag hp.length = (wholeOk a && decide (0 ≤ k) && decide (k < (hp.length : Int) - ag)) := by unfold idxB; rw [HL.out, topI_snoc, hk]
  have hP : getF (ag + wholeN (topI s.stk)) { s with stk := s.stk.dropLast } hp = getF (ag + k) { s with stk := l } hp := by rw [HL.out, topI_snoc, List.dropLast_concat, hk]
  rw [hI, hP]
  clear hI hP hk
  obtain ho | ho : wholeOk a = false ∨ wholeOk a = true := by cases wholeOk a <;> simp
  · have HWO := Lib.hid ho
    have HE := Lib.hid (show (if (wholeOk a && decide (0 ≤ k) && decide (k < (hp.length : Int) - ag)) = true then getF (ag + k) { s with stk := l } hp else Except.error 2) = .error 2 from by simp [ho])
    rw [HE.out]
    clear ho
    clear h hx hfi hpc hag
    go_enter Try.func79, Try.ntmps79
    go_wp2_with (first | (go_at_call 103; refine (HC.out _).mono ?_; rintro e w' ⟨rfl, rfl⟩; rw [HK.out, HWO.out]) | (go_at_call 58; refine (pop_sp l a (by exact HL.out) (by exact Nat.le_trans hll (by decide)) _ K1.out).mono ?_; rintro e v2 ⟨rfl, hf2, hk2⟩; have F2 := Lib.hid hf2; have K2 := Lib.hid hk2; have BV2 := Lib.hid (F2.out.hp BX1.out (Or.inr rfl)); have x0BV2 : v2.cell? ⟨w.heap.size, 0, none⟩ = some (.int .u8 6) := hp_cell BV2.out 0; have x1BV2 : v2.cell? ⟨w.heap.size, 1, none⟩ = some (.int .i64 ag) := hp_cell BV2.out 1; have x2BV2 : v2.cell? ⟨w.heap.size, 2, none⟩ = some (.int .u64 v) := hp_cell BV2.out 2; have lxBV2 := hp_lt BV2.out; have y8b := K2.out.at.2.2.2.2.2.2.2.2; have y1b := K2.out.at.2.1; have z1b := K2.out.fz 1; have ly2 := K2.out.lt; clear hf2 hk2) | (go_at_call 56; refine (fits_sp ⟨6, ag, v⟩ HO.out (by exact Nat.le_trans hn (by decide)) _ KB.out).mono ?_; rintro e w1 ⟨he, hb, hk⟩; rw [if_pos HFI.out] at he; obtain rfl := he; have B1 := Lib.hid hb; have K1 := Lib.hid hk; have BX1 := Lib.hid (hp_below BX0.out hb); have x0BX1 : w1.cell? ⟨w.heap.size, 0, none⟩ = some (.int .u8 6) := hp_cell BX1.out 0; have x1BX1 : w1.cell? ⟨w.heap.size, 1, none⟩ = some (.int .i64 ag) := hp_cell BX1.out 1; have x2BX1 : w1.cell? ⟨w.heap.size, 2, none⟩ = some (.int .u64 v) := hp_cell BX1.out 2; have lxBX1 := hp_lt BX1.out; have y1 := K1.out.at.2.1; have y8 := K1.out.at.2.2.2.2.2.2.2.2; have z1 := K1.out.fz 1; have ly1 := K1.out.lt; have KP := Lib.hid (K1.out.setPc (s.pc + 1) HPC.out); clear hb hk))
    refine quiet_tail 17 (by kernel_rfl) (by kernel_rfl) ?_
    simp only [List.take_succ_cons, List.take_zero, List.drop_succ_cons, List.drop_zero]
    repeat (go_big_quiet_step (fail))
    refine wpQuiet_nil ?_
    go_wp2_with (go_at_call 48; first | ((with_reducible refine (need_yes _ _).mono ?_); rintro e w' ⟨rfl, rfl⟩) | ((with_reducible refine (need_no _ _).mono ?_); rintro e w' ⟨rfl, rfl⟩))
    exact ⟨rfl, (FB.out.trans ((((KB.out.fr B1.out).trans F2.out).trans (Fr.drew1 _ _)).mono (fun k hk => .inl hk))), rfl⟩
  by_cases h0 : 0 ≤ k
  rotate_left
  · have HWO := Lib.hid ho
    have HE := Lib.hid (show (if (wholeOk a && decide (0 ≤ k) && decide (k < (hp.length : Int) - ag)) = true then getF (ag + k) { s with stk := l } hp else Except.error 2) = .error 2 from by simp [h0])
    rw [HE.out]
    have d0 : decide (k ≥ 0) = false := decide_eq_false h0
    have d0' : decide (0 ≤ k) = false := d0
    clear ho h0
    clear h hx hfi hpc hag
    go_enter Try.func79, Try.ntmps79
    go_wp2_with (first | (go_at_call 103; refine (HC.out _).mono ?_; rintro e w' ⟨rfl, rfl⟩; rw [HK.out, HWO.out]) | (go_at_call 58; refine (pop_sp l a (by exact HL.out) (by exact Nat.le_trans hll (by decide)) _ K1.out).mono ?_; rintro e v2 ⟨rfl, hf2, hk2⟩; have F2 := Lib.hid hf2; have K2 := Lib.hid hk2; have BV2 := Lib.hid (F2.out.hp BX1.out (Or.inr rfl)); have x0BV2 : v2.cell? ⟨w.heap.size, 0, none⟩ = some (.int .u8 6) := hp_cell BV2.out 0; have x1BV2 : v2.cell? ⟨w.heap.size, 1, none⟩ = some (.int .i64 ag) := hp_cell BV2.out 1; have x2BV2 : v2.cell? ⟨w.heap.size, 2, none⟩ = some (.int .u64 v) := hp_cell BV2.out 2; have lxBV2 := hp_lt BV2.out; have y8b := K2.out.at.2.2.2.2.2.2.2.2; have y1b := K2.out.at.2.1; have z1b := K2.out.fz 1; have ly2 := K2.out.lt; clear hf2 hk2) | (go_at_call 56; refine (fits_sp ⟨6, ag, v⟩ HO.out (by exact Nat.le_trans hn (by decide)) _ KB.out).mono ?_; rintro e w1 ⟨he, hb, hk⟩; rw [if_pos HFI.out] at he; obtain rfl := he; have B1 := Lib.hid hb; have K1 := Lib.hid hk; have BX1 := Lib.hid (hp_below BX0.out hb); have x0BX1 : w1.cell? ⟨w.heap.size, 0, none⟩ = some (.int .u8 6) := hp_cell BX1.out 0; have x1BX1 : w1.cell? ⟨w.heap.size, 1, none⟩ = some (.int .i64 ag) := hp_cell BX1.out 1; have x2BX1 : w1.cell? ⟨w.heap.size, 2, none⟩ = some (.int .u64 v) := hp_cell BX1.out 2; have lxBX1 := hp_lt BX1.out; have y1 := K1.out.at.2.1; have y8 := K1.out.at.2.2.2.2.2.2.2.2; have z1 := K1.out.fz 1; have ly1 := K1.out.lt; have KP := Lib.hid (K1.out.setPc (s.pc + 1) HPC.out); clear hb hk))
    refine quiet_tail 17 (by kernel_rfl) (by kernel_rfl) ?_
    simp only [List.take_succ_cons, List.take_zero, List.drop_succ_cons, List.drop_zero]
    repeat (go_big_quiet_step (fail))
    refine wpQuiet_nil ?_
    go_wp2_with (go_at_call 48; first | ((with_reducible refine (need_yes _ _).mono ?_); rintro e w' ⟨rfl, rfl⟩) | ((with_reducible refine (need_no _ _).mono ?_); rintro e w' ⟨rfl, rfl⟩))
    exact ⟨rfl, (FB.out.trans ((((KB.out.fr B1.out).trans F2.out).trans (Fr.drew1 _ _)).mono (fun k hk => .inl hk))), rfl⟩
  by_cases h1 : k < (hp.length : Int) - ag
  rotate_left
  · have HWO := Lib.hid ho
    have HE := Lib.hid (show (if (wholeOk a && decide (0 ≤ k) && decide (k < (hp.length : Int) - ag)) = true then getF (ag + k) { s with stk := l } hp else Except.error 2) = .error 2 from by simp [h1])
    rw [HE.out]
    have d0 : decide (k ≥ 0) = true := decide_eq_true h0
    have d0' : decide (0 ≤ k) = true := d0
    have d1 : decide (k < (hp.length : Int) - ag) = false := decide_eq_false h1
    clear ho h0 h1
    clear h hx hfi hpc hag
    go_enter Try.func79, Try.ntmps79
    go_wp2_with (first | (go_at_call 103; refine (HC.out _).mono ?_; rintro e w' ⟨rfl, rfl⟩; rw [HK.out, HWO.out]) | (go_at_call 58; refine (pop_sp l a (by exact HL.out) (by exact Nat.le_trans hll (by decide)) _ K1.out).mono ?_; rintro e v2 ⟨rfl, hf2, hk2⟩; have F2 := Lib.hid hf2; have K2 := Lib.hid hk2; have BV2 := Lib.hid (F2.out.hp BX1.out (Or.inr rfl)); have x0BV2 : v2.cell? ⟨w.heap.size, 0, none⟩ = some (.int .u8 6) := hp_cell BV2.out 0; have x1BV2 : v2.cell? ⟨w.heap.size, 1, none⟩ = some (.int .i64 ag) := hp_cell BV2.out 1; have x2BV2 : v2.cell? ⟨w.heap.size, 2, none⟩ = some (.int .u64 v) := hp_cell BV2.out 2; have lxBV2 := hp_lt BV2.out; have y8b := K2.out.at.2.2.2.2.2.2.2.2; have y1b := K2.out.at.2.1; have z1b := K2.out.fz 1; have ly2 := K2.out.lt; clear hf2 hk2) | (go_at_call 56; refine (fits_sp ⟨6, ag, v⟩ HO.out (by exact Nat.le_trans hn (by decide)) _ KB.out).mono ?_; rintro e w1 ⟨he, hb, hk⟩; rw [if_pos HFI.out] at he; obtain rfl := he; have B1 := Lib.hid hb; have K1 := Lib.hid hk; have BX1 := Lib.hid (hp_below BX0.out hb); have x0BX1 : w1.cell? ⟨w.heap.size, 0, none⟩ = some (.int .u8 6) := hp_cell BX1.out 0; have x1BX1 : w1.cell? ⟨w.heap.size, 1, none⟩ = some (.int .i64 ag) := hp_cell BX1.out 1; have x2BX1 : w1.cell? ⟨w.heap.size, 2, none⟩ = some (.int .u64 v) := hp_cell BX1.out 2; have lxBX1 := hp_lt BX1.out; have y1 := K1.out.at.2.1; have y8 := K1.out.at.2.2.2.2.2.2.2.2; have z1 := K1.out.fz 1; have ly1 := K1.out.lt; have KP := Lib.hid (K1.out.setPc (s.pc + 1) HPC.out); clear hb hk))
    refine quiet_tail 17 (by kernel_rfl) (by kernel_rfl) ?_
    simp only [List.take_succ_cons, List.take_zero, List.drop_succ_cons, List.drop_zero]
    repeat (go_big_quiet_step (fail))
    refine wpQuiet_nil ?_
    go_wp2_with (go_at_call 48; first | ((with_reducible refine (need_yes _ _).mono ?_); rintro e w' ⟨rfl, rfl⟩) | ((with_reducible refine (need_no _ _).mono ?_); rintro e w' ⟨rfl, rfl⟩))
    exact ⟨rfl, (FB.out.trans ((((KB.out.fr B1.out).trans F2.out).trans (Fr.drew1 _ _)).mono (fun k hk => .inl hk))), rfl⟩
  · have HWO := Lib.hid ho
    have d0 : decide (k ≥ 0) = true := decide_eq_true h0
    have d0' : decide (0 ≤ k) = true := d0
    have d1 : decide (k < (hp.length : Int) - ag) = true := decide_eq_true h1
    obtain ⟨i, hik⟩ := Int.eq_ofNat_of_zero_le (a := ag + k) (by omega)
    have hi : i < hp.length := by omega
    have HE := Lib.hid (show (if (wholeOk a && decide (0 ≤ k) && decide (k < (hp.length : Int) - ag)) = true then getF (ag + k) { s with stk := l } hp else Except.error 2) = getF (i : Int) { s with stk := l } hp from by rw [ho, d0', d1, ← hik]; rfl)
    rw [HE.out]
    have kwi : wrap64 (ag + k) = (i : Int) := by unfold wrap64; omega
    have e1 : decide ((i : Int) < (hp.length : Int)) = true := decide_eq_true (by omega)
    have e1' : decide (i < hp.length) = true := decide_eq_true hi
    have e2 : (i : Int) < (hp.length : Int) := by omega
    have e3 : (0 : Int) ≤ (i : Int) := by omega
    have HI := Lib.hid hi
    obtain ⟨g3, hA3, _⟩ := row_head h.hep hi
    have HA3 := Lib.hid hA3
    have HG := Lib.hid (show getF (i : Int) { s with stk := l } hp = .ok ({ s with pc := s.pc + 1, stk := l ++ [hvAt hp i] }, hp) from by unfold getF; rw [if_pos (by omega)]; rfl)
    have HV := Lib.hid (show W64 (hvAt hp i) from HHW.out _ (List.mem_of_getElem? (hv_get hi)))
    clear h hx hfi hpc hag ho h0 h1 hik hi hA3
    go_enter Try.func79, Try.ntmps79
    go_wp2_with (first | (go_at_call 103; refine (HC.out _).mono ?_; rintro e w' ⟨rfl, rfl⟩; rw [HK.out, HWO.out]) | (go_at_call 58; refine (pop_sp l a (by exact HL.out) (by exact Nat.le_trans hll (by decide)) _ K1.out).mono ?_; rintro e v2 ⟨rfl, hf2, hk2⟩; have F2 := Lib.hid hf2; have K2 := Lib.hid hk2; have BV2 := Lib.hid (F2.out.hp BX1.out (Or.inr rfl)); have x0BV2 : v2.cell? ⟨w.heap.size, 0, none⟩ = some (.int .u8 6) := hp_cell BV2.out 0; have x1BV2 : v2.cell? ⟨w.heap.size, 1, none⟩ = some (.int .i64 ag) := hp_cell BV2.out 1; have x2BV2 : v2.cell? ⟨w.heap.size, 2, none⟩ = some (.int .u64 v) := hp_cell BV2.out 2; have lxBV2 := hp_lt BV2.out; have y8b := K2.out.at.2.2.2.2.2.2.2.2; have y1b := K2.out.at.2.1; have z1b := K2.out.fz 1; have ly2 := K2.out.lt; clear hf2 hk2) | (go_at_call 56; refine (fits_sp ⟨6, ag, v⟩ HO.out (by exact Nat.le_trans hn (by decide)) _ KB.out).mono ?_; rintro e w1 ⟨he, hb, hk⟩; rw [if_pos HFI.out] at he; obtain rfl := he; have B1 := Lib.hid hb; have K1 := Lib.hid hk; have BX1 := Lib.hid (hp_below BX0.out hb); have x0BX1 : w1.cell? ⟨w.heap.size, 0, none⟩ = some (.int .u8 6) := hp_cell BX1.out 0; have x1BX1 : w1.cell? ⟨w.heap.size, 1, none⟩ = some (.int .i64 ag) := hp_cell BX1.out 1; have x2BX1 : w1.cell? ⟨w.heap.size, 2, none⟩ = some (.int .u64 v) := hp_cell BX1.out 2; have lxBX1 := hp_lt BX1.out; have y1 := K1.out.at.2.1; have y8 := K1.out.at.2.2.2.2.2.2.2.2; have z1 := K1.out.fz 1; have ly1 := K1.out.lt; have KP := Lib.hid (K1.out.setPc (s.pc + 1) HPC.out); clear hb hk))
    refine quiet_tail 17 (by kernel_rfl) (by kernel_rfl) ?_
    simp only [List.take_succ_cons, List.take_zero, List.drop_succ_cons, List.drop_zero]
    repeat (go_big_quiet_step (fail))
    refine wpQuiet_nil ?_
    have K3 := Lib.hid K2.out.drew
    have BX3 := Lib.hid (show v2.drew.heap[w.heap.size]? = _ from BV2.out)
    have FP := Lib.hid (show Fr F w v2.drew from (FB.out.trans ((((KB.out.fr B1.out).trans F2.out).trans (Fr.drew1 _ _)).mono (fun k hk => .inl hk))))
    change wpList _ _ _ _ _ v2.drew
    generalize v2.drew = v3 at K3 BX3 FP ⊢
    clear y1 y8 z1 ly1 BX1 x0BX1 x1BX1 x2BX1 lxBX1 KP BV2 x0BV2 x1BV2 x2BV2 lxBV2 y8b y1b z1b ly2 F2 K2
    have KQ := Lib.hid (K3.out.setPc (s.pc + 1) HPC.out)
    have x0B : v3.cell? ⟨w.heap.size, 0, none⟩ = some (.int .u8 6) := hp_cell BX3.out 0
    have x1B : v3.cell? ⟨w.heap.size, 1, none⟩ = some (.int .i64 ag) := hp_cell BX3.out 1
    have lxB := hp_lt BX3.out
    have y1c := K3.out.at.2.1
    have z1c := K3.out.fz 1
    have ly3 := K3.out.lt
    have y8c := K3.out.at.2.2.2.2.2.2.2.2
    rw [HA3.out] at y8c
    obtain ⟨g3x, ex, h3c, h3z, h3l⟩ := row_head K3.out.hep HI.out
    rw [HA3.out] at ex
    simp only [Option.some.injEq, Addr.mk.injEq, and_true, true_and] at ex
    subst ex
    have h3n : g ≠ g3 := fun e => K3.out.ne3 (by rw [HA3.out]; exact congrArg some e)
    have h3n' : g3 ≠ g := fun e => h3n e.symm
    go_wp2_with (first | (go_at_call 57; refine (push_sp (hvAt hp i) HV.out (by exact Nat.le_trans hll (by decide)) _ rfl _ KQ.out).mono ?_; rintro e v4 ⟨rfl, hf4, hk4⟩; have F4 := Lib.hid hf4; obtain ⟨p4, hq4⟩ := hk4; have K4 := Lib.hid hq4; clear hf4 hq4) | (go_at_call 48; first | ((with_reducible refine (need_yes _ _).mono ?_); rintro e w' ⟨rfl, rfl⟩) | ((with_reducible refine (need_no _ _).mono ?_); rintro e w' ⟨rfl, rfl⟩)))
    go_end0
    refine ⟨FP.out.trans (((Fr.set _ KQ.out.fg _ _).trans F4.out).mono (fun k hk => .inl hk)), ?_⟩
    rw [HG.out]
    exact ⟨rfl, _, K4.out.less (fun k hk => .inl hk)⟩
set_option maxRecDepth 20000 in
set_option maxHeartbeats 4000000 in
theorem touch_7 (ag v : Int) (hx : Ins3.ok ⟨7, ag, v⟩) (hfi : fitI 7 s.stk.length = true) (hag : 0 ≤ ag ∧ ag < 64) (hpc : 0 ≤ s.pc ∧ s.pc < 1000) (hn : s.stk.length ≤ 800) (hhp : hp.length ≤ 1000) (w : World) (h : WK F w g T X I s hp p) :
    Calls Try.prog 79 #[.pointer (some ⟨g, 0, none⟩), .agg #[.int .u8 7, .int .i64 ag, .int .u64 v]] w (WRes F w g T X I (if idxB (topI s.stk) ag hp.length then putF (ag + wholeN (topI s.stk)) { s with stk := s.stk.dropLast } hp else .error 2)) := by
  have HO := Lib.hid hx
  have HFI := Lib.hid hfi
  have lg := h.lt
  have KB := Lib.hid (h.box (.cells #[.int .u8 7, .int .i64 ag, .int .u64 v] 42))
  have BX0 := Lib.hid (show BoxX (w.alloc (.cells #[.int .u8 7, .int .i64 ag, .int .u64 v] 42)) w.heap.size 7 ag v from heap_alloc_new w _)
  have FB := Lib.hid (h.fr ((Below.refl _ _).alloc (Nat.le_refl _) (.cells #[.int .u8 7, .int .i64 ag, .int .u64 v] 42)))
  have HPC := Lib.hid (show I64 (s.pc + 1) from ⟨by omega, by omega⟩)
  have kw : wrap64 (s.pc + 1) = s.pc + 1 := by unfold wrap64; omega
  have ne1 : g ≠ w.heap.size := by omega
  have ne2 : w.heap.size ≠ g := by omega
  have HPO := Lib.hid (fit_pops hfi)
  have HW := Lib.hid h.stk.2
  have HHW := Lib.hid h.hep.2
  have e1 : popsI 7 = 2 := by decide
  have e2 : 2 ≤ s.stk.length := by have := HPO.out; omega
  obtain ⟨l1, a, hl⟩ := snoc_of (l := s.stk) (by omega)
  have e3 : 1 ≤ l1.length := by rw [hl] at e2; simp at e2; omega
  obtain ⟨l, b, hl1⟩ := snoc_of e3
  subst hl1
  have HL := Lib.hid hl
  have HA := Lib.hid (HW.out a (by rw [hl]; simp))
  have HB := Lib.hid (HW.out b (by rw [hl]; simp))
  have hll' : (l ++ [b]).length ≤ 800 := by rw [hl] at hn; simp at hn ⊢; omega
  have hll : l.length ≤ 800 := by simp at hll'; omega
  clear hl e1 e2 e3
  have kw2 : wrap64 ((hp.length : Int) - ag) = (hp.length : Int) - ag := by unfold wrap64; omega
  have HC := Lib.hid (fun w => whole_any a HA.out w)
  obtain ⟨k, hk⟩ : ∃ k, wholeN a = k := ⟨_, rfl⟩
  have HK := Lib.hid hk
  have hI : idxB (topI s.stk) ag hp.length = (wholeOk a && decide (0 ≤ k) && decide (k < (hp.length : Int) - ag)) := by unfold idxB; rw [HL.out, topI_snoc, hk]
  have hP : putF (ag + wholeN (topI s.stk)) { s with stk := s.stk.dropLast } hp = putF (ag + k) { s with stk := (l ++ [b]) } hp := by rw [HL.out, topI_snoc, List.dropLast_concat, hk]
  rw [hI, hP]
  clear hI hP hk
  obtain ho | ho : wholeOk a = false ∨ wholeOk a = true := by cases wholeOk a <;> simp
  · have HWO := Lib.hid ho
    have HE := Lib.hid (show (if (wholeOk a && decide (0 ≤ k) && decide (k < (hp.length : Int) - ag)) = true then putF (ag + k) { s with stk := (l ++ [b]) } hp else Except.error 2) = .error 2 from by simp [ho])
    rw [HE.out]
    clear ho
    clear h hx hfi hpc hag
    go_enter Try.func79, Try.ntmps79
    go_wp2_with (first | (go_at_call 103; refine (HC.out _).mono ?_; rintro e w' ⟨rfl, rfl⟩; rw [HK.out, HWO.out]) | (go_at_call 58; refine (pop_sp (l ++ [b]) a (by exact HL.out) (by exact Nat.le_trans hll' (by decide)) _ K1.out).mono ?_; rintro e v2 ⟨rfl, hf2, hk2⟩; have F2 := Lib.hid hf2; have K2 := Lib.hid hk2; have BV2 := Lib.hid (F2.out.hp BX1.out (Or.inr rfl)); have x0BV2 : v2.cell? ⟨w.heap.size, 0, none⟩ = some (.int .u8 7) := hp_cell BV2.out 0; have x1BV2 : v2.cell? ⟨w.heap.size, 1, none⟩ = some (.int .i64 ag) := hp_cell BV2.out 1; have x2BV2 : v2.cell? ⟨w.heap.size, 2, none⟩ = some (.int .u64 v) := hp_cell BV2.out 2; have lxBV2 := hp_lt BV2.out; have y8b := K2.out.at.2.2.2.2.2.2.2.2; have y1b := K2.out.at.2.1; have z1b := K2.out.fz 1; have ly2 := K2.out.lt; clear hf2 hk2) | (go_at_call 56; refine (fits_sp ⟨7, ag, v⟩ HO.out (by exact Nat.le_trans hn (by decide)) _ KB.out).mono ?_; rintro e w1 ⟨he, hb, hk⟩; rw [if_pos HFI.out] at he; obtain rfl := he; have B1 := Lib.hid hb; have K1 := Lib.hid hk; have BX1 := Lib.hid (hp_below BX0.out hb); have x0BX1 : w1.cell? ⟨w.heap.size, 0, none⟩ = some (.int .u8 7) := hp_cell BX1.out 0; have x1BX1 : w1.cell? ⟨w.heap.size, 1, none⟩ = some (.int .i64 ag) := hp_cell BX1.out 1; have x2BX1 : w1.cell? ⟨w.heap.size, 2, none⟩ = some (.int .u64 v) := hp_cell BX1.out 2; have lxBX1 := hp_lt BX1.out; have y1 := K1.out.at.2.1; have y8 := K1.out.at.2.2.2.2.2.2.2.2; have z1 := K1.out.fz 1; have ly1 := K1.out.lt; have KP := Lib.hid (K1.out.setPc (s.pc + 1) HPC.out); clear hb hk))
    refine quiet_tail 17 (by kernel_rfl) (by kernel_rfl) ?_
    simp only [List.take_succ_cons, List.take_zero, List.drop_succ_cons, List.drop_zero]
    repeat (go_big_quiet_step (fail))
    refine wpQuiet_nil ?_
    go_wp2_with (go_at_call 48; first | ((with_reducible refine (need_yes _ _).mono ?_); rintro e w' ⟨rfl, rfl⟩) | ((with_reducible refine (need_no _ _).mono ?_); rintro e w' ⟨rfl, rfl⟩))
    exact ⟨rfl, (FB.out.trans ((((KB.out.fr B1.out).trans F2.out).trans (Fr.drew1 _ _)).mono (fun k hk => .inl hk))), rfl⟩
  by_cases h0 : 0 ≤ k
  rotate_left
  · have HWO := Lib.hid ho
    have HE := Lib.hid (show (if (wholeOk a && decide (0 ≤ k) && decide (k < (hp.length : Int) - ag)) = true then putF (ag + k) { s with stk := (l ++ [b]) } hp else Except.error 2) = .error 2 from by simp [h0])
    rw [HE.out]
    have d0 : decide (k ≥ 0) = false := decide_eq_false h0
    have d0' : decide (0 ≤ k) = false := d0
    clear ho h0
    clear h hx hfi hpc hag
    go_enter Try.func79, Try.ntmps79
    go_wp2_with (first | (go_at_call 103; refine (HC.out _).mono ?_; rintro e w' ⟨rfl, rfl⟩; rw [HK.out, HWO.out]) | (go_at_call 58; refine (pop_sp (l ++ [b]) a (by exact HL.out) (by exact Nat.le_trans hll' (by decide)) _ K1.out).mono ?_; rintro e v2 ⟨rfl, hf2, hk2⟩; have F2 := Lib.hid hf2; have K2 := Lib.hid hk2; have BV2 := Lib.hid (F2.out.hp BX1.out (Or.inr rfl)); have x0BV2 : v2.cell? ⟨w.heap.size, 0, none⟩ = some (.int .u8 7) := hp_cell BV2.out 0; have x1BV2 : v2.cell? ⟨w.heap.size, 1, none⟩ = some (.int .i64 ag) := hp_cell BV2.out 1; have x2BV2 : v2.cell? ⟨w.heap.size, 2, none⟩ = some (.int .u64 v) := hp_cell BV2.out 2; have lxBV2 := hp_lt BV2.out; have y8b := K2.out.at.2.2.2.2.2.2.2.2; have y1b := K2.out.at.2.1; have z1b := K2.out.fz 1; have ly2 := K2.out.lt; clear hf2 hk2) | (go_at_call 56; refine (fits_sp ⟨7, ag, v⟩ HO.out (by exact Nat.le_trans hn (by decide)) _ KB.out).mono ?_; rintro e w1 ⟨he, hb, hk⟩; rw [if_pos HFI.out] at he; obtain rfl := he; have B1 := Lib.hid hb; have K1 := Lib.hid hk; have BX1 := Lib.hid (hp_below BX0.out hb); have x0BX1 : w1.cell? ⟨w.heap.size, 0, none⟩ = some (.int .u8 7) := hp_cell BX1.out 0; have x1BX1 : w1.cell? ⟨w.heap.size, 1, none⟩ = some (.int .i64 ag) := hp_cell BX1.out 1; have x2BX1 : w1.cell? ⟨w.heap.size, 2, none⟩ = some (.int .u64 v) := hp_cell BX1.out 2; have lxBX1 := hp_lt BX1.out; have y1 := K1.out.at.2.1; have y8 := K1.out.at.2.2.2.2.2.2.2.2; have z1 := K1.out.fz 1; have ly1 := K1.out.lt; have KP := Lib.hid (K1.out.setPc (s.pc + 1) HPC.out); clear hb hk))
    refine quiet_tail 17 (by kernel_rfl) (by kernel_rfl) ?_
    simp only [List.take_succ_cons, List.take_zero, List.drop_succ_cons, List.drop_zero]
    repeat (go_big_quiet_step (fail))
    refine wpQuiet_nil ?_
    go_wp2_with (go_at_call 48; first | ((with_reducible refine (need_yes _ _).mono ?_); rintro e w' ⟨rfl, rfl⟩) | ((with_reducible refine (need_no _ _).mono ?_); rintro e w' ⟨rfl, rfl⟩))
    exact ⟨rfl, (FB.out.trans ((((KB.out.fr B1.out).trans F2.out).trans (Fr.drew1 _ _)).mono (fun k hk => .inl hk))), rfl⟩
  by_cases h1 : k < (hp.length : Int) - ag
  rotate_left
  · have HWO := Lib.hid ho
    have HE := Lib.hid (show (if (wholeOk a && decide (0 ≤ k) && decide (k < (hp.length : Int) - ag)) = true then putF (ag + k) { s with stk := (l ++ [b]) } hp else Except.error 2) = .error 2 from by simp [h1])
    rw [HE.out]
    have d0 : decide (k ≥ 0) = true := decide_eq_true h0
    have d0' : decide (0 ≤ k) = true := d0
    have d1 : decide (k < (hp.length : Int) - ag) = false := decide_eq_false h1
    clear ho h0 h1
    clear h hx hfi hpc hag
    go_enter Try.func79, Try.ntmps79
    go_wp2_with (first | (go_at_call 103; refine (HC.out _).mono ?_; rintro e w' ⟨rfl, rfl⟩; rw [HK.out, HWO.out]) | (go_at_call 58; refine (pop_sp (l ++ [b]) a (by exact HL.out) (by exact Nat.le_trans hll' (by decide)) _ K1.out).mono ?_; rintro e v2 ⟨rfl, hf2, hk2⟩; have F2 := Lib.hid hf2; have K2 := Lib.hid hk2; have BV2 := Lib.hid (F2.out.hp BX1.out (Or.inr rfl)); have x0BV2 : v2.cell? ⟨w.heap.size, 0, none⟩ = some (.int .u8 7) := hp_cell BV2.out 0; have x1BV2 : v2.cell? ⟨w.heap.size, 1, none⟩ = some (.int .i64 ag) := hp_cell BV2.out 1; have x2BV2 : v2.cell? ⟨w.heap.size, 2, none⟩ = some (.int .u64 v) := hp_cell BV2.out 2; have lxBV2 := hp_lt BV2.out; have y8b := K2.out.at.2.2.2.2.2.2.2.2; have y1b := K2.out.at.2.1; have z1b := K2.out.fz 1; have ly2 := K2.out.lt; clear hf2 hk2) | (go_at_call 56; refine (fits_sp ⟨7, ag, v⟩ HO.out (by exact Nat.le_trans hn (by decide)) _ KB.out).mono ?_; rintro e w1 ⟨he, hb, hk⟩; rw [if_pos HFI.out] at he; obtain rfl := he; have B1 := Lib.hid hb; have K1 := Lib.hid hk; have BX1 := Lib.hid (hp_below BX0.out hb); have x0BX1 : w1.cell? ⟨w.heap.size, 0, none⟩ = some (.int .u8 7) := hp_cell BX1.out 0; have x1BX1 : w1.cell? ⟨w.heap.size, 1, none⟩ = some (.int .i64 ag) := hp_cell BX1.out 1; have x2BX1 : w1.cell? ⟨w.heap.size, 2, none⟩ = some (.int .u64 v) := hp_cell BX1.out 2; have lxBX1 := hp_lt BX1.out; have y1 := K1.out.at.2.1; have y8 := K1.out.at.2.2.2.2.2.2.2.2; have z1 := K1.out.fz 1; have ly1 := K1.out.lt; have KP := Lib.hid (K1.out.setPc (s.pc + 1) HPC.out); clear hb hk))
    refine quiet_tail 17 (by kernel_rfl) (by kernel_rfl) ?_
    simp only [List.take_succ_cons, List.take_zero, List.drop_succ_cons, List.drop_zero]
    repeat (go_big_quiet_step (fail))
    refine wpQuiet_nil ?_
    go_wp2_with (go_at_call 48; first | ((with_reducible refine (need_yes _ _).mono ?_); rintro e w' ⟨rfl, rfl⟩) | ((with_reducible refine (need_no _ _).mono ?_); rintro e w' ⟨rfl, rfl⟩))
    exact ⟨rfl, (FB.out.trans ((((KB.out.fr B1.out).trans F2.out).trans (Fr.drew1 _ _)).mono (fun k hk => .inl hk))), rfl⟩
  · have HWO := Lib.hid ho
    have d0 : decide (k ≥ 0) = true := decide_eq_true h0
    have d0' : decide (0 ≤ k) = true := d0
    have d1 : decide (k < (hp.length : Int) - ag) = true := decide_eq_true h1
    obtain ⟨i, hik⟩ := Int.eq_ofNat_of_zero_le (a := ag + k) (by omega)
    have hi : i < hp.length := by omega
    have HE := Lib.hid (show (if (wholeOk a && decide (0 ≤ k) && decide (k < (hp.length : Int) - ag)) = true then putF (ag + k) { s with stk := (l ++ [b]) } hp else Except.error 2) = putF (i : Int) { s with stk := (l ++ [b]) } hp from by rw [ho, d0', d1, ← hik]; rfl)
    rw [HE.out]
    have kwi : wrap64 (ag + k) = (i : Int) := by unfold wrap64; omega
    have e1 : decide ((i : Int) < (hp.length : Int)) = true := decide_eq_true (by omega)
    have e1' : decide (i < hp.length) = true := decide_eq_true hi
    have e2 : (i : Int) < (hp.length : Int) := by omega
    have e3 : (0 : Int) ≤ (i : Int) := by omega
    have HI := Lib.hid hi
    obtain ⟨g3, hA3, _⟩ := row_head h.hep hi
    have HA3 := Lib.hid hA3
    have HG := Lib.hid (show putF (i : Int) { s with stk := l ++ [b] } hp = .ok ({ s with pc := s.pc + 1, stk := l }, hp.set i b) from by unfold putF; rw [if_pos (by omega), topI_snoc, List.dropLast_concat]; rfl)
    clear h hx hfi hpc hag ho h0 h1 hik hi hA3
    go_enter Try.func79, Try.ntmps79
    go_wp2_with (first | (go_at_call 103; refine (HC.out _).mono ?_; rintro e w' ⟨rfl, rfl⟩; rw [HK.out, HWO.out]) | (go_at_call 58; refine (pop_sp (l ++ [b]) a (by exact HL.out) (by exact Nat.le_trans hll' (by decide)) _ K1.out).mono ?_; rintro e v2 ⟨rfl, hf2, hk2⟩; have F2 := Lib.hid hf2; have K2 := Lib.hid hk2; have BV2 := Lib.hid (F2.out.hp BX1.out (Or.inr rfl)); have x0BV2 : v2.cell? ⟨w.heap.size, 0, none⟩ = some (.int .u8 7) := hp_cell BV2.out 0; have x1BV2 : v2.cell? ⟨w.heap.size, 1, none⟩ = some (.int .i64 ag) := hp_cell BV2.out 1; have x2BV2 : v2.cell? ⟨w.heap.size, 2, none⟩ = some (.int .u64 v) := hp_cell BV2.out 2; have lxBV2 := hp_lt BV2.out; have y8b := K2.out.at.2.2.2.2.2.2.2.2; have y1b := K2.out.at.2.1; have z1b := K2.out.fz 1; have ly2 := K2.out.lt; clear hf2 hk2) | (go_at_call 56; refine (fits_sp ⟨7, ag, v⟩ HO.out (by exact Nat.le_trans hn (by decide)) _ KB.out).mono ?_; rintro e w1 ⟨he, hb, hk⟩; rw [if_pos HFI.out] at he; obtain rfl := he; have B1 := Lib.hid hb; have K1 := Lib.hid hk; have BX1 := Lib.hid (hp_below BX0.out hb); have x0BX1 : w1.cell? ⟨w.heap.size, 0, none⟩ = some (.int .u8 7) := hp_cell BX1.out 0; have x1BX1 : w1.cell? ⟨w.heap.size, 1, none⟩ = some (.int .i64 ag) := hp_cell BX1.out 1; have x2BX1 : w1.cell? ⟨w.heap.size, 2, none⟩ = some (.int .u64 v) := hp_cell BX1.out 2; have lxBX1 := hp_lt BX1.out; have y1 := K1.out.at.2.1; have y8 := K1.out.at.2.2.2.2.2.2.2.2; have z1 := K1.out.fz 1; have ly1 := K1.out.lt; have KP := Lib.hid (K1.out.setPc (s.pc + 1) HPC.out); clear hb hk))
    refine quiet_tail 17 (by kernel_rfl) (by kernel_rfl) ?_
    simp only [List.take_succ_cons, List.take_zero, List.drop_succ_cons, List.drop_zero]
    repeat (go_big_quiet_step (fail))
    refine wpQuiet_nil ?_
    have K3 := Lib.hid K2.out.drew
    have BX3 := Lib.hid (show v2.drew.heap[w.heap.size]? = _ from BV2.out)
    have FP := Lib.hid (show Fr F w v2.drew from (FB.out.trans ((((KB.out.fr B1.out).trans F2.out).trans (Fr.drew1 _ _)).mono (fun k hk => .inl hk))))
    change wpList _ _ _ _ _ v2.drew
    generalize v2.drew = v3 at K3 BX3 FP ⊢
    clear y1 y8 z1 ly1 BX1 x0BX1 x1BX1 x2BX1 lxBX1 KP BV2 x0BV2 x1BV2 x2BV2 lxBV2 y8b y1b z1b ly2 F2 K2
    have KQ := Lib.hid (K3.out.setPc (s.pc + 1) HPC.out)
    have x0B : v3.cell? ⟨w.heap.size, 0, none⟩ = some (.int .u8 7) := hp_cell BX3.out 0
    have x1B : v3.cell? ⟨w.heap.size, 1, none⟩ = some (.int .i64 ag) := hp_cell BX3.out 1
    have lxB := hp_lt BX3.out
    have y1c := K3.out.at.2.1
    have z1c := K3.out.fz 1
    have ly3 := K3.out.lt
    have y8c := K3.out.at.2.2.2.2.2.2.2.2
    rw [HA3.out] at y8c
    obtain ⟨g3x, ex, h3c, h3z, h3l⟩ := row_head K3.out.hep HI.out
    rw [HA3.out] at ex
    simp only [Option.some.injEq, Addr.mk.injEq, and_true, true_and] at ex
    subst ex
    have h3n : g ≠ g3 := fun e => K3.out.ne3 (by rw [HA3.out]; exact congrArg some e)
    have h3n' : g3 ≠ g := fun e => h3n e.symm
    go_wp2_with (first | (go_at_call 48; first | ((with_reducible refine (need_yes _ _).mono ?_); rintro e w' ⟨rfl, rfl⟩) | ((with_reducible refine (need_no _ _).mono ?_); rintro e w' ⟨rfl, rfl⟩)))
    have FQ := Lib.hid (show Fr F w (v3.setCell ⟨g, 1, none⟩ (.int .i64 (s.pc + 1))) from FP.out.trans ((Fr.set _ KQ.out.fg _ _).mono (fun k hk => .inl hk)))
    generalize (v3.setCell ⟨g, 1, none⟩ (.int .i64 (s.pc + 1))) = wP at KQ FQ ⊢
    clear y1c z1c y8c h3c h3z h3l h3n h3n' x0B x1B lxB ly3 BX3 K3
    have y8P := KQ.out.at.2.2.2.2.2.2.2.2
    rw [HA3.out] at y8P
    go_region_with (go_at_call 58; refine (pop_sp l b (by exact rfl) (by exact Nat.le_trans hll (by decide)) _ KQ.out.drew).mono ?_; rintro e v5 ⟨rfl, hf5, hk5⟩; have F5 := Lib.hid hf5; have K5 := Lib.hid hk5; have ly5 := K5.out.lt; clear hf5 hk5; have y8K2 := K5.out.at.2.2.2.2.2.2.2.2; rw [HA3.out] at y8K2; obtain ⟨g3K5, ex, h3cK5, h3zK5, h3lK5⟩ := row_head K5.out.hep HI.out; rw [HA3.out] at ex; simp only [Option.some.injEq, Addr.mk.injEq, and_true, true_and] at ex; subst ex; have h3nK5 : g ≠ g3 := fun e => K5.out.ne3 (by rw [HA3.out]; exact congrArg some e); have h3mK5 : g3 ≠ g := fun e => h3nK5 e.symm)
    all_goals
      go_wp2
      go_end0
      refine ⟨FQ.out.trans ((((Fr.drew1 _ _).trans F5.out).trans (Fr.set _ (K5.out.f3 g3 (by rw [HA3.out]; rfl)) _ _)).mono (fun k hk => .inl hk)), ?_⟩
      rw [HG.out]
      exact ⟨rfl, _, (K5.out.setH HA3.out HI.out HB.out).less (fun k hk => .inl hk)⟩
end
end Go.Proofs.Ytlgpjcdlomhlcaa
