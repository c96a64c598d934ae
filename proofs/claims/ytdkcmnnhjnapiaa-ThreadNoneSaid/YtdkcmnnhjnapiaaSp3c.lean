
/-
  spec: plain: the setting of a local, what is put out.
-/
import Derived.Test.YtdkcmnnhjnapiaaSp3b
namespace Go.Proofs.Ytdkcmnnhjnapiaa
open Go.RowKit Go.ChangeShapes Go.WideShapes
set_option linter.unusedSimpArgs false
set_option linter.unusedVariables false
section
variable {F : Nat → Prop} {w : World} {g : Nat} {T : TypeId} {X : List Value} {I : Value} {s : St} {hp : List Int} {p : Pl}
set_option maxRecDepth 20000 in
set_option maxHeartbeats 4000000 in
theorem plain_3 (n c : Nat) (A : Option Addr) (ag v : Int) (hx : Ins3.ok ⟨3, ag, v⟩) (hfi : fitI 3 s.stk.length = true) (hpc : 0 ≤ s.pc ∧ s.pc < 1000) (hn : s.stk.length ≤ 800) (hr : 0 ≤ ag ∧ ag < 4) (w : World) (h : WK F w g T X (.slice A n c) s hp p) :
    Calls Try.prog 44 #[.pointer (some ⟨g, 0, none⟩), .agg #[.int .u8 3, .int .i64 ag, .int .u64 v]] w (WRes F w g T X (.slice A n c) ((effF n ⟨3, ag, v⟩ { s with pc := s.pc + 1 }).map (fun t => (t, hp)))) := by
  have HO := Lib.hid hx
  have HFI := Lib.hid hfi
  have HS := Lib.hid (show specI 3 = false from by decide)
  have lg := h.lt
  have KB := Lib.hid (h.box (.cells #[.int .u8 3, .int .i64 ag, .int .u64 v] 53))
  have BX0 := Lib.hid (show BoxX (w.alloc (.cells #[.int .u8 3, .int .i64 ag, .int .u64 v] 53)) w.heap.size 3 ag v from heap_alloc_new w _)
  have FB := Lib.hid (h.fr ((Below.refl _ _).alloc (Nat.le_refl _) (.cells #[.int .u8 3, .int .i64 ag, .int .u64 v] 53)))
  have HPC := Lib.hid (show I64 (s.pc + 1) from ⟨by omega, by omega⟩)
  have kw : wrap64 (s.pc + 1) = s.pc + 1 := by unfold wrap64; omega
  have ne1 : g ≠ w.heap.size := by omega
  have ne2 : w.heap.size ≠ g := by omega
  have HPO := Lib.hid (fit_pops hfi)
  have HW := Lib.hid h.stk.2
  have e1 : popsI 3 = 1 := by decide
  have e2 : 1 ≤ s.stk.length := by have := HPO.out; omega
  obtain ⟨l, a, hl⟩ := snoc_of e2
  have HL := Lib.hid hl
  have ha : W64 a := HW.out a (by rw [hl]; simp)
  have HA := Lib.hid ha
  have hll : l.length ≤ 800 := by rw [hl] at hn; simp at hn; omega
  clear hl ha e1 e2
  have HE := Lib.hid (show effF n ⟨3, ag, v⟩ { s with pc := s.pc + 1 } = .ok { locSet { s with pc := s.pc + 1 } ag a with stk := l } from by show Except.ok _ = _; simp only [HL.out, topI_snoc, List.dropLast_concat])
  have hc : ag = 0 ∨ ag = 1 ∨ ag = 2 ∨ ag = 3 := by omega
  clear h hx hfi hpc hr
  rcases hc with rfl | rfl | rfl | rfl
  · go_enter Try.func44, Try.ntmps44
    go_wp2_with (first | (go_at_call 52; refine (special_any _ _).mono ?_; rintro e w' ⟨rfl, rfl⟩; rw [HS.out]) | (go_at_call 51; first | ((with_reducible refine (need_yes _ _).mono ?_); rintro e w' ⟨rfl, rfl⟩) | ((with_reducible refine (need_no _ _).mono ?_); rintro e w' ⟨rfl, rfl⟩)) | (go_at_call 53; refine (fits_sp ⟨3, 0, v⟩ HO.out (by omega) _ KB.out).mono ?_; rintro e w1 ⟨he, hb, hk⟩; rw [if_pos HFI.out] at he; obtain rfl := he; have B1 := Lib.hid hb; have K1 := Lib.hid hk; have BX1 := Lib.hid (hp_below BX0.out hb); have x0BX1 : w1.cell? ⟨w.heap.size, 0, none⟩ = some (.int .u8 3) := hp_cell BX1.out 0; have x1BX1 : w1.cell? ⟨w.heap.size, 1, none⟩ = some (.int .i64 0) := hp_cell BX1.out 1; have x2BX1 : w1.cell? ⟨w.heap.size, 2, none⟩ = some (.int .u64 v) := hp_cell BX1.out 2; have lxBX1 := hp_lt BX1.out; have y1 := K1.out.at.2.1; have z1 := K1.out.fz 1; have ly1 := K1.out.lt; have KP := Lib.hid (K1.out.setPc (s.pc + 1) HPC.out); clear hb hk))
    go_region_with (go_at_call 55; refine (pop_sp l a (by exact HL.out) (by first | omega | (simp; omega)) _ KP.out.drew).mono ?_; rintro e v2 ⟨rfl, hf2, hk2⟩; have F2 := Lib.hid hf2; have K2 := Lib.hid hk2; have BV2 := Lib.hid (F2.out.hp (hp_far BX1.out ne2 _) (Or.inr rfl)); have x0BV2 : v2.cell? ⟨w.heap.size, 0, none⟩ = some (.int .u8 3) := hp_cell BV2.out 0; have x1BV2 : v2.cell? ⟨w.heap.size, 1, none⟩ = some (.int .i64 0) := hp_cell BV2.out 1; have x2BV2 : v2.cell? ⟨w.heap.size, 2, none⟩ = some (.int .u64 v) := hp_cell BV2.out 2; have lxBV2 := hp_lt BV2.out; have ly2 := K2.out.lt; clear hf2 hk2; have yl3 := K2.out.at.2.2.2.1; have zl3 := K2.out.fz 3)
    all_goals
      go_wp2
      go_end0
      refine ⟨(FB.out.trans (((((KB.out.fr B1.out).trans (Fr.set _ KB.out.fg _ _)).trans ((Fr.drew1 _ _).trans F2.out)).trans (Fr.set _ K2.out.fg _ _)).mono (fun k hk => .inl hk))), ?_⟩
      rw [HE.out]
      exact ⟨rfl, _, (K2.out.set0 a HA.out).less (fun k hk => .inl hk)⟩
  · go_enter Try.func44, Try.ntmps44
    go_wp2_with (first | (go_at_call 52; refine (special_any _ _).mono ?_; rintro e w' ⟨rfl, rfl⟩; rw [HS.out]) | (go_at_call 51; first | ((with_reducible refine (need_yes _ _).mono ?_); rintro e w' ⟨rfl, rfl⟩) | ((with_reducible refine (need_no _ _).mono ?_); rintro e w' ⟨rfl, rfl⟩)) | (go_at_call 53; refine (fits_sp ⟨3, 1, v⟩ HO.out (by omega) _ KB.out).mono ?_; rintro e w1 ⟨he, hb, hk⟩; rw [if_pos HFI.out] at he; obtain rfl := he; have B1 := Lib.hid hb; have K1 := Lib.hid hk; have BX1 := Lib.hid (hp_below BX0.out hb); have x0BX1 : w1.cell? ⟨w.heap.size, 0, none⟩ = some (.int .u8 3) := hp_cell BX1.out 0; have x1BX1 : w1.cell? ⟨w.heap.size, 1, none⟩ = some (.int .i64 1) := hp_cell BX1.out 1; have x2BX1 : w1.cell? ⟨w.heap.size, 2, none⟩ = some (.int .u64 v) := hp_cell BX1.out 2; have lxBX1 := hp_lt BX1.out; have y1 := K1.out.at.2.1; have z1 := K1.out.fz 1; have ly1 := K1.out.lt; have KP := Lib.hid (K1.out.setPc (s.pc + 1) HPC.out); clear hb hk))
    go_region_with (go_at_call 55; refine (pop_sp l a (by exact HL.out) (by first | omega | (simp; omega)) _ KP.out.drew).mono ?_; rintro e v2 ⟨rfl, hf2, hk2⟩; have F2 := Lib.hid hf2; have K2 := Lib.hid hk2; have BV2 := Lib.hid (F2.out.hp (hp_far BX1.out ne2 _) (Or.inr rfl)); have x0BV2 : v2.cell? ⟨w.heap.size, 0, none⟩ = some (.int .u8 3) := hp_cell BV2.out 0; have x1BV2 : v2.cell? ⟨w.heap.size, 1, none⟩ = some (.int .i64 1) := hp_cell BV2.out 1; have x2BV2 : v2.cell? ⟨w.heap.size, 2, none⟩ = some (.int .u64 v) := hp_cell BV2.out 2; have lxBV2 := hp_lt BV2.out; have ly2 := K2.out.lt; clear hf2 hk2; have yl3 := K2.out.at.2.2.2.2.1; have zl3 := K2.out.fz 4)
    all_goals
      go_wp2
      go_end0
      refine ⟨(FB.out.trans (((((KB.out.fr B1.out).trans (Fr.set _ KB.out.fg _ _)).trans ((Fr.drew1 _ _).trans F2.out)).trans (Fr.set _ K2.out.fg _ _)).mono (fun k hk => .inl hk))), ?_⟩
      rw [HE.out]
      exact ⟨rfl, _, (K2.out.set1 a HA.out).less (fun k hk => .inl hk)⟩
  · go_enter Try.func44, Try.ntmps44
    go_wp2_with (first | (go_at_call 52; refine (special_any _ _).mono ?_; rintro e w' ⟨rfl, rfl⟩; rw [HS.out]) | (go_at_call 51; first | ((with_reducible refine (need_yes _ _).mono ?_); rintro e w' ⟨rfl, rfl⟩) | ((with_reducible refine (need_no _ _).mono ?_); rintro e w' ⟨rfl, rfl⟩)) | (go_at_call 53; refine (fits_sp ⟨3, 2, v⟩ HO.out (by omega) _ KB.out).mono ?_; rintro e w1 ⟨he, hb, hk⟩; rw [if_pos HFI.out] at he; obtain rfl := he; have B1 := Lib.hid hb; have K1 := Lib.hid hk; have BX1 := Lib.hid (hp_below BX0.out hb); have x0BX1 : w1.cell? ⟨w.heap.size, 0, none⟩ = some (.int .u8 3) := hp_cell BX1.out 0; have x1BX1 : w1.cell? ⟨w.heap.size, 1, none⟩ = some (.int .i64 2) := hp_cell BX1.out 1; have x2BX1 : w1.cell? ⟨w.heap.size, 2, none⟩ = some (.int .u64 v) := hp_cell BX1.out 2; have lxBX1 := hp_lt BX1.out; have y1 := K1.out.at.2.1; have z1 := K1.out.fz 1; have ly1 := K1.out.lt; have KP := Lib.hid (K1.out.setPc (s.pc + 1) HPC.out); clear hb hk))
    go_region_with (go_at_call 55; refine (pop_sp l a (by exact HL.out) (by first | omega | (simp; omega)) _ KP.out.drew).mono ?_; rintro e v2 ⟨rfl, hf2, hk2⟩; have F2 := Lib.hid hf2; have K2 := Lib.hid hk2; have BV2 := Lib.hid (F2.out.hp (hp_far BX1.out ne2 _) (Or.inr rfl)); have x0BV2 : v2.cell? ⟨w.heap.size, 0, none⟩ = some (.int .u8 3) := hp_cell BV2.out 0; have x1BV2 : v2.cell? ⟨w.heap.size, 1, none⟩ = some (.int .i64 2) := hp_cell BV2.out 1; have x2BV2 : v2.cell? ⟨w.heap.size, 2, none⟩ = some (.int .u64 v) := hp_cell BV2.out 2; have lxBV2 := hp_lt BV2.out; have ly2 := K2.out.lt; clear hf2 hk2; have yl3 := K2.out.at.2.2.2.2.2.1; have zl3 := K2.out.fz 5)
    all_goals
      go_wp2
      go_end0
      refine ⟨(FB.out.trans (((((KB.out.fr B1.out).trans (Fr.set _ KB.out.fg _ _)).trans ((Fr.drew1 _ _).trans F2.out)).trans (Fr.set _ K2.out.fg _ _)).mono (fun k hk => .inl hk))), ?_⟩
      rw [HE.out]
      exact ⟨rfl, _, (K2.out.set2 a HA.out).less (fun k hk => .inl hk)⟩
  · go_enter Try.func44, Try.ntmps44
    go_wp2_with (first | (go_at_call 52; refine (special_any _ _).mono ?_; rintro e w' ⟨rfl, rfl⟩; rw [HS.out]) | (go_at_call 51; first | ((with_reducible refine (need_yes _ _).mono ?_); rintro e w' ⟨rfl, rfl⟩) | ((with_reducible refine (need_no _ _).mono ?_); rintro e w' ⟨rfl, rfl⟩)) | (go_at_call 53; refine (fits_sp ⟨3, 3, v⟩ HO.out (by omega) _ KB.out).mono ?_; rintro e w1 ⟨he, hb, hk⟩; rw [if_pos HFI.out] at he; obtain rfl := he; have B1 := Lib.hid hb; have K1 := Lib.hid hk; have BX1 := Lib.hid (hp_below BX0.out hb); have x0BX1 : w1.cell? ⟨w.heap.size, 0, none⟩ = some (.int .u8 3) := hp_cell BX1.out 0; have x1BX1 : w1.cell? ⟨w.heap.size, 1, none⟩ = some (.int .i64 3) := hp_cell BX1.out 1; have x2BX1 : w1.cell? ⟨w.heap.size, 2, none⟩ = some (.int .u64 v) := hp_cell BX1.out 2; have lxBX1 := hp_lt BX1.out; have y1 := K1.out.at.2.1; have z1 := K1.out.fz 1; have ly1 := K1.out.lt; have KP := Lib.hid (K1.out.setPc (s.pc + 1) HPC.out); clear hb hk))
    go_region_with (go_at_call 55; refine (pop_sp l a (by exact HL.out) (by first | omega | (simp; omega)) _ KP.out.drew).mono ?_; rintro e v2 ⟨rfl, hf2, hk2⟩; have F2 := Lib.hid hf2; have K2 := Lib.hid hk2; have BV2 := Lib.hid (F2.out.hp (hp_far BX1.out ne2 _) (Or.inr rfl)); have x0BV2 : v2.cell? ⟨w.heap.size, 0, none⟩ = some (.int .u8 3) := hp_cell BV2.out 0; have x1BV2 : v2.cell? ⟨w.heap.size, 1, none⟩ = some (.int .i64 3) := hp_cell BV2.out 1; have x2BV2 : v2.cell? ⟨w.heap.size, 2, none⟩ = some (.int .u64 v) := hp_cell BV2.out 2; have lxBV2 := hp_lt BV2.out; have ly2 := K2.out.lt; clear hf2 hk2; have yl3 := K2.out.at.2.2.2.2.2.2.1; have zl3 := K2.out.fz 6)
    all_goals
      go_wp2
      go_end0
      refine ⟨(FB.out.trans (((((KB.out.fr B1.out).trans (Fr.set _ KB.out.fg _ _)).trans ((Fr.drew1 _ _).trans F2.out)).trans (Fr.set _ K2.out.fg _ _)).mono (fun k hk => .inl hk))), ?_⟩
      rw [HE.out]
      exact ⟨rfl, _, (K2.out.set3 a HA.out).less (fun k hk => .inl hk)⟩
set_option maxRecDepth 20000 in
set_option maxHeartbeats 4000000 in
theorem plain_27 (n c : Nat) (A : Option Addr) (ag v : Int) (hx : Ins3.ok ⟨27, ag, v⟩) (hfi : fitI 27 s.stk.length = true) (hpc : 0 ≤ s.pc ∧ s.pc < 1000) (hn : s.stk.length ≤ 800) (hro : s.out.length ≤ 800) (w : World) (h : WK F w g T X (.slice A n c) s hp p) :
    Calls Try.prog 44 #[.pointer (some ⟨g, 0, none⟩), .agg #[.int .u8 27, .int .i64 ag, .int .u64 v]] w (WRes F w g T X (.slice A n c) ((effF n ⟨27, ag, v⟩ { s with pc := s.pc + 1 }).map (fun t => (t, hp)))) := by
  have HO := Lib.hid hx
  have HFI := Lib.hid hfi
  have HS := Lib.hid (show specI 27 = false from by decide)
  have lg := h.lt
  have KB := Lib.hid (h.box (.cells #[.int .u8 27, .int .i64 ag, .int .u64 v] 53))
  have BX0 := Lib.hid (show BoxX (w.alloc (.cells #[.int .u8 27, .int .i64 ag, .int .u64 v] 53)) w.heap.size 27 ag v from heap_alloc_new w _)
  have FB := Lib.hid (h.fr ((Below.refl _ _).alloc (Nat.le_refl _) (.cells #[.int .u8 27, .int .i64 ag, .int .u64 v] 53)))
  have HPC := Lib.hid (show I64 (s.pc + 1) from ⟨by omega, by omega⟩)
  have kw : wrap64 (s.pc + 1) = s.pc + 1 := by unfold wrap64; omega
  have ne1 : g ≠ w.heap.size := by omega
  have ne2 : w.heap.size ≠ g := by omega
  have HPO := Lib.hid (fit_pops hfi)
  have HW := Lib.hid h.stk.2
  have e1 : popsI 27 = 1 := by decide
  have e2 : 1 ≤ s.stk.length := by have := HPO.out; omega
  obtain ⟨l, a, hl⟩ := snoc_of e2
  have HL := Lib.hid hl
  have ha : W64 a := HW.out a (by rw [hl]; simp)
  have HA := Lib.hid ha
  have hll : l.length ≤ 800 := by rw [hl] at hn; simp at hn; omega
  clear hl ha e1 e2
  by_cases ho : s.out.length < 24
  · have HE := Lib.hid (show effF n ⟨27, ag, v⟩ { s with pc := s.pc + 1 } = .ok { s with pc := s.pc + 1, stk := l, out := s.out ++ [a] } from by unfold effF; simp [ho, HL.out, topI_snoc])
    have d : decide ((s.out.length : Int) < 24) = true := decide_eq_true (by omega)
    obtain ⟨o2, HO2⟩ : ∃ y, Hid (s.out ++ [a] = y) := ⟨_, Lib.hid rfl⟩
    rw [HO2.out] at HE
    clear h hx hfi hpc ho
    go_enter Try.func44, Try.ntmps44
    go_wp2_with (first | (go_at_call 52; refine (special_any _ _).mono ?_; rintro e w' ⟨rfl, rfl⟩; rw [HS.out]) | (go_at_call 51; first | ((with_reducible refine (need_yes _ _).mono ?_); rintro e w' ⟨rfl, rfl⟩) | ((with_reducible refine (need_no _ _).mono ?_); rintro e w' ⟨rfl, rfl⟩)) | (go_at_call 53; refine (fits_sp ⟨27, ag, v⟩ HO.out (by omega) _ KB.out).mono ?_; rintro e w1 ⟨he, hb, hk⟩; rw [if_pos HFI.out] at he; obtain rfl := he; have B1 := Lib.hid hb; have K1 := Lib.hid hk; have BX1 := Lib.hid (hp_below BX0.out hb); have x0BX1 : w1.cell? ⟨w.heap.size, 0, none⟩ = some (.int .u8 27) := hp_cell BX1.out 0; have x1BX1 : w1.cell? ⟨w.heap.size, 1, none⟩ = some (.int .i64 ag) := hp_cell BX1.out 1; have x2BX1 : w1.cell? ⟨w.heap.size, 2, none⟩ = some (.int .u64 v) := hp_cell BX1.out 2; have lxBX1 := hp_lt BX1.out; have y1 := K1.out.at.2.1; have z1 := K1.out.fz 1; have ly1 := K1.out.lt; have KP := Lib.hid (K1.out.setPc (s.pc + 1) HPC.out); clear hb hk; have y7 := K1.out.at.2.2.2.2.2.2.2.1; have z7 := K1.out.fz 7))
    have FP := Lib.hid (show Fr F w (w1.setCell ⟨g, 1, none⟩ (.int .i64 (s.pc + 1))) from (FB.out.trans (((KB.out.fr B1.out).trans (Fr.set _ KB.out.fg _ _)).mono (fun k hk => .inl hk))))
    generalize (w1.setCell ⟨g, 1, none⟩ (.int .i64 (s.pc + 1))) = wP at KP FP ⊢
    have y7 := KP.out.at.2.2.2.2.2.2.2.1
    have z7 := KP.out.fz 7
    clear y1 z1 ly1 BX1 x0BX1 x1BX1 x2BX1 lxBX1
    go_region_law (first | (go_simp; go_at_call 55; refine (pop_sp l a (by exact HL.out) (by first | omega | (simp; omega)) _ KP.out.drew).mono ?_; rintro e v2 ⟨rfl, hf2, hk2⟩; have F2 := Lib.hid hf2; have K2 := Lib.hid hk2; have ly2 := K2.out.lt; clear hf2 hk2; have y7' := K2.out.at.2.2.2.2.2.2.2.1; have z7' := K2.out.fz 7) | (refine step_append_vat (ok := fun _ => True) rfl (.tmp 100) (.tmp 103) rfl 0 p.A2 p.c2 s.out rfl (K2.out.alloc _).out ⟨_, 0, none⟩ 1 [a] rfl (vals_lit' _ a HA.out _ rfl) (by simp; omega) (Nat.zero_le _) o2 HO2.out ?_; intro A2 c2 w2 hr2 hg2 hat2; have P := Lib.hid ((K2.out.alloc (.cells #[.int .u64 a] 23)).pushO hr2 hg2 hat2); have G := Lib.hid hg2; have x7 : w2.cell? ⟨g, 7, none⟩ = some (.slice p.A2 s.out.length p.c2) := (hp_cell P.out.1 7).trans (by simp [wkL]); have v7 := hp_frozen P.out.1 7; have lx7 := hp_lt P.out.1; clear hr2 hg2 hat2))
    all_goals
      go_wp2
      go_end0
      refine ⟨FP.out.trans (((((Fr.drew1 _ _).trans F2.out).trans ((K2.out.fr ((Below.refl _ _).alloc (Nat.le_refl _) _)).trans ((Fr.grown G.out (K2.out.alloc _).fl (fun k hk e => K2.out.f2 k e.symm hk)).trans (Fr.set _ K2.out.fg _ _))))).mono (fun k hk => .inl hk)), ?_⟩
      rw [HE.out]
      exact ⟨rfl, _, P.out.2.less (fun k hk => .inl hk)⟩
  · have HE := Lib.hid (show effF n ⟨27, ag, v⟩ { s with pc := s.pc + 1 } = .error 4 from by unfold effF; simp [ho])
    have d : decide ((s.out.length : Int) < 24) = false := decide_eq_false (by omega)
    clear h hx hfi hpc ho
    go_enter Try.func44, Try.ntmps44
    go_wp2_with (first | (go_at_call 52; refine (special_any _ _).mono ?_; rintro e w' ⟨rfl, rfl⟩; rw [HS.out]) | (go_at_call 51; first | ((with_reducible refine (need_yes _ _).mono ?_); rintro e w' ⟨rfl, rfl⟩) | ((with_reducible refine (need_no _ _).mono ?_); rintro e w' ⟨rfl, rfl⟩)) | (go_at_call 53; refine (fits_sp ⟨27, ag, v⟩ HO.out (by omega) _ KB.out).mono ?_; rintro e w1 ⟨he, hb, hk⟩; rw [if_pos HFI.out] at he; obtain rfl := he; have B1 := Lib.hid hb; have K1 := Lib.hid hk; have BX1 := Lib.hid (hp_below BX0.out hb); have x0BX1 : w1.cell? ⟨w.heap.size, 0, none⟩ = some (.int .u8 27) := hp_cell BX1.out 0; have x1BX1 : w1.cell? ⟨w.heap.size, 1, none⟩ = some (.int .i64 ag) := hp_cell BX1.out 1; have x2BX1 : w1.cell? ⟨w.heap.size, 2, none⟩ = some (.int .u64 v) := hp_cell BX1.out 2; have lxBX1 := hp_lt BX1.out; have y1 := K1.out.at.2.1; have z1 := K1.out.fz 1; have ly1 := K1.out.lt; have KP := Lib.hid (K1.out.setPc (s.pc + 1) HPC.out); clear hb hk; have y7 := K1.out.at.2.2.2.2.2.2.2.1; have z7 := K1.out.fz 7))
    refine ⟨rfl, (FB.out.trans (((KB.out.fr B1.out).trans (Fr.set _ KB.out.fg _ _)).mono (fun k hk => .inl hk))), ?_⟩
    rw [HE.out]
    rfl
end
end Go.Proofs.Ytdkcmnnhjnapiaa
