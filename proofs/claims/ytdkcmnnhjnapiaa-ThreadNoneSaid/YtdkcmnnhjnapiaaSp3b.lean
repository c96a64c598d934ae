
/-
  spec: plain: jumps, locals, what is put out.
-/
import Derived.Test.YtdkcmnnhjnapiaaSp3
namespace Go.Proofs.Ytdkcmnnhjnapiaa
open Go.RowKit Go.ChangeShapes Go.WideShapes
set_option linter.unusedSimpArgs false
set_option linter.unusedVariables false
section
variable {F : Nat → Prop} {w : World} {g : Nat} {T : TypeId} {X : List Value} {I : Value} {s : St} {hp : List Int} {p : Pl}
set_option maxRecDepth 20000 in
set_option maxHeartbeats 4000000 in
theorem plain_19 (n c : Nat) (A : Option Addr) (ag v : Int) (hx : Ins3.ok ⟨19, ag, v⟩) (hfi : fitI 19 s.stk.length = true) (hpc : 0 ≤ s.pc ∧ s.pc < 1000) (hn : s.stk.length ≤ 800) (w : World) (h : WK F w g T X (.slice A n c) s hp p) :
    Calls Try.prog 44 #[.pointer (some ⟨g, 0, none⟩), .agg #[.int .u8 19, .int .i64 ag, .int .u64 v]] w (WRes F w g T X (.slice A n c) ((effF n ⟨19, ag, v⟩ { s with pc := s.pc + 1 }).map (fun t => (t, hp)))) := by
  have HO := Lib.hid hx
  have HFI := Lib.hid hfi
  have HS := Lib.hid (show specI 19 = false from by decide)
  have lg := h.lt
  have KB := Lib.hid (h.box (.cells #[.int .u8 19, .int .i64 ag, .int .u64 v] 53))
  have BX0 := Lib.hid (show BoxX (w.alloc (.cells #[.int .u8 19, .int .i64 ag, .int .u64 v] 53)) w.heap.size 19 ag v from heap_alloc_new w _)
  have FB := Lib.hid (h.fr ((Below.refl _ _).alloc (Nat.le_refl _) (.cells #[.int .u8 19, .int .i64 ag, .int .u64 v] 53)))
  have HPC := Lib.hid (show I64 (s.pc + 1) from ⟨by omega, by omega⟩)
  have kw : wrap64 (s.pc + 1) = s.pc + 1 := by unfold wrap64; omega
  have ne1 : g ≠ w.heap.size := by omega
  have ne2 : w.heap.size ≠ g := by omega
  have HPO := Lib.hid (fit_pops hfi)
  have HW := Lib.hid h.stk.2
  by_cases hj : ag ≤ n
  · have HJ := Lib.hid hj
    have HE := Lib.hid (show effF n ⟨19, ag, v⟩ { s with pc := s.pc + 1 } = .ok { s with pc := ag } from by show jumpF _ _ _ = _; unfold jumpF; rw [if_pos hj])
    clear h hx hfi hpc hj
    go_enter Try.func44, Try.ntmps44
    go_wp2_with (first | (go_at_call 52; refine (special_any _ _).mono ?_; rintro e w' ⟨rfl, rfl⟩; rw [HS.out]) | (go_at_call 51; first | ((with_reducible refine (need_yes _ _).mono ?_); rintro e w' ⟨rfl, rfl⟩) | ((with_reducible refine (need_no _ _).mono ?_); rintro e w' ⟨rfl, rfl⟩)) | (go_at_call 53; refine (fits_sp ⟨19, ag, v⟩ HO.out (by omega) _ KB.out).mono ?_; rintro e w1 ⟨he, hb, hk⟩; rw [if_pos HFI.out] at he; obtain rfl := he; have B1 := Lib.hid hb; have K1 := Lib.hid hk; have BX1 := Lib.hid (hp_below BX0.out hb); have x0BX1 : w1.cell? ⟨w.heap.size, 0, none⟩ = some (.int .u8 19) := hp_cell BX1.out 0; have x1BX1 : w1.cell? ⟨w.heap.size, 1, none⟩ = some (.int .i64 ag) := hp_cell BX1.out 1; have x2BX1 : w1.cell? ⟨w.heap.size, 2, none⟩ = some (.int .u64 v) := hp_cell BX1.out 2; have lxBX1 := hp_lt BX1.out; have y1 := K1.out.at.2.1; have z1 := K1.out.fz 1; have ly1 := K1.out.lt; have KP := Lib.hid (K1.out.setPc (s.pc + 1) HPC.out); clear hb hk) | (go_at_call 56; refine (jump_yes n c A ag HJ.out HO.out.2.1 _ KP.out).mono ?_; rintro e v2 ⟨rfl, hf2, hk2⟩; have F2 := Lib.hid hf2; have K2 := Lib.hid hk2; clear hf2 hk2))
    go_end0
    refine ⟨(FB.out.trans ((((KB.out.fr B1.out).trans (Fr.set _ KB.out.fg _ _)).trans F2.out).mono (fun k hk => .inl hk))), ?_⟩
    rw [HE.out]
    exact ⟨rfl, _, K2.out.less (fun k hk => .inl hk)⟩
  · have HJ := Lib.hid (Int.not_le.mp hj)
    have HE := Lib.hid (show effF n ⟨19, ag, v⟩ { s with pc := s.pc + 1 } = .error 2 from by show jumpF _ _ _ = _; unfold jumpF; rw [if_neg hj])
    clear h hx hfi hpc hj
    go_enter Try.func44, Try.ntmps44
    go_wp2_with (first | (go_at_call 52; refine (special_any _ _).mono ?_; rintro e w' ⟨rfl, rfl⟩; rw [HS.out]) | (go_at_call 51; first | ((with_reducible refine (need_yes _ _).mono ?_); rintro e w' ⟨rfl, rfl⟩) | ((with_reducible refine (need_no _ _).mono ?_); rintro e w' ⟨rfl, rfl⟩)) | (go_at_call 53; refine (fits_sp ⟨19, ag, v⟩ HO.out (by omega) _ KB.out).mono ?_; rintro e w1 ⟨he, hb, hk⟩; rw [if_pos HFI.out] at he; obtain rfl := he; have B1 := Lib.hid hb; have K1 := Lib.hid hk; have BX1 := Lib.hid (hp_below BX0.out hb); have x0BX1 : w1.cell? ⟨w.heap.size, 0, none⟩ = some (.int .u8 19) := hp_cell BX1.out 0; have x1BX1 : w1.cell? ⟨w.heap.size, 1, none⟩ = some (.int .i64 ag) := hp_cell BX1.out 1; have x2BX1 : w1.cell? ⟨w.heap.size, 2, none⟩ = some (.int .u64 v) := hp_cell BX1.out 2; have lxBX1 := hp_lt BX1.out; have y1 := K1.out.at.2.1; have z1 := K1.out.fz 1; have ly1 := K1.out.lt; have KP := Lib.hid (K1.out.setPc (s.pc + 1) HPC.out); clear hb hk) | (go_at_call 56; refine (jump_no n c A ag (Int.not_le.mpr HJ.out) _ KP.out).mono ?_; rintro e v2 ⟨rfl, hf2⟩; have F2 := Lib.hid hf2; clear hf2))
    refine ⟨rfl, (FB.out.trans ((((KB.out.fr B1.out).trans (Fr.set _ KB.out.fg _ _)).trans F2.out).mono (fun k hk => .inl hk))), ?_⟩
    rw [HE.out]
    rfl
set_option maxRecDepth 20000 in
set_option maxHeartbeats 4000000 in
theorem plain_20 (n c : Nat) (A : Option Addr) (ag v : Int) (hx : Ins3.ok ⟨20, ag, v⟩) (hfi : fitI 20 s.stk.length = true) (hpc : 0 ≤ s.pc ∧ s.pc < 1000) (hn : s.stk.length ≤ 800) (w : World) (h : WK F w g T X (.slice A n c) s hp p) :
    Calls Try.prog 44 #[.pointer (some ⟨g, 0, none⟩), .agg #[.int .u8 20, .int .i64 ag, .int .u64 v]] w (WRes F w g T X (.slice A n c) ((effF n ⟨20, ag, v⟩ { s with pc := s.pc + 1 }).map (fun t => (t, hp)))) := by
  have HO := Lib.hid hx
  have HFI := Lib.hid hfi
  have HS := Lib.hid (show specI 20 = false from by decide)
  have lg := h.lt
  have KB := Lib.hid (h.box (.cells #[.int .u8 20, .int .i64 ag, .int .u64 v] 53))
  have BX0 := Lib.hid (show BoxX (w.alloc (.cells #[.int .u8 20, .int .i64 ag, .int .u64 v] 53)) w.heap.size 20 ag v from heap_alloc_new w _)
  have FB := Lib.hid (h.fr ((Below.refl _ _).alloc (Nat.le_refl _) (.cells #[.int .u8 20, .int .i64 ag, .int .u64 v] 53)))
  have HPC := Lib.hid (show I64 (s.pc + 1) from ⟨by omega, by omega⟩)
  have kw : wrap64 (s.pc + 1) = s.pc + 1 := by unfold wrap64; omega
  have ne1 : g ≠ w.heap.size := by omega
  have ne2 : w.heap.size ≠ g := by omega
  have HPO := Lib.hid (fit_pops hfi)
  have HW := Lib.hid h.stk.2
  have e1 : popsI 20 = 1 := by decide
  have e2 : 1 ≤ s.stk.length := by have := HPO.out; omega
  obtain ⟨l, a, hl⟩ := snoc_of e2
  have HL := Lib.hid hl
  have ha : W64 a := HW.out a (by rw [hl]; simp)
  have HA := Lib.hid ha
  have hll : l.length ≤ 800 := by rw [hl] at hn; simp at hn; omega
  clear hl ha e1 e2
  have HT := Lib.hid (fun w => truth_any a HA.out w)
  cases htb : truthB a
  · have HTB := Lib.hid htb
    by_cases hj : ag ≤ n
    · have HJ := Lib.hid hj
      have HE := Lib.hid (show effF n ⟨20, ag, v⟩ { s with pc := s.pc + 1 } = .ok { s with pc := ag, stk := l } from by show (if _ then _ else jumpF _ _ _) = _; unfold jumpF; rw [if_pos hj]; simp only [HL.out, topI_snoc, List.dropLast_concat, htb]; rfl)
      clear h hx hfi hpc hj htb
      go_enter Try.func44, Try.ntmps44
      go_wp2_with (first | (go_at_call 52; refine (special_any _ _).mono ?_; rintro e w' ⟨rfl, rfl⟩; rw [HS.out]) | (go_at_call 51; first | ((with_reducible refine (need_yes _ _).mono ?_); rintro e w' ⟨rfl, rfl⟩) | ((with_reducible refine (need_no _ _).mono ?_); rintro e w' ⟨rfl, rfl⟩)) | (go_at_call 53; refine (fits_sp ⟨20, ag, v⟩ HO.out (by omega) _ KB.out).mono ?_; rintro e w1 ⟨he, hb, hk⟩; rw [if_pos HFI.out] at he; obtain rfl := he; have B1 := Lib.hid hb; have K1 := Lib.hid hk; have BX1 := Lib.hid (hp_below BX0.out hb); have x0BX1 : w1.cell? ⟨w.heap.size, 0, none⟩ = some (.int .u8 20) := hp_cell BX1.out 0; have x1BX1 : w1.cell? ⟨w.heap.size, 1, none⟩ = some (.int .i64 ag) := hp_cell BX1.out 1; have x2BX1 : w1.cell? ⟨w.heap.size, 2, none⟩ = some (.int .u64 v) := hp_cell BX1.out 2; have lxBX1 := hp_lt BX1.out; have y1 := K1.out.at.2.1; have z1 := K1.out.fz 1; have ly1 := K1.out.lt; have KP := Lib.hid (K1.out.setPc (s.pc + 1) HPC.out); clear hb hk) | (go_at_call 55; refine (pop_sp l a (by exact HL.out) (by first | omega | (simp; omega)) _ KP.out).mono ?_; rintro e v2 ⟨rfl, hf2, hk2⟩; have F2 := Lib.hid hf2; have K2 := Lib.hid hk2; have BV2 := Lib.hid (F2.out.hp (hp_far BX1.out ne2 _) (Or.inr rfl)); have x0BV2 : v2.cell? ⟨w.heap.size, 0, none⟩ = some (.int .u8 20) := hp_cell BV2.out 0; have x1BV2 : v2.cell? ⟨w.heap.size, 1, none⟩ = some (.int .i64 ag) := hp_cell BV2.out 1; have x2BV2 : v2.cell? ⟨w.heap.size, 2, none⟩ = some (.int .u64 v) := hp_cell BV2.out 2; have lxBV2 := hp_lt BV2.out; have ly2 := K2.out.lt; clear hf2 hk2) | (go_at_call 57; refine (HT.out _).mono ?_; rintro e w' ⟨rfl, rfl⟩; rw [HTB.out]) | (go_at_call 56; refine (jump_yes n c A ag HJ.out HO.out.2.1 _ K2.out).mono ?_; rintro e v3 ⟨rfl, hf3, hk3⟩; have F3 := Lib.hid hf3; have K3 := Lib.hid hk3; clear hf3 hk3))
      go_end0
      refine ⟨(FB.out.trans (((((KB.out.fr B1.out).trans (Fr.set _ KB.out.fg _ _)).trans F2.out).trans F3.out).mono (fun k hk => .inl hk))), ?_⟩
      rw [HE.out]
      exact ⟨rfl, _, K3.out.less (fun k hk => .inl hk)⟩
    · have HJ := Lib.hid (Int.not_le.mp hj)
      have HE := Lib.hid (show effF n ⟨20, ag, v⟩ { s with pc := s.pc + 1 } = .error 2 from by show (if _ then _ else jumpF _ _ _) = _; unfold jumpF; rw [if_neg hj]; simp only [HL.out, topI_snoc, List.dropLast_concat, htb]; rfl)
      clear h hx hfi hpc hj htb
      go_enter Try.func44, Try.ntmps44
      go_wp2_with (first | (go_at_call 52; refine (special_any _ _).mono ?_; rintro e w' ⟨rfl, rfl⟩; rw [HS.out]) | (go_at_call 51; first | ((with_reducible refine (need_yes _ _).mono ?_); rintro e w' ⟨rfl, rfl⟩) | ((with_reducible refine (need_no _ _).mono ?_); rintro e w' ⟨rfl, rfl⟩)) | (go_at_call 53; refine (fits_sp ⟨20, ag, v⟩ HO.out (by omega) _ KB.out).mono ?_; rintro e w1 ⟨he, hb, hk⟩; rw [if_pos HFI.out] at he; obtain rfl := he; have B1 := Lib.hid hb; have K1 := Lib.hid hk; have BX1 := Lib.hid (hp_below BX0.out hb); have x0BX1 : w1.cell? ⟨w.heap.size, 0, none⟩ = some (.int .u8 20) := hp_cell BX1.out 0; have x1BX1 : w1.cell? ⟨w.heap.size, 1, none⟩ = some (.int .i64 ag) := hp_cell BX1.out 1; have x2BX1 : w1.cell? ⟨w.heap.size, 2, none⟩ = some (.int .u64 v) := hp_cell BX1.out 2; have lxBX1 := hp_lt BX1.out; have y1 := K1.out.at.2.1; have z1 := K1.out.fz 1; have ly1 := K1.out.lt; have KP := Lib.hid (K1.out.setPc (s.pc + 1) HPC.out); clear hb hk) | (go_at_call 55; refine (pop_sp l a (by exact HL.out) (by first | omega | (simp; omega)) _ KP.out).mono ?_; rintro e v2 ⟨rfl, hf2, hk2⟩; have F2 := Lib.hid hf2; have K2 := Lib.hid hk2; have BV2 := Lib.hid (F2.out.hp (hp_far BX1.out ne2 _) (Or.inr rfl)); have x0BV2 : v2.cell? ⟨w.heap.size, 0, none⟩ = some (.int .u8 20) := hp_cell BV2.out 0; have x1BV2 : v2.cell? ⟨w.heap.size, 1, none⟩ = some (.int .i64 ag) := hp_cell BV2.out 1; have x2BV2 : v2.cell? ⟨w.heap.size, 2, none⟩ = some (.int .u64 v) := hp_cell BV2.out 2; have lxBV2 := hp_lt BV2.out; have ly2 := K2.out.lt; clear hf2 hk2) | (go_at_call 57; refine (HT.out _).mono ?_; rintro e w' ⟨rfl, rfl⟩; rw [HTB.out]) | (go_at_call 56; refine (jump_no n c A ag (Int.not_le.mpr HJ.out) _ K2.out).mono ?_; rintro e v3 ⟨rfl, hf3⟩; have F3 := Lib.hid hf3; clear hf3))
      refine ⟨rfl, (FB.out.trans (((((KB.out.fr B1.out).trans (Fr.set _ KB.out.fg _ _)).trans F2.out).trans F3.out).mono (fun k hk => .inl hk))), ?_⟩
      rw [HE.out]
      rfl
  · have HTB := Lib.hid htb
    have HE := Lib.hid (show effF n ⟨20, ag, v⟩ { s with pc := s.pc + 1 } = .ok { s with pc := s.pc + 1, stk := l } from by show (if _ then _ else jumpF _ _ _) = _; simp only [HL.out, topI_snoc, List.dropLast_concat, htb]; rfl)
    clear h hx hfi hpc htb
    go_enter Try.func44, Try.ntmps44
    go_wp2_with (first | (go_at_call 52; refine (special_any _ _).mono ?_; rintro e w' ⟨rfl, rfl⟩; rw [HS.out]) | (go_at_call 51; first | ((with_reducible refine (need_yes _ _).mono ?_); rintro e w' ⟨rfl, rfl⟩) | ((with_reducible refine (need_no _ _).mono ?_); rintro e w' ⟨rfl, rfl⟩)) | (go_at_call 53; refine (fits_sp ⟨20, ag, v⟩ HO.out (by omega) _ KB.out).mono ?_; rintro e w1 ⟨he, hb, hk⟩; rw [if_pos HFI.out] at he; obtain rfl := he; have B1 := Lib.hid hb; have K1 := Lib.hid hk; have BX1 := Lib.hid (hp_below BX0.out hb); have x0BX1 : w1.cell? ⟨w.heap.size, 0, none⟩ = some (.int .u8 20) := hp_cell BX1.out 0; have x1BX1 : w1.cell? ⟨w.heap.size, 1, none⟩ = some (.int .i64 ag) := hp_cell BX1.out 1; have x2BX1 : w1.cell? ⟨w.heap.size, 2, none⟩ = some (.int .u64 v) := hp_cell BX1.out 2; have lxBX1 := hp_lt BX1.out; have y1 := K1.out.at.2.1; have z1 := K1.out.fz 1; have ly1 := K1.out.lt; have KP := Lib.hid (K1.out.setPc (s.pc + 1) HPC.out); clear hb hk) | (go_at_call 55; refine (pop_sp l a (by exact HL.out) (by first | omega | (simp; omega)) _ KP.out).mono ?_; rintro e v2 ⟨rfl, hf2, hk2⟩; have F2 := Lib.hid hf2; have K2 := Lib.hid hk2; have BV2 := Lib.hid (F2.out.hp (hp_far BX1.out ne2 _) (Or.inr rfl)); have x0BV2 : v2.cell? ⟨w.heap.size, 0, none⟩ = some (.int .u8 20) := hp_cell BV2.out 0; have x1BV2 : v2.cell? ⟨w.heap.size, 1, none⟩ = some (.int .i64 ag) := hp_cell BV2.out 1; have x2BV2 : v2.cell? ⟨w.heap.size, 2, none⟩ = some (.int .u64 v) := hp_cell BV2.out 2; have lxBV2 := hp_lt BV2.out; have ly2 := K2.out.lt; clear hf2 hk2) | (go_at_call 57; refine (HT.out _).mono ?_; rintro e w' ⟨rfl, rfl⟩; rw [HTB.out]))
    go_end0
    refine ⟨(FB.out.trans ((((KB.out.fr B1.out).trans (Fr.set _ KB.out.fg _ _)).trans F2.out).mono (fun k hk => .inl hk))), ?_⟩
    rw [HE.out]
    exact ⟨rfl, _, K2.out.less (fun k hk => .inl hk)⟩
set_option maxRecDepth 20000 in
set_option maxHeartbeats 4000000 in
theorem plain_2 (n c : Nat) (A : Option Addr) (ag v : Int) (hx : Ins3.ok ⟨2, ag, v⟩) (hfi : fitI 2 s.stk.length = true) (hpc : 0 ≤ s.pc ∧ s.pc < 1000) (hn : s.stk.length ≤ 800) (hr : 0 ≤ ag ∧ ag < 4) (w : World) (h : WK F w g T X (.slice A n c) s hp p) :
    Calls Try.prog 44 #[.pointer (some ⟨g, 0, none⟩), .agg #[.int .u8 2, .int .i64 ag, .int .u64 v]] w (WRes F w g T X (.slice A n c) ((effF n ⟨2, ag, v⟩ { s with pc := s.pc + 1 }).map (fun t => (t, hp)))) := by
  have HO := Lib.hid hx
  have HFI := Lib.hid hfi
  have HS := Lib.hid (show specI 2 = false from by decide)
  have lg := h.lt
  have KB := Lib.hid (h.box (.cells #[.int .u8 2, .int .i64 ag, .int .u64 v] 53))
  have BX0 := Lib.hid (show BoxX (w.alloc (.cells #[.int .u8 2, .int .i64 ag, .int .u64 v] 53)) w.heap.size 2 ag v from heap_alloc_new w _)
  have FB := Lib.hid (h.fr ((Below.refl _ _).alloc (Nat.le_refl _) (.cells #[.int .u8 2, .int .i64 ag, .int .u64 v] 53)))
  have HPC := Lib.hid (show I64 (s.pc + 1) from ⟨by omega, by omega⟩)
  have kw : wrap64 (s.pc + 1) = s.pc + 1 := by unfold wrap64; omega
  have ne1 : g ≠ w.heap.size := by omega
  have ne2 : w.heap.size ≠ g := by omega
  have HPO := Lib.hid (fit_pops hfi)
  have HW := Lib.hid h.stk.2
  have HLW := Lib.hid (show W64 (locAt s ag) from by
    obtain ⟨_, a1, a2, a3, a4⟩ := h.ok
    unfold locAt
    split <;> try exact a1
    split <;> try exact a2
    split <;> first | exact a3 | exact a4)
  have HE := Lib.hid (show effF n ⟨2, ag, v⟩ { s with pc := s.pc + 1 } = .ok { s with pc := s.pc + 1, stk := s.stk ++ [locAt s ag] } from rfl)
  have hc : ag = 0 ∨ ag = 1 ∨ ag = 2 ∨ ag = 3 := by omega
  clear h hx hfi hpc hr
  rcases hc with rfl | rfl | rfl | rfl
  · go_enter Try.func44, Try.ntmps44
    go_wp2_with (first | (go_at_call 52; refine (special_any _ _).mono ?_; rintro e w' ⟨rfl, rfl⟩; rw [HS.out]) | (go_at_call 51; first | ((with_reducible refine (need_yes _ _).mono ?_); rintro e w' ⟨rfl, rfl⟩) | ((with_reducible refine (need_no _ _).mono ?_); rintro e w' ⟨rfl, rfl⟩)) | (go_at_call 53; refine (fits_sp ⟨2, 0, v⟩ HO.out (by omega) _ KB.out).mono ?_; rintro e w1 ⟨he, hb, hk⟩; rw [if_pos HFI.out] at he; obtain rfl := he; have B1 := Lib.hid hb; have K1 := Lib.hid hk; have BX1 := Lib.hid (hp_below BX0.out hb); have x0BX1 : w1.cell? ⟨w.heap.size, 0, none⟩ = some (.int .u8 2) := hp_cell BX1.out 0; have x1BX1 : w1.cell? ⟨w.heap.size, 1, none⟩ = some (.int .i64 0) := hp_cell BX1.out 1; have x2BX1 : w1.cell? ⟨w.heap.size, 2, none⟩ = some (.int .u64 v) := hp_cell BX1.out 2; have lxBX1 := hp_lt BX1.out; have y1 := K1.out.at.2.1; have z1 := K1.out.fz 1; have ly1 := K1.out.lt; have KP := Lib.hid (K1.out.setPc (s.pc + 1) HPC.out); clear hb hk; have yl3 := K1.out.at.2.2.2.1; have yl4 := K1.out.at.2.2.2.2.1; have yl5 := K1.out.at.2.2.2.2.2.1; have yl6 := K1.out.at.2.2.2.2.2.2.1))
    go_region_with (go_at_call 54; refine (push_sp _ HLW.out (by show s.stk.length ≤ 900; omega) _ rfl _ KP.out.drew).mono ?_; rintro e v2 ⟨rfl, hf2, hk2⟩; have F2 := Lib.hid hf2; obtain ⟨p2, hq2⟩ := hk2; have K2 := Lib.hid hq2; clear hf2 hq2)
    go_wp2
    go_end0
    refine ⟨(FB.out.trans ((((KB.out.fr B1.out).trans (Fr.set _ KB.out.fg _ _)).trans ((Fr.drew1 _ _).trans F2.out)).mono (fun k hk => .inl hk))), ?_⟩
    rw [HE.out]
    exact ⟨rfl, _, K2.out.less (fun k hk => .inl hk)⟩
  · go_enter Try.func44, Try.ntmps44
    go_wp2_with (first | (go_at_call 52; refine (special_any _ _).mono ?_; rintro e w' ⟨rfl, rfl⟩; rw [HS.out]) | (go_at_call 51; first | ((with_reducible refine (need_yes _ _).mono ?_); rintro e w' ⟨rfl, rfl⟩) | ((with_reducible refine (need_no _ _).mono ?_); rintro e w' ⟨rfl, rfl⟩)) | (go_at_call 53; refine (fits_sp ⟨2, 1, v⟩ HO.out (by omega) _ KB.out).mono ?_; rintro e w1 ⟨he, hb, hk⟩; rw [if_pos HFI.out] at he; obtain rfl := he; have B1 := Lib.hid hb; have K1 := Lib.hid hk; have BX1 := Lib.hid (hp_below BX0.out hb); have x0BX1 : w1.cell? ⟨w.heap.size, 0, none⟩ = some (.int .u8 2) := hp_cell BX1.out 0; have x1BX1 : w1.cell? ⟨w.heap.size, 1, none⟩ = some (.int .i64 1) := hp_cell BX1.out 1; have x2BX1 : w1.cell? ⟨w.heap.size, 2, none⟩ = some (.int .u64 v) := hp_cell BX1.out 2; have lxBX1 := hp_lt BX1.out; have y1 := K1.out.at.2.1; have z1 := K1.out.fz 1; have ly1 := K1.out.lt; have KP := Lib.hid (K1.out.setPc (s.pc + 1) HPC.out); clear hb hk; have yl3 := K1.out.at.2.2.2.1; have yl4 := K1.out.at.2.2.2.2.1; have yl5 := K1.out.at.2.2.2.2.2.1; have yl6 := K1.out.at.2.2.2.2.2.2.1))
    go_region_with (go_at_call 54; refine (push_sp _ HLW.out (by show s.stk.length ≤ 900; omega) _ rfl _ KP.out.drew).mono ?_; rintro e v2 ⟨rfl, hf2, hk2⟩; have F2 := Lib.hid hf2; obtain ⟨p2, hq2⟩ := hk2; have K2 := Lib.hid hq2; clear hf2 hq2)
    go_wp2
    go_end0
    refine ⟨(FB.out.trans ((((KB.out.fr B1.out).trans (Fr.set _ KB.out.fg _ _)).trans ((Fr.drew1 _ _).trans F2.out)).mono (fun k hk => .inl hk))), ?_⟩
    rw [HE.out]
    exact ⟨rfl, _, K2.out.less (fun k hk => .inl hk)⟩
  · go_enter Try.func44, Try.ntmps44
    go_wp2_with (first | (go_at_call 52; refine (special_any _ _).mono ?_; rintro e w' ⟨rfl, rfl⟩; rw [HS.out]) | (go_at_call 51; first | ((with_reducible refine (need_yes _ _).mono ?_); rintro e w' ⟨rfl, rfl⟩) | ((with_reducible refine (need_no _ _).mono ?_); rintro e w' ⟨rfl, rfl⟩)) | (go_at_call 53; refine (fits_sp ⟨2, 2, v⟩ HO.out (by omega) _ KB.out).mono ?_; rintro e w1 ⟨he, hb, hk⟩; rw [if_pos HFI.out] at he; obtain rfl := he; have B1 := Lib.hid hb; have K1 := Lib.hid hk; have BX1 := Lib.hid (hp_below BX0.out hb); have x0BX1 : w1.cell? ⟨w.heap.size, 0, none⟩ = some (.int .u8 2) := hp_cell BX1.out 0; have x1BX1 : w1.cell? ⟨w.heap.size, 1, none⟩ = some (.int .i64 2) := hp_cell BX1.out 1; have x2BX1 : w1.cell? ⟨w.heap.size, 2, none⟩ = some (.int .u64 v) := hp_cell BX1.out 2; have lxBX1 := hp_lt BX1.out; have y1 := K1.out.at.2.1; have z1 := K1.out.fz 1; have ly1 := K1.out.lt; have KP := Lib.hid (K1.out.setPc (s.pc + 1) HPC.out); clear hb hk; have yl3 := K1.out.at.2.2.2.1; have yl4 := K1.out.at.2.2.2.2.1; have yl5 := K1.out.at.2.2.2.2.2.1; have yl6 := K1.out.at.2.2.2.2.2.2.1))
    go_region_with (go_at_call 54; refine (push_sp _ HLW.out (by show s.stk.length ≤ 900; omega) _ rfl _ KP.out.drew).mono ?_; rintro e v2 ⟨rfl, hf2, hk2⟩; have F2 := Lib.hid hf2; obtain ⟨p2, hq2⟩ := hk2; have K2 := Lib.hid hq2; clear hf2 hq2)
    go_wp2
    go_end0
    refine ⟨(FB.out.trans ((((KB.out.fr B1.out).trans (Fr.set _ KB.out.fg _ _)).trans ((Fr.drew1 _ _).trans F2.out)).mono (fun k hk => .inl hk))), ?_⟩
    rw [HE.out]
    exact ⟨rfl, _, K2.out.less (fun k hk => .inl hk)⟩
  · go_enter Try.func44, Try.ntmps44
    go_wp2_with (first | (go_at_call 52; refine (special_any _ _).mono ?_; rintro e w' ⟨rfl, rfl⟩; rw [HS.out]) | (go_at_call 51; first | ((with_reducible refine (need_yes _ _).mono ?_); rintro e w' ⟨rfl, rfl⟩) | ((with_reducible refine (need_no _ _).mono ?_); rintro e w' ⟨rfl, rfl⟩)) | (go_at_call 53; refine (fits_sp ⟨2, 3, v⟩ HO.out (by omega) _ KB.out).mono ?_; rintro e w1 ⟨he, hb, hk⟩; rw [if_pos HFI.out] at he; obtain rfl := he; have B1 := Lib.hid hb; have K1 := Lib.hid hk; have BX1 := Lib.hid (hp_below BX0.out hb); have x0BX1 : w1.cell? ⟨w.heap.size, 0, none⟩ = some (.int .u8 2) := hp_cell BX1.out 0; have x1BX1 : w1.cell? ⟨w.heap.size, 1, none⟩ = some (.int .i64 3) := hp_cell BX1.out 1; have x2BX1 : w1.cell? ⟨w.heap.size, 2, none⟩ = some (.int .u64 v) := hp_cell BX1.out 2; have lxBX1 := hp_lt BX1.out; have y1 := K1.out.at.2.1; have z1 := K1.out.fz 1; have ly1 := K1.out.lt; have KP := Lib.hid (K1.out.setPc (s.pc + 1) HPC.out); clear hb hk; have yl3 := K1.out.at.2.2.2.1; have yl4 := K1.out.at.2.2.2.2.1; have yl5 := K1.out.at.2.2.2.2.2.1; have yl6 := K1.out.at.2.2.2.2.2.2.1))
    go_region_with (go_at_call 54; refine (push_sp _ HLW.out (by show s.stk.length ≤ 900; omega) _ rfl _ KP.out.drew).mono ?_; rintro e v2 ⟨rfl, hf2, hk2⟩; have F2 := Lib.hid hf2; obtain ⟨p2, hq2⟩ := hk2; have K2 := Lib.hid hq2; clear hf2 hq2)
    go_wp2
    go_end0
    refine ⟨(FB.out.trans ((((KB.out.fr B1.out).trans (Fr.set _ KB.out.fg _ _)).trans ((Fr.drew1 _ _).trans F2.out)).mono (fun k hk => .inl hk))), ?_⟩
    rw [HE.out]
    exact ⟨rfl, _, K2.out.less (fun k hk => .inl hk)⟩
end
end Go.Proofs.Ytdkcmnnhjnapiaa
