
/-
  spec: plain: what an instruction does that needs no variables.
-/
import Derived.Test.YtdkcmnnhjnapiaaSp2
import Derived.Deep.RegionWith
namespace Go.Proofs.Ytdkcmnnhjnapiaa
open Go.RowKit Go.ChangeShapes Go.WideShapes
set_option linter.unusedSimpArgs false
set_option linter.unusedVariables false

def topI (l : List Int) : Int := l.getLast?.getD 0
theorem topI_snoc (l : List Int) (a : Int) : topI (l ++ [a]) = a := by simp [topI]
def locAt (s : St) (i : Int) : Int := if i = 0 then s.la else if i = 1 then s.lb else if i = 2 then s.lc else s.ld
def locSet (s : St) (i v : Int) : St := if i = 0 then { s with la := v } else if i = 1 then { s with lb := v } else if i = 2 then { s with lc := v } else { s with ld := v }
def jumpF (n : Nat) (tg : Int) (s : St) : Except Int St := if tg ≤ n then .ok { s with pc := tg } else .error 2
def op2V (o a b : Int) : Int := if o = 8 then fop .add a b else if o = 9 then fop .sub a b else if o = 10 then fop .mul a b else if o = 11 then fop .quo a b else if o = 13 then lessV a b else sameV a b
def op1V (o a : Int) : Int := if o = 12 then negV a else notV a
def effF (n : Nat) (x : Ins3) (s : St) : Except Int St :=
  if x.op = 0 then .ok s
  else if x.op = 1 then .ok { s with stk := s.stk ++ [x.val] }
  else if x.op = 2 then .ok { s with stk := s.stk ++ [locAt s x.arg] }
  else if x.op = 3 then .ok { locSet s x.arg (topI s.stk) with stk := s.stk.dropLast }
  else if x.op = 16 then .ok { s with stk := s.stk ++ [topI s.stk] }
  else if x.op = 17 then .ok { s with stk := s.stk.dropLast }
  else if x.op = 18 then .ok { s with stk := s.stk.dropLast.dropLast ++ [topI s.stk] ++ [topI s.stk.dropLast] }
  else if x.op = 27 then if s.out.length < 24 then .ok { s with stk := s.stk.dropLast, out := s.out ++ [topI s.stk] } else .error 4
  else if x.op = 19 then jumpF n x.arg s
  else if x.op = 20 then if truthB (topI s.stk) then .ok { s with stk := s.stk.dropLast } else jumpF n x.arg { s with stk := s.stk.dropLast }
  else if x.op = 12 ∨ x.op = 15 then .ok { s with stk := s.stk.dropLast ++ [op1V x.op (topI s.stk)] }
  else .ok { s with stk := s.stk.dropLast.dropLast ++ [op2V x.op (topI s.stk.dropLast) (topI s.stk)] }
def plainF (n : Nat) (x : Ins3) (s : St) : Except Int St := if specI x.op then .error 3 else if fitI x.op s.stk.length then effF n x { s with pc := s.pc + 1 } else .error 12
theorem snoc_of {l : List Int} (h : 1 ≤ l.length) : ∃ m a, l = m ++ [a] :=
  ⟨l.dropLast, l.getLast (by intro e; rw [e] at h; simp at h), by rw [List.dropLast_concat_getLast]⟩
theorem fit_pops {o : Int} {n : Nat} (h : fitI o n = true) : popsI o ≤ n := by
  unfold fitI at h
  rw [Bool.and_eq_true] at h
  exact of_decide_eq_true h.1
/-- x stands in block w.heap.size. -/
def BoxX (w : World) (b : Nat) (o ag v : Int) : Prop := w.heap[b]? = some (.cells #[.int .u8 o, .int .i64 ag, .int .u64 v] 53 (0, 0))
section
variable {F : Nat → Prop} {w : World} {g : Nat} {T : TypeId} {X : List Value} {I : Value} {s : St} {hp : List Int} {p : Pl}
set_option maxRecDepth 20000 in
set_option maxHeartbeats 4000000 in
theorem plain_0 (n c : Nat) (A : Option Addr) (ag v : Int) (hx : Ins3.ok ⟨0, ag, v⟩) (hfi : fitI 0 s.stk.length = true) (hpc : 0 ≤ s.pc ∧ s.pc < 1000) (hn : s.stk.length ≤ 800) (w : World) (h : WK F w g T X (.slice A n c) s hp p) :
    Calls Try.prog 44 #[.pointer (some ⟨g, 0, none⟩), .agg #[.int .u8 0, .int .i64 ag, .int .u64 v]] w (WRes F w g T X (.slice A n c) ((effF n ⟨0, ag, v⟩ { s with pc := s.pc + 1 }).map (fun t => (t, hp)))) := by
  have HO := Lib.hid hx
  have HFI := Lib.hid hfi
  have HS := Lib.hid (show specI 0 = false from by decide)
  have lg := h.lt
  have KB := Lib.hid (h.box (.cells #[.int .u8 0, .int .i64 ag, .int .u64 v] 53))
  have BX0 := Lib.hid (show BoxX (w.alloc (.cells #[.int .u8 0, .int .i64 ag, .int .u64 v] 53)) w.heap.size 0 ag v from heap_alloc_new w _)
  have FB := Lib.hid (h.fr ((Below.refl _ _).alloc (Nat.le_refl _) (.cells #[.int .u8 0, .int .i64 ag, .int .u64 v] 53)))
  have HPC := Lib.hid (show I64 (s.pc + 1) from ⟨by omega, by omega⟩)
  have kw : wrap64 (s.pc + 1) = s.pc + 1 := by unfold wrap64; omega
  have ne1 : g ≠ w.heap.size := by omega
  have ne2 : w.heap.size ≠ g := by omega
  have HPO := Lib.hid (fit_pops hfi)
  have HW := Lib.hid h.stk.2
  clear h hx hfi hpc
  go_enter Try.func44, Try.ntmps44
  go_wp2_with (first | (go_at_call 52; refine (special_any _ _).mono ?_; rintro e w' ⟨rfl, rfl⟩; rw [HS.out]) | (go_at_call 51; first | ((with_reducible refine (need_yes _ _).mono ?_); rintro e w' ⟨rfl, rfl⟩) | ((with_reducible refine (need_no _ _).mono ?_); rintro e w' ⟨rfl, rfl⟩)) | (go_at_call 53; refine (fits_sp ⟨0, ag, v⟩ HO.out (by omega) _ KB.out).mono ?_; rintro e w1 ⟨he, hb, hk⟩; rw [if_pos HFI.out] at he; obtain rfl := he; have B1 := Lib.hid hb; have K1 := Lib.hid hk; have BX1 := Lib.hid (hp_below BX0.out hb); have x0BX1 : w1.cell? ⟨w.heap.size, 0, none⟩ = some (.int .u8 0) := hp_cell BX1.out 0; have x1BX1 : w1.cell? ⟨w.heap.size, 1, none⟩ = some (.int .i64 ag) := hp_cell BX1.out 1; have x2BX1 : w1.cell? ⟨w.heap.size, 2, none⟩ = some (.int .u64 v) := hp_cell BX1.out 2; have lxBX1 := hp_lt BX1.out; have y1 := K1.out.at.2.1; have z1 := K1.out.fz 1; have ly1 := K1.out.lt; have KP := Lib.hid (K1.out.setPc (s.pc + 1) HPC.out); clear hb hk) | (go_at_call 58; refine (reckon_0 _).mono ?_; rintro e w' ⟨rfl, rfl⟩))
  go_end0
  exact ⟨(FB.out.trans (((KB.out.fr B1.out).trans (Fr.set _ KB.out.fg _ _)).mono (fun k hk => .inl hk))), rfl, _, KP.out.less (fun k hk => .inl hk)⟩
set_option maxRecDepth 20000 in
set_option maxHeartbeats 4000000 in
theorem plain_1 (n c : Nat) (A : Option Addr) (ag v : Int) (hx : Ins3.ok ⟨1, ag, v⟩) (hfi : fitI 1 s.stk.length = true) (hpc : 0 ≤ s.pc ∧ s.pc < 1000) (hn : s.stk.length ≤ 800) (w : World) (h : WK F w g T X (.slice A n c) s hp p) :
    Calls Try.prog 44 #[.pointer (some ⟨g, 0, none⟩), .agg #[.int .u8 1, .int .i64 ag, .int .u64 v]] w (WRes F w g T X (.slice A n c) ((effF n ⟨1, ag, v⟩ { s with pc := s.pc + 1 }).map (fun t => (t, hp)))) := by
  have HO := Lib.hid hx
  have HFI := Lib.hid hfi
  have HS := Lib.hid (show specI 1 = false from by decide)
  have lg := h.lt
  have KB := Lib.hid (h.box (.cells #[.int .u8 1, .int .i64 ag, .int .u64 v] 53))
  have BX0 := Lib.hid (show BoxX (w.alloc (.cells #[.int .u8 1, .int .i64 ag, .int .u64 v] 53)) w.heap.size 1 ag v from heap_alloc_new w _)
  have FB := Lib.hid (h.fr ((Below.refl _ _).alloc (Nat.le_refl _) (.cells #[.int .u8 1, .int .i64 ag, .int .u64 v] 53)))
  have HPC := Lib.hid (show I64 (s.pc + 1) from ⟨by omega, by omega⟩)
  have kw : wrap64 (s.pc + 1) = s.pc + 1 := by unfold wrap64; omega
  have ne1 : g ≠ w.heap.size := by omega
  have ne2 : w.heap.size ≠ g := by omega
  have HPO := Lib.hid (fit_pops hfi)
  have HW := Lib.hid h.stk.2
  clear h hx hfi hpc
  go_enter Try.func44, Try.ntmps44
  go_wp2_with (first | (go_at_call 52; refine (special_any _ _).mono ?_; rintro e w' ⟨rfl, rfl⟩; rw [HS.out]) | (go_at_call 51; first | ((with_reducible refine (need_yes _ _).mono ?_); rintro e w' ⟨rfl, rfl⟩) | ((with_reducible refine (need_no _ _).mono ?_); rintro e w' ⟨rfl, rfl⟩)) | (go_at_call 53; refine (fits_sp ⟨1, ag, v⟩ HO.out (by omega) _ KB.out).mono ?_; rintro e w1 ⟨he, hb, hk⟩; rw [if_pos HFI.out] at he; obtain rfl := he; have B1 := Lib.hid hb; have K1 := Lib.hid hk; have BX1 := Lib.hid (hp_below BX0.out hb); have x0BX1 : w1.cell? ⟨w.heap.size, 0, none⟩ = some (.int .u8 1) := hp_cell BX1.out 0; have x1BX1 : w1.cell? ⟨w.heap.size, 1, none⟩ = some (.int .i64 ag) := hp_cell BX1.out 1; have x2BX1 : w1.cell? ⟨w.heap.size, 2, none⟩ = some (.int .u64 v) := hp_cell BX1.out 2; have lxBX1 := hp_lt BX1.out; have y1 := K1.out.at.2.1; have z1 := K1.out.fz 1; have ly1 := K1.out.lt; have KP := Lib.hid (K1.out.setPc (s.pc + 1) HPC.out); clear hb hk) | (go_at_call 54; refine (push_sp v HO.out.2.2 (by show s.stk.length ≤ 900; omega) _ rfl _ KP.out).mono ?_; rintro e v2 ⟨rfl, hf2, hk2⟩; have F2 := Lib.hid hf2; obtain ⟨p2, hq2⟩ := hk2; have K2 := Lib.hid hq2; clear hf2 hq2))
  go_end0
  exact ⟨(FB.out.trans ((((KB.out.fr B1.out).trans (Fr.set _ KB.out.fg _ _)).trans F2.out).mono (fun k hk => .inl hk))), rfl, _, K2.out.less (fun k hk => .inl hk)⟩
set_option maxRecDepth 20000 in
set_option maxHeartbeats 4000000 in
theorem plain_16 (n c : Nat) (A : Option Addr) (ag v : Int) (hx : Ins3.ok ⟨16, ag, v⟩) (hfi : fitI 16 s.stk.length = true) (hpc : 0 ≤ s.pc ∧ s.pc < 1000) (hn : s.stk.length ≤ 800) (w : World) (h : WK F w g T X (.slice A n c) s hp p) :
    Calls Try.prog 44 #[.pointer (some ⟨g, 0, none⟩), .agg #[.int .u8 16, .int .i64 ag, .int .u64 v]] w (WRes F w g T X (.slice A n c) ((effF n ⟨16, ag, v⟩ { s with pc := s.pc + 1 }).map (fun t => (t, hp)))) := by
  have HO := Lib.hid hx
  have HFI := Lib.hid hfi
  have HS := Lib.hid (show specI 16 = false from by decide)
  have lg := h.lt
  have KB := Lib.hid (h.box (.cells #[.int .u8 16, .int .i64 ag, .int .u64 v] 53))
  have BX0 := Lib.hid (show BoxX (w.alloc (.cells #[.int .u8 16, .int .i64 ag, .int .u64 v] 53)) w.heap.size 16 ag v from heap_alloc_new w _)
  have FB := Lib.hid (h.fr ((Below.refl _ _).alloc (Nat.le_refl _) (.cells #[.int .u8 16, .int .i64 ag, .int .u64 v] 53)))
  have HPC := Lib.hid (show I64 (s.pc + 1) from ⟨by omega, by omega⟩)
  have kw : wrap64 (s.pc + 1) = s.pc + 1 := by unfold wrap64; omega
  have ne1 : g ≠ w.heap.size := by omega
  have ne2 : w.heap.size ≠ g := by omega
  have HPO := Lib.hid (fit_pops hfi)
  have HW := Lib.hid h.stk.2
  have e1 : popsI 16 = 1 := by decide
  have e2 : 1 ≤ s.stk.length := by have := HPO.out; omega
  obtain ⟨l, a, hl⟩ := snoc_of e2
  have HL := Lib.hid hl
  have ha : W64 a := HW.out a (by rw [hl]; simp)
  have HA := Lib.hid ha
  have hll : l.length ≤ 800 := by rw [hl] at hn; simp at hn; omega
  clear hl ha e1 e2
  have HE := Lib.hid (show effF n ⟨16, ag, v⟩ { s with pc := s.pc + 1 } = .ok { s with pc := s.pc + 1, stk := l ++ [a] ++ [a] } from by show Except.ok _ = _; simp [HL.out, topI_snoc])
  clear h hx hfi hpc
  go_enter Try.func44, Try.ntmps44
  go_wp2_with (first | (go_at_call 52; refine (special_any _ _).mono ?_; rintro e w' ⟨rfl, rfl⟩; rw [HS.out]) | (go_at_call 51; first | ((with_reducible refine (need_yes _ _).mono ?_); rintro e w' ⟨rfl, rfl⟩) | ((with_reducible refine (need_no _ _).mono ?_); rintro e w' ⟨rfl, rfl⟩)) | (go_at_call 53; refine (fits_sp ⟨16, ag, v⟩ HO.out (by omega) _ KB.out).mono ?_; rintro e w1 ⟨he, hb, hk⟩; rw [if_pos HFI.out] at he; obtain rfl := he; have B1 := Lib.hid hb; have K1 := Lib.hid hk; have BX1 := Lib.hid (hp_below BX0.out hb); have x0BX1 : w1.cell? ⟨w.heap.size, 0, none⟩ = some (.int .u8 16) := hp_cell BX1.out 0; have x1BX1 : w1.cell? ⟨w.heap.size, 1, none⟩ = some (.int .i64 ag) := hp_cell BX1.out 1; have x2BX1 : w1.cell? ⟨w.heap.size, 2, none⟩ = some (.int .u64 v) := hp_cell BX1.out 2; have lxBX1 := hp_lt BX1.out; have y1 := K1.out.at.2.1; have z1 := K1.out.fz 1; have ly1 := K1.out.lt; have KP := Lib.hid (K1.out.setPc (s.pc + 1) HPC.out); clear hb hk) | (go_at_call 55; refine (pop_sp l a (by exact HL.out) (by first | omega | (simp; omega)) _ KP.out).mono ?_; rintro e v2 ⟨rfl, hf2, hk2⟩; have F2 := Lib.hid hf2; have K2 := Lib.hid hk2; have BV2 := Lib.hid (F2.out.hp (hp_far BX1.out ne2 _) (Or.inr rfl)); have x0BV2 : v2.cell? ⟨w.heap.size, 0, none⟩ = some (.int .u8 16) := hp_cell BV2.out 0; have x1BV2 : v2.cell? ⟨w.heap.size, 1, none⟩ = some (.int .i64 ag) := hp_cell BV2.out 1; have x2BV2 : v2.cell? ⟨w.heap.size, 2, none⟩ = some (.int .u64 v) := hp_cell BV2.out 2; have lxBV2 := hp_lt BV2.out; have ly2 := K2.out.lt; clear hf2 hk2) | (go_at_call 54; refine (push_sp a HA.out (by show (l ++ [a]).length ≤ 900; simp; omega) _ rfl _ K3.out).mono ?_; rintro e v4 ⟨rfl, hf4, hk4⟩; have F4 := Lib.hid hf4; obtain ⟨p4, hq4⟩ := hk4; have K4 := Lib.hid hq4; clear hf4 hq4) | (go_at_call 54; refine (push_sp a HA.out (by show l.length ≤ 900; omega) _ rfl _ K2.out).mono ?_; rintro e v3 ⟨rfl, hf3, hk3⟩; have F3 := Lib.hid hf3; obtain ⟨p3, hq3⟩ := hk3; have K3 := Lib.hid hq3; clear hf3 hq3))
  go_end0
  refine ⟨(FB.out.trans ((((((KB.out.fr B1.out).trans (Fr.set _ KB.out.fg _ _)).trans F2.out).trans F3.out).trans F4.out).mono (fun k hk => .inl hk))), ?_⟩
  rw [HE.out]
  exact ⟨rfl, _, K4.out.less (fun k hk => .inl hk)⟩
set_option maxRecDepth 20000 in
set_option maxHeartbeats 4000000 in
theorem plain_17 (n c : Nat) (A : Option Addr) (ag v : Int) (hx : Ins3.ok ⟨17, ag, v⟩) (hfi : fitI 17 s.stk.length = true) (hpc : 0 ≤ s.pc ∧ s.pc < 1000) (hn : s.stk.length ≤ 800) (w : World) (h : WK F w g T X (.slice A n c) s hp p) :
    Calls Try.prog 44 #[.pointer (some ⟨g, 0, none⟩), .agg #[.int .u8 17, .int .i64 ag, .int .u64 v]] w (WRes F w g T X (.slice A n c) ((effF n ⟨17, ag, v⟩ { s with pc := s.pc + 1 }).map (fun t => (t, hp)))) := by
  have HO := Lib.hid hx
  have HFI := Lib.hid hfi
  have HS := Lib.hid (show specI 17 = false from by decide)
  have lg := h.lt
  have KB := Lib.hid (h.box (.cells #[.int .u8 17, .int .i64 ag, .int .u64 v] 53))
  have BX0 := Lib.hid (show BoxX (w.alloc (.cells #[.int .u8 17, .int .i64 ag, .int .u64 v] 53)) w.heap.size 17 ag v from heap_alloc_new w _)
  have FB := Lib.hid (h.fr ((Below.refl _ _).alloc (Nat.le_refl _) (.cells #[.int .u8 17, .int .i64 ag, .int .u64 v] 53)))
  have HPC := Lib.hid (show I64 (s.pc + 1) from ⟨by omega, by omega⟩)
  have kw : wrap64 (s.pc + 1) = s.pc + 1 := by unfold wrap64; omega
  have ne1 : g ≠ w.heap.size := by omega
  have ne2 : w.heap.size ≠ g := by omega
  have HPO := Lib.hid (fit_pops hfi)
  have HW := Lib.hid h.stk.2
  have e1 : popsI 17 = 1 := by decide
  have e2 : 1 ≤ s.stk.length := by have := HPO.out; omega
  obtain ⟨l, a, hl⟩ := snoc_of e2
  have HL := Lib.hid hl
  have ha : W64 a := HW.out a (by rw [hl]; simp)
  have HA := Lib.hid ha
  have hll : l.length ≤ 800 := by rw [hl] at hn; simp at hn; omega
  clear hl ha e1 e2
  have HE := Lib.hid (show effF n ⟨17, ag, v⟩ { s with pc := s.pc + 1 } = .ok { s with pc := s.pc + 1, stk := l } from by show Except.ok _ = _; simp [HL.out])
  clear h hx hfi hpc
  go_enter Try.func44, Try.ntmps44
  go_wp2_with (first | (go_at_call 52; refine (special_any _ _).mono ?_; rintro e w' ⟨rfl, rfl⟩; rw [HS.out]) | (go_at_call 51; first | ((with_reducible refine (need_yes _ _).mono ?_); rintro e w' ⟨rfl, rfl⟩) | ((with_reducible refine (need_no _ _).mono ?_); rintro e w' ⟨rfl, rfl⟩)) | (go_at_call 53; refine (fits_sp ⟨17, ag, v⟩ HO.out (by omega) _ KB.out).mono ?_; rintro e w1 ⟨he, hb, hk⟩; rw [if_pos HFI.out] at he; obtain rfl := he; have B1 := Lib.hid hb; have K1 := Lib.hid hk; have BX1 := Lib.hid (hp_below BX0.out hb); have x0BX1 : w1.cell? ⟨w.heap.size, 0, none⟩ = some (.int .u8 17) := hp_cell BX1.out 0; have x1BX1 : w1.cell? ⟨w.heap.size, 1, none⟩ = some (.int .i64 ag) := hp_cell BX1.out 1; have x2BX1 : w1.cell? ⟨w.heap.size, 2, none⟩ = some (.int .u64 v) := hp_cell BX1.out 2; have lxBX1 := hp_lt BX1.out; have y1 := K1.out.at.2.1; have z1 := K1.out.fz 1; have ly1 := K1.out.lt; have KP := Lib.hid (K1.out.setPc (s.pc + 1) HPC.out); clear hb hk) | (go_at_call 55; refine (pop_sp l a (by exact HL.out) (by first | omega | (simp; omega)) _ KP.out).mono ?_; rintro e v2 ⟨rfl, hf2, hk2⟩; have F2 := Lib.hid hf2; have K2 := Lib.hid hk2; have BV2 := Lib.hid (F2.out.hp (hp_far BX1.out ne2 _) (Or.inr rfl)); have x0BV2 : v2.cell? ⟨w.heap.size, 0, none⟩ = some (.int .u8 17) := hp_cell BV2.out 0; have x1BV2 : v2.cell? ⟨w.heap.size, 1, none⟩ = some (.int .i64 ag) := hp_cell BV2.out 1; have x2BV2 : v2.cell? ⟨w.heap.size, 2, none⟩ = some (.int .u64 v) := hp_cell BV2.out 2; have lxBV2 := hp_lt BV2.out; have ly2 := K2.out.lt; clear hf2 hk2))
  go_end0
  refine ⟨(FB.out.trans ((((KB.out.fr B1.out).trans (Fr.set _ KB.out.fg _ _)).trans F2.out).mono (fun k hk => .inl hk))), ?_⟩
  rw [HE.out]
  exact ⟨rfl, _, K2.out.less (fun k hk => .inl hk)⟩
set_option maxRecDepth 20000 in
set_option maxHeartbeats 4000000 in
theorem plain_18 (n c : Nat) (A : Option Addr) (ag v : Int) (hx : Ins3.ok ⟨18, ag, v⟩) (hfi : fitI 18 s.stk.length = true) (hpc : 0 ≤ s.pc ∧ s.pc < 1000) (hn : s.stk.length ≤ 800) (w : World) (h : WK F w g T X (.slice A n c) s hp p) :
    Calls Try.prog 44 #[.pointer (some ⟨g, 0, none⟩), .agg #[.int .u8 18, .int .i64 ag, .int .u64 v]] w (WRes F w g T X (.slice A n c) ((effF n ⟨18, ag, v⟩ { s with pc := s.pc + 1 }).map (fun t => (t, hp)))) := by
  have HO := Lib.hid hx
  have HFI := Lib.hid hfi
  have HS := Lib.hid (show specI 18 = false from by decide)
  have lg := h.lt
  have KB := Lib.hid (h.box (.cells #[.int .u8 18, .int .i64 ag, .int .u64 v] 53))
  have BX0 := Lib.hid (show BoxX (w.alloc (.cells #[.int .u8 18, .int .i64 ag, .int .u64 v] 53)) w.heap.size 18 ag v from heap_alloc_new w _)
  have FB := Lib.hid (h.fr ((Below.refl _ _).alloc (Nat.le_refl _) (.cells #[.int .u8 18, .int .i64 ag, .int .u64 v] 53)))
  have HPC := Lib.hid (show I64 (s.pc + 1) from ⟨by omega, by omega⟩)
  have kw : wrap64 (s.pc + 1) = s.pc + 1 := by unfold wrap64; omega
  have ne1 : g ≠ w.heap.size := by omega
  have ne2 : w.heap.size ≠ g := by omega
  have HPO := Lib.hid (fit_pops hfi)
  have HW := Lib.hid h.stk.2
  have e1 : popsI 18 = 2 := by decide
  have e2 : 2 ≤ s.stk.length := by have := HPO.out; omega
  obtain ⟨l1, b, hl⟩ := snoc_of (l := s.stk) (by omega)
  have e3 : 1 ≤ l1.length := by rw [hl] at e2; simp at e2; omega
  obtain ⟨l, a, hl1⟩ := snoc_of e3
  subst hl1
  have HL := Lib.hid hl
  have HA := Lib.hid (HW.out a (by rw [hl]; simp))
  have HB := Lib.hid (HW.out b (by rw [hl]; simp))
  have hll : l.length ≤ 800 := by rw [hl] at hn; simp at hn; omega
  clear hl e1 e2 e3
  have HE := Lib.hid (show effF n ⟨18, ag, v⟩ { s with pc := s.pc + 1 } = .ok { s with pc := s.pc + 1, stk := l ++ [b] ++ [a] } from by show Except.ok _ = _; simp only [HL.out, topI_snoc, List.dropLast_concat])
  clear h hx hfi hpc
  go_enter Try.func44, Try.ntmps44
  go_wp2_with (first | (go_at_call 52; refine (special_any _ _).mono ?_; rintro e w' ⟨rfl, rfl⟩; rw [HS.out]) | (go_at_call 51; first | ((with_reducible refine (need_yes _ _).mono ?_); rintro e w' ⟨rfl, rfl⟩) | ((with_reducible refine (need_no _ _).mono ?_); rintro e w' ⟨rfl, rfl⟩)) | (go_at_call 53; refine (fits_sp ⟨18, ag, v⟩ HO.out (by omega) _ KB.out).mono ?_; rintro e w1 ⟨he, hb, hk⟩; rw [if_pos HFI.out] at he; obtain rfl := he; have B1 := Lib.hid hb; have K1 := Lib.hid hk; have BX1 := Lib.hid (hp_below BX0.out hb); have x0BX1 : w1.cell? ⟨w.heap.size, 0, none⟩ = some (.int .u8 18) := hp_cell BX1.out 0; have x1BX1 : w1.cell? ⟨w.heap.size, 1, none⟩ = some (.int .i64 ag) := hp_cell BX1.out 1; have x2BX1 : w1.cell? ⟨w.heap.size, 2, none⟩ = some (.int .u64 v) := hp_cell BX1.out 2; have lxBX1 := hp_lt BX1.out; have y1 := K1.out.at.2.1; have z1 := K1.out.fz 1; have ly1 := K1.out.lt; have KP := Lib.hid (K1.out.setPc (s.pc + 1) HPC.out); clear hb hk) | (go_at_call 54; refine (push_sp a HA.out (by show (l ++ [b]).length ≤ 900; simp; omega) _ rfl _ K4.out).mono ?_; rintro e v5 ⟨rfl, hf5, hk5⟩; have F5 := Lib.hid hf5; obtain ⟨p5, hq5⟩ := hk5; have K5 := Lib.hid hq5; clear hf5 hq5) | (go_at_call 54; refine (push_sp b HB.out (by show l.length ≤ 900; omega) _ rfl _ K3.out).mono ?_; rintro e v4 ⟨rfl, hf4, hk4⟩; have F4 := Lib.hid hf4; obtain ⟨p4, hq4⟩ := hk4; have K4 := Lib.hid hq4; clear hf4 hq4) | (go_at_call 55; refine (pop_sp l a (by exact rfl) (by first | omega | (simp; omega)) _ K2.out).mono ?_; rintro e v3 ⟨rfl, hf3, hk3⟩; have F3 := Lib.hid hf3; have K3 := Lib.hid hk3; have ly3 := K3.out.lt; clear hf3 hk3) | (go_at_call 55; refine (pop_sp (l ++ [a]) b (by exact HL.out) (by first | omega | (simp; omega)) _ KP.out).mono ?_; rintro e v2 ⟨rfl, hf2, hk2⟩; have F2 := Lib.hid hf2; have K2 := Lib.hid hk2; have BV2 := Lib.hid (F2.out.hp (hp_far BX1.out ne2 _) (Or.inr rfl)); have x0BV2 : v2.cell? ⟨w.heap.size, 0, none⟩ = some (.int .u8 18) := hp_cell BV2.out 0; have x1BV2 : v2.cell? ⟨w.heap.size, 1, none⟩ = some (.int .i64 ag) := hp_cell BV2.out 1; have x2BV2 : v2.cell? ⟨w.heap.size, 2, none⟩ = some (.int .u64 v) := hp_cell BV2.out 2; have lxBV2 := hp_lt BV2.out; have ly2 := K2.out.lt; clear hf2 hk2))
  go_end0
  refine ⟨(FB.out.trans (((((((KB.out.fr B1.out).trans (Fr.set _ KB.out.fg _ _)).trans F2.out).trans F3.out).trans F4.out).trans F5.out).mono (fun k hk => .inl hk))), ?_⟩
  rw [HE.out]
  exact ⟨rfl, _, K5.out.less (fun k hk => .inl hk)⟩
set_option maxRecDepth 20000 in
set_option maxHeartbeats 4000000 in
theorem plain_8 (n c : Nat) (A : Option Addr) (ag v : Int) (hx : Ins3.ok ⟨8, ag, v⟩) (hfi : fitI 8 s.stk.length = true) (hpc : 0 ≤ s.pc ∧ s.pc < 1000) (hn : s.stk.length ≤ 800) (w : World) (h : WK F w g T X (.slice A n c) s hp p) :
    Calls Try.prog 44 #[.pointer (some ⟨g, 0, none⟩), .agg #[.int .u8 8, .int .i64 ag, .int .u64 v]] w (WRes F w g T X (.slice A n c) ((effF n ⟨8, ag, v⟩ { s with pc := s.pc + 1 }).map (fun t => (t, hp)))) := by
  have HO := Lib.hid hx
  have HFI := Lib.hid hfi
  have HS := Lib.hid (show specI 8 = false from by decide)
  have lg := h.lt
  have KB := Lib.hid (h.box (.cells #[.int .u8 8, .int .i64 ag, .int .u64 v] 53))
  have BX0 := Lib.hid (show BoxX (w.alloc (.cells #[.int .u8 8, .int .i64 ag, .int .u64 v] 53)) w.heap.size 8 ag v from heap_alloc_new w _)
  have FB := Lib.hid (h.fr ((Below.refl _ _).alloc (Nat.le_refl _) (.cells #[.int .u8 8, .int .i64 ag, .int .u64 v] 53)))
  have HPC := Lib.hid (show I64 (s.pc + 1) from ⟨by omega, by omega⟩)
  have kw : wrap64 (s.pc + 1) = s.pc + 1 := by unfold wrap64; omega
  have ne1 : g ≠ w.heap.size := by omega
  have ne2 : w.heap.size ≠ g := by omega
  have HPO := Lib.hid (fit_pops hfi)
  have HW := Lib.hid h.stk.2
  have e1 : popsI 8 = 2 := by decide
  have e2 : 2 ≤ s.stk.length := by have := HPO.out; omega
  obtain ⟨l1, b, hl⟩ := snoc_of (l := s.stk) (by omega)
  have e3 : 1 ≤ l1.length := by rw [hl] at e2; simp at e2; omega
  obtain ⟨l, a, hl1⟩ := snoc_of e3
  subst hl1
  have HL := Lib.hid hl
  have HA := Lib.hid (HW.out a (by rw [hl]; simp))
  have HB := Lib.hid (HW.out b (by rw [hl]; simp))
  have hll : l.length ≤ 800 := by rw [hl] at hn; simp at hn; omega
  clear hl e1 e2 e3
  have HE := Lib.hid (show effF n ⟨8, ag, v⟩ { s with pc := s.pc + 1 } = .ok { s with pc := s.pc + 1, stk := l ++ [fop .add a b] } from by show Except.ok _ = _; simp only [HL.out, topI_snoc, List.dropLast_concat]; rfl)
  clear h hx hfi hpc
  go_enter Try.func44, Try.ntmps44
  go_wp2_with (first | (go_at_call 52; refine (special_any _ _).mono ?_; rintro e w' ⟨rfl, rfl⟩; rw [HS.out]) | (go_at_call 51; first | ((with_reducible refine (need_yes _ _).mono ?_); rintro e w' ⟨rfl, rfl⟩) | ((with_reducible refine (need_no _ _).mono ?_); rintro e w' ⟨rfl, rfl⟩)) | (go_at_call 53; refine (fits_sp ⟨8, ag, v⟩ HO.out (by omega) _ KB.out).mono ?_; rintro e w1 ⟨he, hb, hk⟩; rw [if_pos HFI.out] at he; obtain rfl := he; have B1 := Lib.hid hb; have K1 := Lib.hid hk; have BX1 := Lib.hid (hp_below BX0.out hb); have x0BX1 : w1.cell? ⟨w.heap.size, 0, none⟩ = some (.int .u8 8) := hp_cell BX1.out 0; have x1BX1 : w1.cell? ⟨w.heap.size, 1, none⟩ = some (.int .i64 ag) := hp_cell BX1.out 1; have x2BX1 : w1.cell? ⟨w.heap.size, 2, none⟩ = some (.int .u64 v) := hp_cell BX1.out 2; have lxBX1 := hp_lt BX1.out; have y1 := K1.out.at.2.1; have z1 := K1.out.fz 1; have ly1 := K1.out.lt; have KP := Lib.hid (K1.out.setPc (s.pc + 1) HPC.out); clear hb hk) | (go_at_call 58; refine (reckon_8 l a b (by exact HL.out) hll _ KP.out).mono ?_; rintro e v2 ⟨rfl, hf2, hk2⟩; have F2 := Lib.hid hf2; obtain ⟨p2, hq2⟩ := hk2; have K2 := Lib.hid hq2; clear hf2 hq2))
  go_end0
  refine ⟨(FB.out.trans ((((KB.out.fr B1.out).trans (Fr.set _ KB.out.fg _ _)).trans F2.out).mono (fun k hk => .inl hk))), ?_⟩
  rw [HE.out]
  exact ⟨rfl, _, K2.out.less (fun k hk => .inl hk)⟩
set_option maxRecDepth 20000 in
set_option maxHeartbeats 4000000 in
theorem plain_9 (n c : Nat) (A : Option Addr) (ag v : Int) (hx : Ins3.ok ⟨9, ag, v⟩) (hfi : fitI 9 s.stk.length = true) (hpc : 0 ≤ s.pc ∧ s.pc < 1000) (hn : s.stk.length ≤ 800) (w : World) (h : WK F w g T X (.slice A n c) s hp p) :
    Calls Try.prog 44 #[.pointer (some ⟨g, 0, none⟩), .agg #[.int .u8 9, .int .i64 ag, .int .u64 v]] w (WRes F w g T X (.slice A n c) ((effF n ⟨9, ag, v⟩ { s with pc := s.pc + 1 }).map (fun t => (t, hp)))) := by
  have HO := Lib.hid hx
  have HFI := Lib.hid hfi
  have HS := Lib.hid (show specI 9 = false from by decide)
  have lg := h.lt
  have KB := Lib.hid (h.box (.cells #[.int .u8 9, .int .i64 ag, .int .u64 v] 53))
  have BX0 := Lib.hid (show BoxX (w.alloc (.cells #[.int .u8 9, .int .i64 ag, .int .u64 v] 53)) w.heap.size 9 ag v from heap_alloc_new w _)
  have FB := Lib.hid (h.fr ((Below.refl _ _).alloc (Nat.le_refl _) (.cells #[.int .u8 9, .int .i64 ag, .int .u64 v] 53)))
  have HPC := Lib.hid (show I64 (s.pc + 1) from ⟨by omega, by omega⟩)
  have kw : wrap64 (s.pc + 1) = s.pc + 1 := by unfold wrap64; omega
  have ne1 : g ≠ w.heap.size := by omega
  have ne2 : w.heap.size ≠ g := by omega
  have HPO := Lib.hid (fit_pops hfi)
  have HW := Lib.hid h.stk.2
  have e1 : popsI 9 = 2 := by decide
  have e2 : 2 ≤ s.stk.length := by have := HPO.out; omega
  obtain ⟨l1, b, hl⟩ := snoc_of (l := s.stk) (by omega)
  have e3 : 1 ≤ l1.length := by rw [hl] at e2; simp at e2; omega
  obtain ⟨l, a, hl1⟩ := snoc_of e3
  subst hl1
  have HL := Lib.hid hl
  have HA := Lib.hid (HW.out a (by rw [hl]; simp))
  have HB := Lib.hid (HW.out b (by rw [hl]; simp))
  have hll : l.length ≤ 800 := by rw [hl] at hn; simp at hn; omega
  clear hl e1 e2 e3
  have HE := Lib.hid (show effF n ⟨9, ag, v⟩ { s with pc := s.pc + 1 } = .ok { s with pc := s.pc + 1, stk := l ++ [fop .sub a b] } from by show Except.ok _ = _; simp only [HL.out, topI_snoc, List.dropLast_concat]; rfl)
  clear h hx hfi hpc
  go_enter Try.func44, Try.ntmps44
  go_wp2_with (first | (go_at_call 52; refine (special_any _ _).mono ?_; rintro e w' ⟨rfl, rfl⟩; rw [HS.out]) | (go_at_call 51; first | ((with_reducible refine (need_yes _ _).mono ?_); rintro e w' ⟨rfl, rfl⟩) | ((with_reducible refine (need_no _ _).mono ?_); rintro e w' ⟨rfl, rfl⟩)) | (go_at_call 53; refine (fits_sp ⟨9, ag, v⟩ HO.out (by omega) _ KB.out).mono ?_; rintro e w1 ⟨he, hb, hk⟩; rw [if_pos HFI.out] at he; obtain rfl := he; have B1 := Lib.hid hb; have K1 := Lib.hid hk; have BX1 := Lib.hid (hp_below BX0.out hb); have x0BX1 : w1.cell? ⟨w.heap.size, 0, none⟩ = some (.int .u8 9) := hp_cell BX1.out 0; have x1BX1 : w1.cell? ⟨w.heap.size, 1, none⟩ = some (.int .i64 ag) := hp_cell BX1.out 1; have x2BX1 : w1.cell? ⟨w.heap.size, 2, none⟩ = some (.int .u64 v) := hp_cell BX1.out 2; have lxBX1 := hp_lt BX1.out; have y1 := K1.out.at.2.1; have z1 := K1.out.fz 1; have ly1 := K1.out.lt; have KP := Lib.hid (K1.out.setPc (s.pc + 1) HPC.out); clear hb hk) | (go_at_call 58; refine (reckon_9 l a b (by exact HL.out) hll _ KP.out).mono ?_; rintro e v2 ⟨rfl, hf2, hk2⟩; have F2 := Lib.hid hf2; obtain ⟨p2, hq2⟩ := hk2; have K2 := Lib.hid hq2; clear hf2 hq2))
  go_end0
  refine ⟨(FB.out.trans ((((KB.out.fr B1.out).trans (Fr.set _ KB.out.fg _ _)).trans F2.out).mono (fun k hk => .inl hk))), ?_⟩
  rw [HE.out]
  exact ⟨rfl, _, K2.out.less (fun k hk => .inl hk)⟩
set_option maxRecDepth 20000 in
set_option maxHeartbeats 4000000 in
theorem plain_10 (n c : Nat) (A : Option Addr) (ag v : Int) (hx : Ins3.ok ⟨10, ag, v⟩) (hfi : fitI 10 s.stk.length = true) (hpc : 0 ≤ s.pc ∧ s.pc < 1000) (hn : s.stk.length ≤ 800) (w : World) (h : WK F w g T X (.slice A n c) s hp p) :
    Calls Try.prog 44 #[.pointer (some ⟨g, 0, none⟩), .agg #[.int .u8 10, .int .i64 ag, .int .u64 v]] w (WRes F w g T X (.slice A n c) ((effF n ⟨10, ag, v⟩ { s with pc := s.pc + 1 }).map (fun t => (t, hp)))) := by
  have HO := Lib.hid hx
  have HFI := Lib.hid hfi
  have HS := Lib.hid (show specI 10 = false from by decide)
  have lg := h.lt
  have KB := Lib.hid (h.box (.cells #[.int .u8 10, .int .i64 ag, .int .u64 v] 53))
  have BX0 := Lib.hid (show BoxX (w.alloc (.cells #[.int .u8 10, .int .i64 ag, .int .u64 v] 53)) w.heap.size 10 ag v from heap_alloc_new w _)
  have FB := Lib.hid (h.fr ((Below.refl _ _).alloc (Nat.le_refl _) (.cells #[.int .u8 10, .int .i64 ag, .int .u64 v] 53)))
  have HPC := Lib.hid (show I64 (s.pc + 1) from ⟨by omega, by omega⟩)
  have kw : wrap64 (s.pc + 1) = s.pc + 1 := by unfold wrap64; omega
  have ne1 : g ≠ w.heap.size := by omega
  have ne2 : w.heap.size ≠ g := by omega
  have HPO := Lib.hid (fit_pops hfi)
  have HW := Lib.hid h.stk.2
  have e1 : popsI 10 = 2 := by decide
  have e2 : 2 ≤ s.stk.length := by have := HPO.out; omega
  obtain ⟨l1, b, hl⟩ := snoc_of (l := s.stk) (by omega)
  have e3 : 1 ≤ l1.length := by rw [hl] at e2; simp at e2; omega
  obtain ⟨l, a, hl1⟩ := snoc_of e3
  subst hl1
  have HL := Lib.hid hl
  have HA := Lib.hid (HW.out a (by rw [hl]; simp))
  have HB := Lib.hid (HW.out b (by rw [hl]; simp))
  have hll : l.length ≤ 800 := by rw [hl] at hn; simp at hn; omega
  clear hl e1 e2 e3
  have HE := Lib.hid (show effF n ⟨10, ag, v⟩ { s with pc := s.pc + 1 } = .ok { s with pc := s.pc + 1, stk := l ++ [fop .mul a b] } from by show Except.ok _ = _; simp only [HL.out, topI_snoc, List.dropLast_concat]; rfl)
  clear h hx hfi hpc
  go_enter Try.func44, Try.ntmps44
  go_wp2_with (first | (go_at_call 52; refine (special_any _ _).mono ?_; rintro e w' ⟨rfl, rfl⟩; rw [HS.out]) | (go_at_call 51; first | ((with_reducible refine (need_yes _ _).mono ?_); rintro e w' ⟨rfl, rfl⟩) | ((with_reducible refine (need_no _ _).mono ?_); rintro e w' ⟨rfl, rfl⟩)) | (go_at_call 53; refine (fits_sp ⟨10, ag, v⟩ HO.out (by omega) _ KB.out).mono ?_; rintro e w1 ⟨he, hb, hk⟩; rw [if_pos HFI.out] at he; obtain rfl := he; have B1 := Lib.hid hb; have K1 := Lib.hid hk; have BX1 := Lib.hid (hp_below BX0.out hb); have x0BX1 : w1.cell? ⟨w.heap.size, 0, none⟩ = some (.int .u8 10) := hp_cell BX1.out 0; have x1BX1 : w1.cell? ⟨w.heap.size, 1, none⟩ = some (.int .i64 ag) := hp_cell BX1.out 1; have x2BX1 : w1.cell? ⟨w.heap.size, 2, none⟩ = some (.int .u64 v) := hp_cell BX1.out 2; have lxBX1 := hp_lt BX1.out; have y1 := K1.out.at.2.1; have z1 := K1.out.fz 1; have ly1 := K1.out.lt; have KP := Lib.hid (K1.out.setPc (s.pc + 1) HPC.out); clear hb hk) | (go_at_call 58; refine (reckon_10 l a b (by exact HL.out) hll _ KP.out).mono ?_; rintro e v2 ⟨rfl, hf2, hk2⟩; have F2 := Lib.hid hf2; obtain ⟨p2, hq2⟩ := hk2; have K2 := Lib.hid hq2; clear hf2 hq2))
  go_end0
  refine ⟨(FB.out.trans ((((KB.out.fr B1.out).trans (Fr.set _ KB.out.fg _ _)).trans F2.out).mono (fun k hk => .inl hk))), ?_⟩
  rw [HE.out]
  exact ⟨rfl, _, K2.out.less (fun k hk => .inl hk)⟩
set_option maxRecDepth 20000 in
set_option maxHeartbeats 4000000 in
theorem plain_11 (n c : Nat) (A : Option Addr) (ag v : Int) (hx : Ins3.ok ⟨11, ag, v⟩) (hfi : fitI 11 s.stk.length = true) (hpc : 0 ≤ s.pc ∧ s.pc < 1000) (hn : s.stk.length ≤ 800) (w : World) (h : WK F w g T X (.slice A n c) s hp p) :
    Calls Try.prog 44 #[.pointer (some ⟨g, 0, none⟩), .agg #[.int .u8 11, .int .i64 ag, .int .u64 v]] w (WRes F w g T X (.slice A n c) ((effF n ⟨11, ag, v⟩ { s with pc := s.pc + 1 }).map (fun t => (t, hp)))) := by
  have HO := Lib.hid hx
  have HFI := Lib.hid hfi
  have HS := Lib.hid (show specI 11 = false from by decide)
  have lg := h.lt
  have KB := Lib.hid (h.box (.cells #[.int .u8 11, .int .i64 ag, .int .u64 v] 53))
  have BX0 := Lib.hid (show BoxX (w.alloc (.cells #[.int .u8 11, .int .i64 ag, .int .u64 v] 53)) w.heap.size 11 ag v from heap_alloc_new w _)
  have FB := Lib.hid (h.fr ((Below.refl _ _).alloc (Nat.le_refl _) (.cells #[.int .u8 11, .int .i64 ag, .int .u64 v] 53)))
  have HPC := Lib.hid (show I64 (s.pc + 1) from ⟨by omega, by omega⟩)
  have kw : wrap64 (s.pc + 1) = s.pc + 1 := by unfold wrap64; omega
  have ne1 : g ≠ w.heap.size := by omega
  have ne2 : w.heap.size ≠ g := by omega
  have HPO := Lib.hid (fit_pops hfi)
  have HW := Lib.hid h.stk.2
  have e1 : popsI 11 = 2 := by decide
  have e2 : 2 ≤ s.stk.length := by have := HPO.out; omega
  obtain ⟨l1, b, hl⟩ := snoc_of (l := s.stk) (by omega)
  have e3 : 1 ≤ l1.length := by rw [hl] at e2; simp at e2; omega
  obtain ⟨l, a, hl1⟩ := snoc_of e3
  subst hl1
  have HL := Lib.hid hl
  have HA := Lib.hid (HW.out a (by rw [hl]; simp))
  have HB := Lib.hid (HW.out b (by rw [hl]; simp))
  have hll : l.length ≤ 800 := by rw [hl] at hn; simp at hn; omega
  clear hl e1 e2 e3
  have HE := Lib.hid (show effF n ⟨11, ag, v⟩ { s with pc := s.pc + 1 } = .ok { s with pc := s.pc + 1, stk := l ++ [fop .quo a b] } from by show Except.ok _ = _; simp only [HL.out, topI_snoc, List.dropLast_concat]; rfl)
  clear h hx hfi hpc
  go_enter Try.func44, Try.ntmps44
  go_wp2_with (first | (go_at_call 52; refine (special_any _ _).mono ?_; rintro e w' ⟨rfl, rfl⟩; rw [HS.out]) | (go_at_call 51; first | ((with_reducible refine (need_yes _ _).mono ?_); rintro e w' ⟨rfl, rfl⟩) | ((with_reducible refine (need_no _ _).mono ?_); rintro e w' ⟨rfl, rfl⟩)) | (go_at_call 53; refine (fits_sp ⟨11, ag, v⟩ HO.out (by omega) _ KB.out).mono ?_; rintro e w1 ⟨he, hb, hk⟩; rw [if_pos HFI.out] at he; obtain rfl := he; have B1 := Lib.hid hb; have K1 := Lib.hid hk; have BX1 := Lib.hid (hp_below BX0.out hb); have x0BX1 : w1.cell? ⟨w.heap.size, 0, none⟩ = some (.int .u8 11) := hp_cell BX1.out 0; have x1BX1 : w1.cell? ⟨w.heap.size, 1, none⟩ = some (.int .i64 ag) := hp_cell BX1.out 1; have x2BX1 : w1.cell? ⟨w.heap.size, 2, none⟩ = some (.int .u64 v) := hp_cell BX1.out 2; have lxBX1 := hp_lt BX1.out; have y1 := K1.out.at.2.1; have z1 := K1.out.fz 1; have ly1 := K1.out.lt; have KP := Lib.hid (K1.out.setPc (s.pc + 1) HPC.out); clear hb hk) | (go_at_call 58; refine (reckon_11 l a b (by exact HL.out) hll _ KP.out).mono ?_; rintro e v2 ⟨rfl, hf2, hk2⟩; have F2 := Lib.hid hf2; obtain ⟨p2, hq2⟩ := hk2; have K2 := Lib.hid hq2; clear hf2 hq2))
  go_end0
  refine ⟨(FB.out.trans ((((KB.out.fr B1.out).trans (Fr.set _ KB.out.fg _ _)).trans F2.out).mono (fun k hk => .inl hk))), ?_⟩
  rw [HE.out]
  exact ⟨rfl, _, K2.out.less (fun k hk => .inl hk)⟩
set_option maxRecDepth 20000 in
set_option maxHeartbeats 4000000 in
theorem plain_13 (n c : Nat) (A : Option Addr) (ag v : Int) (hx : Ins3.ok ⟨13, ag, v⟩) (hfi : fitI 13 s.stk.length = true) (hpc : 0 ≤ s.pc ∧ s.pc < 1000) (hn : s.stk.length ≤ 800) (w : World) (h : WK F w g T X (.slice A n c) s hp p) :
    Calls Try.prog 44 #[.pointer (some ⟨g, 0, none⟩), .agg #[.int .u8 13, .int .i64 ag, .int .u64 v]] w (WRes F w g T X (.slice A n c) ((effF n ⟨13, ag, v⟩ { s with pc := s.pc + 1 }).map (fun t => (t, hp)))) := by
  have HO := Lib.hid hx
  have HFI := Lib.hid hfi
  have HS := Lib.hid (show specI 13 = false from by decide)
  have lg := h.lt
  have KB := Lib.hid (h.box (.cells #[.int .u8 13, .int .i64 ag, .int .u64 v] 53))
  have BX0 := Lib.hid (show BoxX (w.alloc (.cells #[.int .u8 13, .int .i64 ag, .int .u64 v] 53)) w.heap.size 13 ag v from heap_alloc_new w _)
  have FB := Lib.hid (h.fr ((Below.refl _ _).alloc (Nat.le_refl _) (.cells #[.int .u8 13, .int .i64 ag, .int .u64 v] 53)))
  have HPC := Lib.hid (show I64 (s.pc + 1) from ⟨by omega, by omega⟩)
  have kw : wrap64 (s.pc + 1) = s.pc + 1 := by unfold wrap64; omega
  have ne1 : g ≠ w.heap.size := by omega
  have ne2 : w.heap.size ≠ g := by omega
  have HPO := Lib.hid (fit_pops hfi)
  have HW := Lib.hid h.stk.2
  have e1 : popsI 13 = 2 := by decide
  have e2 : 2 ≤ s.stk.length := by have := HPO.out; omega
  obtain ⟨l1, b, hl⟩ := snoc_of (l := s.stk) (by omega)
  have e3 : 1 ≤ l1.length := by rw [hl] at e2; simp at e2; omega
  obtain ⟨l, a, hl1⟩ := snoc_of e3
  subst hl1
  have HL := Lib.hid hl
  have HA := Lib.hid (HW.out a (by rw [hl]; simp))
  have HB := Lib.hid (HW.out b (by rw [hl]; simp))
  have hll : l.length ≤ 800 := by rw [hl] at hn; simp at hn; omega
  clear hl e1 e2 e3
  have HE := Lib.hid (show effF n ⟨13, ag, v⟩ { s with pc := s.pc + 1 } = .ok { s with pc := s.pc + 1, stk := l ++ [lessV a b] } from by show Except.ok _ = _; simp only [HL.out, topI_snoc, List.dropLast_concat]; rfl)
  clear h hx hfi hpc
  go_enter Try.func44, Try.ntmps44
  go_wp2_with (first | (go_at_call 52; refine (special_any _ _).mono ?_; rintro e w' ⟨rfl, rfl⟩; rw [HS.out]) | (go_at_call 51; first | ((with_reducible refine (need_yes _ _).mono ?_); rintro e w' ⟨rfl, rfl⟩) | ((with_reducible refine (need_no _ _).mono ?_); rintro e w' ⟨rfl, rfl⟩)) | (go_at_call 53; refine (fits_sp ⟨13, ag, v⟩ HO.out (by omega) _ KB.out).mono ?_; rintro e w1 ⟨he, hb, hk⟩; rw [if_pos HFI.out] at he; obtain rfl := he; have B1 := Lib.hid hb; have K1 := Lib.hid hk; have BX1 := Lib.hid (hp_below BX0.out hb); have x0BX1 : w1.cell? ⟨w.heap.size, 0, none⟩ = some (.int .u8 13) := hp_cell BX1.out 0; have x1BX1 : w1.cell? ⟨w.heap.size, 1, none⟩ = some (.int .i64 ag) := hp_cell BX1.out 1; have x2BX1 : w1.cell? ⟨w.heap.size, 2, none⟩ = some (.int .u64 v) := hp_cell BX1.out 2; have lxBX1 := hp_lt BX1.out; have y1 := K1.out.at.2.1; have z1 := K1.out.fz 1; have ly1 := K1.out.lt; have KP := Lib.hid (K1.out.setPc (s.pc + 1) HPC.out); clear hb hk) | (go_at_call 58; refine (reckon_13 l a b (by exact HL.out) hll _ KP.out).mono ?_; rintro e v2 ⟨rfl, hf2, hk2⟩; have F2 := Lib.hid hf2; obtain ⟨p2, hq2⟩ := hk2; have K2 := Lib.hid hq2; clear hf2 hq2))
  go_end0
  refine ⟨(FB.out.trans ((((KB.out.fr B1.out).trans (Fr.set _ KB.out.fg _ _)).trans F2.out).mono (fun k hk => .inl hk))), ?_⟩
  rw [HE.out]
  exact ⟨rfl, _, K2.out.less (fun k hk => .inl hk)⟩
set_option maxRecDepth 20000 in
set_option maxHeartbeats 4000000 in
theorem plain_14 (n c : Nat) (A : Option Addr) (ag v : Int) (hx : Ins3.ok ⟨14, ag, v⟩) (hfi : fitI 14 s.stk.length = true) (hpc : 0 ≤ s.pc ∧ s.pc < 1000) (hn : s.stk.length ≤ 800) (w : World) (h : WK F w g T X (.slice A n c) s hp p) :
    Calls Try.prog 44 #[.pointer (some ⟨g, 0, none⟩), .agg #[.int .u8 14, .int .i64 ag, .int .u64 v]] w (WRes F w g T X (.slice A n c) ((effF n ⟨14, ag, v⟩ { s with pc := s.pc + 1 }).map (fun t => (t, hp)))) := by
  have HO := Lib.hid hx
  have HFI := Lib.hid hfi
  have HS := Lib.hid (show specI 14 = false from by decide)
  have lg := h.lt
  have KB := Lib.hid (h.box (.cells #[.int .u8 14, .int .i64 ag, .int .u64 v] 53))
  have BX0 := Lib.hid (show BoxX (w.alloc (.cells #[.int .u8 14, .int .i64 ag, .int .u64 v] 53)) w.heap.size 14 ag v from heap_alloc_new w _)
  have FB := Lib.hid (h.fr ((Below.refl _ _).alloc (Nat.le_refl _) (.cells #[.int .u8 14, .int .i64 ag, .int .u64 v] 53)))
  have HPC := Lib.hid (show I64 (s.pc + 1) from ⟨by omega, by omega⟩)
  have kw : wrap64 (s.pc + 1) = s.pc + 1 := by unfold wrap64; omega
  have ne1 : g ≠ w.heap.size := by omega
  have ne2 : w.heap.size ≠ g := by omega
  have HPO := Lib.hid (fit_pops hfi)
  have HW := Lib.hid h.stk.2
  have e1 : popsI 14 = 2 := by decide
  have e2 : 2 ≤ s.stk.length := by have := HPO.out; omega
  obtain ⟨l1, b, hl⟩ := snoc_of (l := s.stk) (by omega)
  have e3 : 1 ≤ l1.length := by rw [hl] at e2; simp at e2; omega
  obtain ⟨l, a, hl1⟩ := snoc_of e3
  subst hl1
  have HL := Lib.hid hl
  have HA := Lib.hid (HW.out a (by rw [hl]; simp))
  have HB := Lib.hid (HW.out b (by rw [hl]; simp))
  have hll : l.length ≤ 800 := by rw [hl] at hn; simp at hn; omega
  clear hl e1 e2 e3
  have HE := Lib.hid (show effF n ⟨14, ag, v⟩ { s with pc := s.pc + 1 } = .ok { s with pc := s.pc + 1, stk := l ++ [sameV a b] } from by show Except.ok _ = _; simp only [HL.out, topI_snoc, List.dropLast_concat]; rfl)
  clear h hx hfi hpc
  go_enter Try.func44, Try.ntmps44
  go_wp2_with (first | (go_at_call 52; refine (special_any _ _).mono ?_; rintro e w' ⟨rfl, rfl⟩; rw [HS.out]) | (go_at_call 51; first | ((with_reducible refine (need_yes _ _).mono ?_); rintro e w' ⟨rfl, rfl⟩) | ((with_reducible refine (need_no _ _).mono ?_); rintro e w' ⟨rfl, rfl⟩)) | (go_at_call 53; refine (fits_sp ⟨14, ag, v⟩ HO.out (by omega) _ KB.out).mono ?_; rintro e w1 ⟨he, hb, hk⟩; rw [if_pos HFI.out] at he; obtain rfl := he; have B1 := Lib.hid hb; have K1 := Lib.hid hk; have BX1 := Lib.hid (hp_below BX0.out hb); have x0BX1 : w1.cell? ⟨w.heap.size, 0, none⟩ = some (.int .u8 14) := hp_cell BX1.out 0; have x1BX1 : w1.cell? ⟨w.heap.size, 1, none⟩ = some (.int .i64 ag) := hp_cell BX1.out 1; have x2BX1 : w1.cell? ⟨w.heap.size, 2, none⟩ = some (.int .u64 v) := hp_cell BX1.out 2; have lxBX1 := hp_lt BX1.out; have y1 := K1.out.at.2.1; have z1 := K1.out.fz 1; have ly1 := K1.out.lt; have KP := Lib.hid (K1.out.setPc (s.pc + 1) HPC.out); clear hb hk) | (go_at_call 58; refine (reckon_14 l a b (by exact HL.out) hll _ KP.out).mono ?_; rintro e v2 ⟨rfl, hf2, hk2⟩; have F2 := Lib.hid hf2; obtain ⟨p2, hq2⟩ := hk2; have K2 := Lib.hid hq2; clear hf2 hq2))
  go_end0
  refine ⟨(FB.out.trans ((((KB.out.fr B1.out).trans (Fr.set _ KB.out.fg _ _)).trans F2.out).mono (fun k hk => .inl hk))), ?_⟩
  rw [HE.out]
  exact ⟨rfl, _, K2.out.less (fun k hk => .inl hk)⟩
set_option maxRecDepth 20000 in
set_option maxHeartbeats 4000000 in
theorem plain_12 (n c : Nat) (A : Option Addr) (ag v : Int) (hx : Ins3.ok ⟨12, ag, v⟩) (hfi : fitI 12 s.stk.length = true) (hpc : 0 ≤ s.pc ∧ s.pc < 1000) (hn : s.stk.length ≤ 800) (w : World) (h : WK F w g T X (.slice A n c) s hp p) :
    Calls Try.prog 44 #[.pointer (some ⟨g, 0, none⟩), .agg #[.int .u8 12, .int .i64 ag, .int .u64 v]] w (WRes F w g T X (.slice A n c) ((effF n ⟨12, ag, v⟩ { s with pc := s.pc + 1 }).map (fun t => (t, hp)))) := by
  have HO := Lib.hid hx
  have HFI := Lib.hid hfi
  have HS := Lib.hid (show specI 12 = false from by decide)
  have lg := h.lt
  have KB := Lib.hid (h.box (.cells #[.int .u8 12, .int .i64 ag, .int .u64 v] 53))
  have BX0 := Lib.hid (show BoxX (w.alloc (.cells #[.int .u8 12, .int .i64 ag, .int .u64 v] 53)) w.heap.size 12 ag v from heap_alloc_new w _)
  have FB := Lib.hid (h.fr ((Below.refl _ _).alloc (Nat.le_refl _) (.cells #[.int .u8 12, .int .i64 ag, .int .u64 v] 53)))
  have HPC := Lib.hid (show I64 (s.pc + 1) from ⟨by omega, by omega⟩)
  have kw : wrap64 (s.pc + 1) = s.pc + 1 := by unfold wrap64; omega
  have ne1 : g ≠ w.heap.size := by omega
  have ne2 : w.heap.size ≠ g := by omega
  have HPO := Lib.hid (fit_pops hfi)
  have HW := Lib.hid h.stk.2
  have e1 : popsI 12 = 1 := by decide
  have e2 : 1 ≤ s.stk.length := by have := HPO.out; omega
  obtain ⟨l, a, hl⟩ := snoc_of e2
  have HL := Lib.hid hl
  have ha : W64 a := HW.out a (by rw [hl]; simp)
  have HA := Lib.hid ha
  have hll : l.length ≤ 800 := by rw [hl] at hn; simp at hn; omega
  clear hl ha e1 e2
  have HE := Lib.hid (show effF n ⟨12, ag, v⟩ { s with pc := s.pc + 1 } = .ok { s with pc := s.pc + 1, stk := l ++ [negV a] } from by show Except.ok _ = _; simp only [HL.out, topI_snoc, List.dropLast_concat]; rfl)
  clear h hx hfi hpc
  go_enter Try.func44, Try.ntmps44
  go_wp2_with (first | (go_at_call 52; refine (special_any _ _).mono ?_; rintro e w' ⟨rfl, rfl⟩; rw [HS.out]) | (go_at_call 51; first | ((with_reducible refine (need_yes _ _).mono ?_); rintro e w' ⟨rfl, rfl⟩) | ((with_reducible refine (need_no _ _).mono ?_); rintro e w' ⟨rfl, rfl⟩)) | (go_at_call 53; refine (fits_sp ⟨12, ag, v⟩ HO.out (by omega) _ KB.out).mono ?_; rintro e w1 ⟨he, hb, hk⟩; rw [if_pos HFI.out] at he; obtain rfl := he; have B1 := Lib.hid hb; have K1 := Lib.hid hk; have BX1 := Lib.hid (hp_below BX0.out hb); have x0BX1 : w1.cell? ⟨w.heap.size, 0, none⟩ = some (.int .u8 12) := hp_cell BX1.out 0; have x1BX1 : w1.cell? ⟨w.heap.size, 1, none⟩ = some (.int .i64 ag) := hp_cell BX1.out 1; have x2BX1 : w1.cell? ⟨w.heap.size, 2, none⟩ = some (.int .u64 v) := hp_cell BX1.out 2; have lxBX1 := hp_lt BX1.out; have y1 := K1.out.at.2.1; have z1 := K1.out.fz 1; have ly1 := K1.out.lt; have KP := Lib.hid (K1.out.setPc (s.pc + 1) HPC.out); clear hb hk) | (go_at_call 58; refine (reckon_12 l a (by exact HL.out) hll _ KP.out).mono ?_; rintro e v2 ⟨rfl, hf2, hk2⟩; have F2 := Lib.hid hf2; obtain ⟨p2, hq2⟩ := hk2; have K2 := Lib.hid hq2; clear hf2 hq2))
  go_end0
  refine ⟨(FB.out.trans ((((KB.out.fr B1.out).trans (Fr.set _ KB.out.fg _ _)).trans F2.out).mono (fun k hk => .inl hk))), ?_⟩
  rw [HE.out]
  exact ⟨rfl, _, K2.out.less (fun k hk => .inl hk)⟩
set_option maxRecDepth 20000 in
set_option maxHeartbeats 4000000 in
theorem plain_15 (n c : Nat) (A : Option Addr) (ag v : Int) (hx : Ins3.ok ⟨15, ag, v⟩) (hfi : fitI 15 s.stk.length = true) (hpc : 0 ≤ s.pc ∧ s.pc < 1000) (hn : s.stk.length ≤ 800) (w : World) (h : WK F w g T X (.slice A n c) s hp p) :
    Calls Try.prog 44 #[.pointer (some ⟨g, 0, none⟩), .agg #[.int .u8 15, .int .i64 ag, .int .u64 v]] w (WRes F w g T X (.slice A n c) ((effF n ⟨15, ag, v⟩ { s with pc := s.pc + 1 }).map (fun t => (t, hp)))) := by
  have HO := Lib.hid hx
  have HFI := Lib.hid hfi
  have HS := Lib.hid (show specI 15 = false from by decide)
  have lg := h.lt
  have KB := Lib.hid (h.box (.cells #[.int .u8 15, .int .i64 ag, .int .u64 v] 53))
  have BX0 := Lib.hid (show BoxX (w.alloc (.cells #[.int .u8 15, .int .i64 ag, .int .u64 v] 53)) w.heap.size 15 ag v from heap_alloc_new w _)
  have FB := Lib.hid (h.fr ((Below.refl _ _).alloc (Nat.le_refl _) (.cells #[.int .u8 15, .int .i64 ag, .int .u64 v] 53)))
  have HPC := Lib.hid (show I64 (s.pc + 1) from ⟨by omega, by omega⟩)
  have kw : wrap64 (s.pc + 1) = s.pc + 1 := by unfold wrap64; omega
  have ne1 : g ≠ w.heap.size := by omega
  have ne2 : w.heap.size ≠ g := by omega
  have HPO := Lib.hid (fit_pops hfi)
  have HW := Lib.hid h.stk.2
  have e1 : popsI 15 = 1 := by decide
  have e2 : 1 ≤ s.stk.length := by have := HPO.out; omega
  obtain ⟨l, a, hl⟩ := snoc_of e2
  have HL := Lib.hid hl
  have ha : W64 a := HW.out a (by rw [hl]; simp)
  have HA := Lib.hid ha
  have hll : l.length ≤ 800 := by rw [hl] at hn; simp at hn; omega
  clear hl ha e1 e2
  have HE := Lib.hid (show effF n ⟨15, ag, v⟩ { s with pc := s.pc + 1 } = .ok { s with pc := s.pc + 1, stk := l ++ [notV a] } from by show Except.ok _ = _; simp only [HL.out, topI_snoc, List.dropLast_concat]; rfl)
  clear h hx hfi hpc
  go_enter Try.func44, Try.ntmps44
  go_wp2_with (first | (go_at_call 52; refine (special_any _ _).mono ?_; rintro e w' ⟨rfl, rfl⟩; rw [HS.out]) | (go_at_call 51; first | ((with_reducible refine (need_yes _ _).mono ?_); rintro e w' ⟨rfl, rfl⟩) | ((with_reducible refine (need_no _ _).mono ?_); rintro e w' ⟨rfl, rfl⟩)) | (go_at_call 53; refine (fits_sp ⟨15, ag, v⟩ HO.out (by omega) _ KB.out).mono ?_; rintro e w1 ⟨he, hb, hk⟩; rw [if_pos HFI.out] at he; obtain rfl := he; have B1 := Lib.hid hb; have K1 := Lib.hid hk; have BX1 := Lib.hid (hp_below BX0.out hb); have x0BX1 : w1.cell? ⟨w.heap.size, 0, none⟩ = some (.int .u8 15) := hp_cell BX1.out 0; have x1BX1 : w1.cell? ⟨w.heap.size, 1, none⟩ = some (.int .i64 ag) := hp_cell BX1.out 1; have x2BX1 : w1.cell? ⟨w.heap.size, 2, none⟩ = some (.int .u64 v) := hp_cell BX1.out 2; have lxBX1 := hp_lt BX1.out; have y1 := K1.out.at.2.1; have z1 := K1.out.fz 1; have ly1 := K1.out.lt; have KP := Lib.hid (K1.out.setPc (s.pc + 1) HPC.out); clear hb hk) | (go_at_call 58; refine (reckon_15 l a (by exact HL.out) hll _ KP.out).mono ?_; rintro e v2 ⟨rfl, hf2, hk2⟩; have F2 := Lib.hid hf2; obtain ⟨p2, hq2⟩ := hk2; have K2 := Lib.hid hq2; clear hf2 hq2))
  go_end0
  refine ⟨(FB.out.trans ((((KB.out.fr B1.out).trans (Fr.set _ KB.out.fg _ _)).trans F2.out).mono (fun k hk => .inl hk))), ?_⟩
  rw [HE.out]
  exact ⟨rfl, _, K2.out.less (fun k hk => .inl hk)⟩
end
end Go.Proofs.Ytdkcmnnhjnapiaa
