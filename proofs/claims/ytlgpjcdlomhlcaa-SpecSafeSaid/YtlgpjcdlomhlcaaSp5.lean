
/-
  spec: touch.
-/
import Derived.Test.YtlgpjcdlomhlcaaSp4
import Derived.Deep.RegionWith
namespace Go.Proofs.Ytlgpjcdlomhlcaa
open Go.RowKit Go.ChangeShapes Go.WideShapes
set_option linter.unusedSimpArgs false
set_option linter.unusedVariables false

def hvAt (hp : List Int) (i : Nat) : Int := (hp[i]?).getD 0
theorem hv_get {hp : List Int} {i : Nat} (h : i < hp.length) : hp[i]? = some (hvAt hp i) := by unfold hvAt; rw [List.getElem?_eq_getElem h]; rfl
def getF (i : Int) (s : St) (hp : List Int) : Except Int (St × List Int) := if i < hp.length then .ok ({ s with pc := s.pc + 1, stk := s.stk ++ [hvAt hp i.toNat] }, hp) else .error 2
def putF (i : Int) (s : St) (hp : List Int) : Except Int (St × List Int) := if i < hp.length then .ok ({ s with pc := s.pc + 1, stk := s.stk.dropLast }, hp.set i.toNat (topI s.stk)) else .error 2
def idxB (v ag : Int) (n : Nat) : Bool := wholeOk v && decide (0 ≤ wholeN v) && decide (wholeN v < (n : Int) - ag)
def touchF (x : Ins3) (s : St) (hp : List Int) : Except Int (St × List Int) :=
  if fitI x.op s.stk.length then
    if x.op = 4 then getF x.arg s hp
    else if x.op = 5 then putF x.arg s hp
    else if idxB (topI s.stk) x.arg hp.length then
      if x.op = 6 then getF (x.arg + wholeN (topI s.stk)) { s with stk := s.stk.dropLast } hp
      else putF (x.arg + wholeN (topI s.stk)) { s with stk := s.stk.dropLast } hp
    else .error 2
  else .error 12
theorem row_set {w : World} {base c g i : Nat} {l : List Int} {v : Int} (h : RowAt w base (some ⟨g, 0, none⟩) c l) (hi : i < l.length) (hv : W64 v) : RowAt (w.setCell ⟨g, i, none⟩ (.int .u64 v)) base (some ⟨g, 0, none⟩) c (l.set i v) := by
  refine ⟨?_, fun x hx => ?_⟩
  · obtain ⟨h1, h2⟩ := h.1
    refine ⟨by rw [valsC_len, List.length_set]; simp, ?_⟩
    rcases h2 with ⟨hv', h0⟩ | ⟨g', cap, cur, hv', hb, hg, hcap, hm, hs, ht⟩
    · omega
    · simp only [Value.slice.injEq, Option.some.injEq, Addr.mk.injEq] at hv'
      obtain ⟨⟨rfl, _⟩, _, rfl⟩ := hv'
      refine .inr ⟨g, c, cur.setIfInBounds i (.int .u64 v), by rw [List.length_set], hb, hp_put hg i _ rfl, by rw [List.length_set]; exact hcap, hm, by rw [Array.size_setIfInBounds]; exact hs, ?_⟩
      rw [Array.toList_setIfInBounds, List.length_set]
      have e : valsC (l.set i v) = (valsC l).set i (.int .u64 v) := by unfold valsC; rw [List.map_set]
      rw [e, ← ht, List.take_set]
  · rcases List.mem_or_eq_of_mem_set hx with hx | hx
    · exact h.2 x hx
    · rw [hx]; exact hv
theorem row_head {w : World} {base c : Nat} {A : Option Addr} {l : List Int} (h : RowAt w base A c l) {i : Nat} (hi : i < l.length) : ∃ g, A = some ⟨g, 0, none⟩ ∧ w.cell? ⟨g, i, none⟩ = some (.int .u64 (hvAt l i)) ∧ w.frozen? ⟨g, i, none⟩ = false ∧ g < w.heap.size := by
  have hv := (row_vals h).1
  rcases h.1.2 with ⟨hn, h0⟩ | ⟨g, cap, cur, hn, hb, hg, hcap, hm, hs, ht⟩
  · omega
  · simp only [Value.slice.injEq] at hn
    obtain ⟨rfl, _⟩ := hn
    have := vals_cell hv i _ (by rw [valsC_get, hv_get hi]; rfl)
    rw [add_at, Nat.zero_add] at this
    exact ⟨g, rfl, this, hp_frozen hg i, hp_lt hg⟩
section
variable {F : Nat → Prop} {w : World} {g : Nat} {T : TypeId} {X : List Value} {I : Value} {s : St} {hp : List Int} {p : Pl}
theorem WK.setH {g3 i : Nat} {v : Int} (h : WK F w g T X I s hp p) (e : p.A3 = some ⟨g3, 0, none⟩) (hi : i < hp.length) (hv : W64 v) : WK F (w.setCell ⟨g3, i, none⟩ (.int .u64 v)) g T X I s (hp.set i v) p := by
  have k3 : blk p.A3 = some g3 := by rw [e]; rfl
  have hs : ∀ {A c l}, RowAt w 0 A c l → (∀ k, blk A = some k → k ≠ g3) → RowAt (w.setCell ⟨g3, i, none⟩ (.int .u64 v)) 0 A c l := fun hr hn =>
    row_other hr (gb_set (gb_refl w (some g3)) i _) (fun k hk => by simpa using hn k hk)
  refine ⟨?_, hs h.stk (fun k hk e' => h.d13 k hk (by rw [k3, e'])), hs h.out (fun k hk e' => h.d23 k hk (by rw [k3, e'])), ?_, h.d12, h.d13, h.d23, h.fg, h.f1, h.f2, h.f3, fun k hk => Nat.lt_of_lt_of_le (h.fl k hk) (by simp [World.setCell]), h.ok, h.ty⟩
  · rw [List.length_set]
    exact hp_far h.cells (fun e' => h.ne3 (by rw [k3]; exact congrArg some e')) _
  · have := h.hep
    rw [e] at this ⊢
    exact row_set this hi hv
set_option maxRecDepth 20000 in
set_option maxHeartbeats 4000000 in
theorem touch_4 (ag v : Int) (hx : Ins3.ok ⟨4, ag, v⟩) (hfi : fitI 4 s.stk.length = true) (hag : 0 ≤ ag ∧ ag < 64) (hpc : 0 ≤ s.pc ∧ s.pc < 1000) (hn : s.stk.length ≤ 800) (hhp : hp.length ≤ 1000) (w : World) (h : WK F w g T X I s hp p) :
    Calls Try.prog 79 #[.pointer (some ⟨g, 0, none⟩), .agg #[.int .u8 4, .int .i64 ag, .int .u64 v]] w (WRes F w g T X I (getF ag s hp)) := by
  have HO := Lib.hid hx
  have HFI := Lib.hid hfi
  have lg := h.lt
  have KB := Lib.hid (h.box (.cells #[.int .u8 4, .int .i64 ag, .int .u64 v] 42))
  have BX0 := Lib.hid (show BoxX (w.alloc (.cells #[.int .u8 4, .int .i64 ag, .int .u64 v] 42)) w.heap.size 4 ag v from heap_alloc_new w _)
  have FB := Lib.hid (h.fr ((Below.refl _ _).alloc (Nat.le_refl _) (.cells #[.int .u8 4, .int .i64 ag, .int .u64 v] 42)))
  have HPC := Lib.hid (show I64 (s.pc + 1) from ⟨by omega, by omega⟩)
  have kw : wrap64 (s.pc + 1) = s.pc + 1 := by unfold wrap64; omega
  have ne1 : g ≠ w.heap.size := by omega
  have ne2 : w.heap.size ≠ g := by omega
  have HPO := Lib.hid (fit_pops hfi)
  have HW := Lib.hid h.stk.2
  have HHW := Lib.hid h.hep.2
  have kw1 : wrap64 ag = ag := by unfold wrap64; omega
  obtain ⟨i, rfl⟩ := Int.eq_ofNat_of_zero_le hag.1
  by_cases hi : i < hp.length
  · have d1 : decide ((i : Int) < (hp.length : Int)) = true := decide_eq_true (by omega)
    have d1' : decide (i < hp.length) = true := decide_eq_true hi
    have d2 : (i : Int) < (hp.length : Int) := by omega
    have d3 : (0 : Int) ≤ (i : Int) := by omega
    have HE := Lib.hid (show getF (i : Int) s hp = .ok ({ s with pc := s.pc + 1, stk := s.stk ++ [hvAt hp i] }, hp) from by unfold getF; rw [if_pos (by omega)]; rfl)
    have HI := Lib.hid hi
    have HV := Lib.hid (show W64 (hvAt hp i) from HHW.out _ (List.mem_of_getElem? (hv_get hi)))
    obtain ⟨g3, hA3, _⟩ := row_head h.hep hi
    have HA3 := Lib.hid hA3
    clear h hx hfi hpc hag hi hA3
    go_enter Try.func79, Try.ntmps79
    go_wp2_with (first | (go_at_call 57; refine (push_sp (hvAt hp i) HV.out (by exact Nat.le_trans hn (by decide)) _ rfl _ KP.out).mono ?_; rintro e v2 ⟨rfl, hf2, hk2⟩; have F2 := Lib.hid hf2; obtain ⟨p2, hq2⟩ := hk2; have K2 := Lib.hid hq2; clear hf2 hq2) | (go_at_call 48; first | ((with_reducible refine (need_yes _ _).mono ?_); rintro e w' ⟨rfl, rfl⟩) | ((with_reducible refine (need_no _ _).mono ?_); rintro e w' ⟨rfl, rfl⟩)) | (go_at_call 56; refine (fits_sp ⟨4, (i : Int), v⟩ HO.out (by exact Nat.le_trans hn (by decide)) _ KB.out).mono ?_; rintro e w1 ⟨he, hb, hk⟩; rw [if_pos HFI.out] at he; obtain rfl := he; have B1 := Lib.hid hb; have K1 := Lib.hid hk; have BX1 := Lib.hid (hp_below BX0.out hb); have x0BX1 : w1.cell? ⟨w.heap.size, 0, none⟩ = some (.int .u8 4) := hp_cell BX1.out 0; have x1BX1 : w1.cell? ⟨w.heap.size, 1, none⟩ = some (.int .i64 (i : Int)) := hp_cell BX1.out 1; have x2BX1 : w1.cell? ⟨w.heap.size, 2, none⟩ = some (.int .u64 v) := hp_cell BX1.out 2; have lxBX1 := hp_lt BX1.out; have y1 := K1.out.at.2.1; have y8 := K1.out.at.2.2.2.2.2.2.2.2; have z1 := K1.out.fz 1; have ly1 := K1.out.lt; have KP := Lib.hid (K1.out.setPc (s.pc + 1) HPC.out); clear hb hk; rw [HA3.out] at y8; obtain ⟨g3x, ex, h3c, _, h3l⟩ := row_head K1.out.hep HI.out; rw [HA3.out] at ex; simp only [Option.some.injEq, Addr.mk.injEq, and_true, true_and] at ex; subst ex; have h3n : g ≠ g3 := fun e => K1.out.ne3 (by rw [HA3.out]; exact congrArg some e); have h3n' : g3 ≠ g := fun e => h3n e.symm))
    go_end0
    refine ⟨(FB.out.trans ((((KB.out.fr B1.out).trans (Fr.set _ KB.out.fg _ _)).trans F2.out).mono (fun k hk => .inl hk))), ?_⟩
    rw [HE.out]
    exact ⟨rfl, _, K2.out.less (fun k hk => .inl hk)⟩
  · have d1 : decide ((i : Int) < (hp.length : Int)) = false := decide_eq_false (by omega)
    have d1' : decide (i < hp.length) = false := decide_eq_false hi
    have HE := Lib.hid (show getF (i : Int) s hp = .error 2 from by unfold getF; rw [if_neg (by omega)])
    clear h hx hfi hpc hag hi
    go_enter Try.func79, Try.ntmps79
    go_wp2_with (first | (go_at_call 48; first | ((with_reducible refine (need_yes _ _).mono ?_); rintro e w' ⟨rfl, rfl⟩) | ((with_reducible refine (need_no _ _).mono ?_); rintro e w' ⟨rfl, rfl⟩)) | (go_at_call 56; refine (fits_sp ⟨4, (i : Int), v⟩ HO.out (by exact Nat.le_trans hn (by decide)) _ KB.out).mono ?_; rintro e w1 ⟨he, hb, hk⟩; rw [if_pos HFI.out] at he; obtain rfl := he; have B1 := Lib.hid hb; have K1 := Lib.hid hk; have BX1 := Lib.hid (hp_below BX0.out hb); have x0BX1 : w1.cell? ⟨w.heap.size, 0, none⟩ = some (.int .u8 4) := hp_cell BX1.out 0; have x1BX1 : w1.cell? ⟨w.heap.size, 1, none⟩ = some (.int .i64 (i : Int)) := hp_cell BX1.out 1; have x2BX1 : w1.cell? ⟨w.heap.size, 2, none⟩ = some (.int .u64 v) := hp_cell BX1.out 2; have lxBX1 := hp_lt BX1.out; have y1 := K1.out.at.2.1; have y8 := K1.out.at.2.2.2.2.2.2.2.2; have z1 := K1.out.fz 1; have ly1 := K1.out.lt; have KP := Lib.hid (K1.out.setPc (s.pc + 1) HPC.out); clear hb hk))
    refine ⟨rfl, (FB.out.trans ((KB.out.fr B1.out).mono (fun k hk => .inl hk))), ?_⟩
    rw [HE.out]
set_option maxRecDepth 20000 in
set_option maxHeartbeats 4000000 in
theorem touch_5 (ag v : Int) (hx : Ins3.ok ⟨5, ag, v⟩) (hfi : fitI 5 s.stk.length = true) (hag : 0 ≤ ag ∧ ag < 64) (hpc : 0 ≤ s.pc ∧ s.pc < 1000) (hn : s.stk.length ≤ 800) (hhp : hp.length ≤ 1000) (w : World) (h : WK F w g T X I s hp p) :
    Calls Try.prog 79 #[.pointer (some ⟨g, 0, none⟩), .agg #[.int .u8 5, .int .i64 ag, .int .u64 v]] w (WRes F w g T X I (putF ag s hp)) := by
  have HO := Lib.hid hx
  have HFI := Lib.hid hfi
  have lg := h.lt
  have KB := Lib.hid (h.box (.cells #[.int .u8 5, .int .i64 ag, .int .u64 v] 42))
  have BX0 := Lib.hid (show BoxX (w.alloc (.cells #[.int .u8 5, .int .i64 ag, .int .u64 v] 42)) w.heap.size 5 ag v from heap_alloc_new w _)
  have FB := Lib.hid (h.fr ((Below.refl _ _).alloc (Nat.le_refl _) (.cells #[.int .u8 5, .int .i64 ag, .int .u64 v] 42)))
  have HPC := Lib.hid (show I64 (s.pc + 1) from ⟨by omega, by omega⟩)
  have kw : wrap64 (s.pc + 1) = s.pc + 1 := by unfold wrap64; omega
  have ne1 : g ≠ w.heap.size := by omega
  have ne2 : w.heap.size ≠ g := by omega
  have HPO := Lib.hid (fit_pops hfi)
  have HW := Lib.hid h.stk.2
  have HHW := Lib.hid h.hep.2
  have e1 : popsI 5 = 1 := by decide
  have e2 : 1 ≤ s.stk.length := by have := HPO.out; omega
  obtain ⟨l, a, hl⟩ := snoc_of e2
  have HL := Lib.hid hl
  have ha : W64 a := HW.out a (by rw [hl]; simp)
  have HA := Lib.hid ha
  have hll : l.length ≤ 800 := by rw [hl] at hn; simp at hn; omega
  clear hl ha e1 e2
  have kw1 : wrap64 ag = ag := by unfold wrap64; omega
  obtain ⟨i, rfl⟩ := Int.eq_ofNat_of_zero_le hag.1
  by_cases hi : i < hp.length
  · have d1 : decide ((i : Int) < (hp.length : Int)) = true := decide_eq_true (by omega)
    have d1' : decide (i < hp.length) = true := decide_eq_true hi
    have d2 : (i : Int) < (hp.length : Int) := by omega
    have d3 : (0 : Int) ≤ (i : Int) := by omega
    have HE := Lib.hid (show putF (i : Int) s hp = .ok ({ s with pc := s.pc + 1, stk := l }, hp.set i a) from by unfold putF; rw [if_pos (by omega), HL.out, topI_snoc, List.dropLast_concat]; rfl)
    have HI := Lib.hid hi
    obtain ⟨g3, hA3, _⟩ := row_head h.hep hi
    have HA3 := Lib.hid hA3
    clear h hx hfi hpc hag hi hA3
    go_enter Try.func79, Try.ntmps79
    go_wp2_with (first | (go_at_call 48; first | ((with_reducible refine (need_yes _ _).mono ?_); rintro e w' ⟨rfl, rfl⟩) | ((with_reducible refine (need_no _ _).mono ?_); rintro e w' ⟨rfl, rfl⟩)) | (go_at_call 56; refine (fits_sp ⟨5, (i : Int), v⟩ HO.out (by exact Nat.le_trans hn (by decide)) _ KB.out).mono ?_; rintro e w1 ⟨he, hb, hk⟩; rw [if_pos HFI.out] at he; obtain rfl := he; have B1 := Lib.hid hb; have K1 := Lib.hid hk; have BX1 := Lib.hid (hp_below BX0.out hb); have x0BX1 : w1.cell? ⟨w.heap.size, 0, none⟩ = some (.int .u8 5) := hp_cell BX1.out 0; have x1BX1 : w1.cell? ⟨w.heap.size, 1, none⟩ = some (.int .i64 (i : Int)) := hp_cell BX1.out 1; have x2BX1 : w1.cell? ⟨w.heap.size, 2, none⟩ = some (.int .u64 v) := hp_cell BX1.out 2; have lxBX1 := hp_lt BX1.out; have y1 := K1.out.at.2.1; have y8 := K1.out.at.2.2.2.2.2.2.2.2; have z1 := K1.out.fz 1; have ly1 := K1.out.lt; have KP := Lib.hid (K1.out.setPc (s.pc + 1) HPC.out); clear hb hk; rw [HA3.out] at y8; obtain ⟨g3x, ex, h3c, h3z, h3l⟩ := row_head K1.out.hep HI.out; rw [HA3.out] at ex; simp only [Option.some.injEq, Addr.mk.injEq, and_true, true_and] at ex; subst ex; have h3n : g ≠ g3 := fun e => K1.out.ne3 (by rw [HA3.out]; exact congrArg some e); have h3n' : g3 ≠ g := fun e => h3n e.symm))
    have FP := Lib.hid (show Fr F w (w1.setCell ⟨g, 1, none⟩ (.int .i64 (s.pc + 1))) from (FB.out.trans (((KB.out.fr B1.out).trans (Fr.set _ KB.out.fg _ _)).mono (fun k hk => .inl hk))))
    generalize (w1.setCell ⟨g, 1, none⟩ (.int .i64 (s.pc + 1))) = wP at KP FP ⊢
    have y8P := KP.out.at.2.2.2.2.2.2.2.2
    rw [HA3.out] at y8P
    clear y1 z1 ly1 BX1 x0BX1 x1BX1 x2BX1 lxBX1
    go_region_with (go_at_call 58; refine (pop_sp l a (by exact HL.out) (by exact Nat.le_trans hll (by decide)) _ KP.out.drew).mono ?_; rintro e v2 ⟨rfl, hf2, hk2⟩; have F2 := Lib.hid hf2; have K2 := Lib.hid hk2; have ly2 := K2.out.lt; clear hf2 hk2; have y8K2 := K2.out.at.2.2.2.2.2.2.2.2; rw [HA3.out] at y8K2; obtain ⟨g3K2, ex, h3cK2, h3zK2, h3lK2⟩ := row_head K2.out.hep HI.out; rw [HA3.out] at ex; simp only [Option.some.injEq, Addr.mk.injEq, and_true, true_and] at ex; subst ex; have h3nK2 : g ≠ g3 := fun e => K2.out.ne3 (by rw [HA3.out]; exact congrArg some e); have h3mK2 : g3 ≠ g := fun e => h3nK2 e.symm)
    all_goals
      go_wp2
      go_end0
      refine ⟨FP.out.trans ((((Fr.drew1 _ _).trans F2.out).trans (Fr.set _ (K2.out.f3 g3 (by rw [HA3.out]; rfl)) _ _)).mono (fun k hk => .inl hk)), ?_⟩
      rw [HE.out]
      exact ⟨rfl, _, (K2.out.setH HA3.out HI.out HA.out).less (fun k hk => .inl hk)⟩
  · have d1 : decide ((i : Int) < (hp.length : Int)) = false := decide_eq_false (by omega)
    have d1' : decide (i < hp.length) = false := decide_eq_false hi
    have HE := Lib.hid (show putF (i : Int) s hp = .error 2 from by unfold putF; rw [if_neg (by omega)])
    clear h hx hfi hpc hag hi
    go_enter Try.func79, Try.ntmps79
    go_wp2_with (first | (go_at_call 48; first | ((with_reducible refine (need_yes _ _).mono ?_); rintro e w' ⟨rfl, rfl⟩) | ((with_reducible refine (need_no _ _).mono ?_); rintro e w' ⟨rfl, rfl⟩)) | (go_at_call 56; refine (fits_sp ⟨5, (i : Int), v⟩ HO.out (by exact Nat.le_trans hn (by decide)) _ KB.out).mono ?_; rintro e w1 ⟨he, hb, hk⟩; rw [if_pos HFI.out] at he; obtain rfl := he; have B1 := Lib.hid hb; have K1 := Lib.hid hk; have BX1 := Lib.hid (hp_below BX0.out hb); have x0BX1 : w1.cell? ⟨w.heap.size, 0, none⟩ = some (.int .u8 5) := hp_cell BX1.out 0; have x1BX1 : w1.cell? ⟨w.heap.size, 1, none⟩ = some (.int .i64 (i : Int)) := hp_cell BX1.out 1; have x2BX1 : w1.cell? ⟨w.heap.size, 2, none⟩ = some (.int .u64 v) := hp_cell BX1.out 2; have lxBX1 := hp_lt BX1.out; have y1 := K1.out.at.2.1; have y8 := K1.out.at.2.2.2.2.2.2.2.2; have z1 := K1.out.fz 1; have ly1 := K1.out.lt; have KP := Lib.hid (K1.out.setPc (s.pc + 1) HPC.out); clear hb hk))
    refine ⟨rfl, (FB.out.trans ((KB.out.fr B1.out).mono (fun k hk => .inl hk))), ?_⟩
    rw [HE.out]
end
end Go.Proofs.Ytlgpjcdlomhlcaa
