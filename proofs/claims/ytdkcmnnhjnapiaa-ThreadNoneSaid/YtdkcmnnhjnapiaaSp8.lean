
/-
  spec: plain, whole; Step's closure.
-/
import Derived.Test.YtdkcmnnhjnapiaaSp3c
import Derived.Test.YtdkcmnnhjnapiaaSp4
import Derived.Test.YtdkcmnnhjnapiaaSp6
import Derived.Deep.RegionWith
import Derived.Deep.RegionHeld3
namespace Go.Proofs.Ytdkcmnnhjnapiaa
open Go.RowKit Go.ChangeShapes Go.WideShapes
set_option linter.unusedSimpArgs false
set_option linter.unusedVariables false

theorem right_parts {x : Ins3} (h : rightI x = true) : x.op < 29 ∧ 0 ≤ x.arg ∧ x.arg < limI x.op := by
  unfold rightI at h
  simp only [Bool.and_eq_true, decide_eq_true_eq] at h
  omega
theorem plain_ops {o : Int} (h0 : 0 ≤ o) (h1 : o < 29) (hs : specI o = false) : o = 0 ∨ o = 1 ∨ o = 2 ∨ o = 3 ∨ o = 8 ∨ o = 9 ∨ o = 10 ∨ o = 11 ∨ o = 12 ∨ o = 13 ∨ o = 14 ∨ o = 15 ∨ o = 16 ∨ o = 17 ∨ o = 18 ∨ o = 19 ∨ o = 20 ∨ o = 27 := by
  unfold specI varI at hs
  simp only [Bool.or_eq_false_iff, Bool.and_eq_false_iff, decide_eq_false_iff_not, beq_eq_false_iff_ne] at hs
  omega
section
variable {F : Nat → Prop} {w : World} {g : Nat} {T : TypeId} {X : List Value} {I : Value} {s : St} {hp : List Int} {p : Pl}
set_option maxRecDepth 20000 in
set_option maxHeartbeats 4000000 in
theorem plain_no1 (o ag v : Int) (hs : specI o = true) (w : World) (h : WK F w g T X I s hp p) :
    Calls Try.prog 44 #[.pointer (some ⟨g, 0, none⟩), .agg #[.int .u8 o, .int .i64 ag, .int .u64 v]] w fun e w' => e = .panicked (stopP 3) ∧ Fr F w w' := by
  have HS := Lib.hid hs
  have FB := Lib.hid (h.fr ((Below.refl _ _).alloc (Nat.le_refl _) (.cells #[.int .u8 o, .int .i64 ag, .int .u64 v] 53)))
  clear h hs
  go_enter Try.func44, Try.ntmps44
  go_wp2_with (first | (go_at_call 52; refine (special_any _ _).mono ?_; rintro e w' ⟨rfl, rfl⟩; rw [HS.out]) | (go_at_call 51; first | ((with_reducible refine (need_yes _ _).mono ?_); rintro e w' ⟨rfl, rfl⟩) | ((with_reducible refine (need_no _ _).mono ?_); rintro e w' ⟨rfl, rfl⟩)))
  exact ⟨rfl, rfl, FB.out⟩
set_option maxRecDepth 20000 in
set_option maxHeartbeats 4000000 in
theorem plain_no2 (o ag v : Int) (hx : Ins3.ok ⟨o, ag, v⟩) (hs : specI o = false) (hfi : fitI o s.stk.length = false) (hn : s.stk.length ≤ 800) (w : World) (h : WK F w g T X I s hp p) :
    Calls Try.prog 44 #[.pointer (some ⟨g, 0, none⟩), .agg #[.int .u8 o, .int .i64 ag, .int .u64 v]] w fun e w' => e = .panicked (stopP 12) ∧ Fr F w w' := by
  have HS := Lib.hid hs
  have HO := Lib.hid hx
  have HFI := Lib.hid hfi
  have KB := Lib.hid (h.alloc (.cells #[.int .u8 o, .int .i64 ag, .int .u64 v] 53))
  have FB := Lib.hid (h.fr ((Below.refl _ _).alloc (Nat.le_refl _) (.cells #[.int .u8 o, .int .i64 ag, .int .u64 v] 53)))
  clear h hs hfi hx
  go_enter Try.func44, Try.ntmps44
  go_wp2_with (first | (go_at_call 52; refine (special_any _ _).mono ?_; rintro e w' ⟨rfl, rfl⟩; rw [HS.out]) | (go_at_call 51; first | ((with_reducible refine (need_yes _ _).mono ?_); rintro e w' ⟨rfl, rfl⟩) | ((with_reducible refine (need_no _ _).mono ?_); rintro e w' ⟨rfl, rfl⟩)) | (go_at_call 53; refine (fits_sp ⟨o, ag, v⟩ HO.out (by exact Nat.le_trans hn (by decide)) _ KB.out).mono ?_; rintro e w1 ⟨he, hb, hk⟩; rw [if_neg (by rw [HFI.out]; decide)] at he; obtain rfl := he; have F1 := Lib.hid (KB.out.fr hb); clear hb hk))
  exact ⟨rfl, rfl, FB.out.trans F1.out⟩
/-- What an instruction does that needs no variables. -/
theorem plain_sp (n c : Nat) (A : Option Addr) (x : Ins3) (hx : x.ok) (hr : rightI x = true) (hpc : 0 ≤ s.pc ∧ s.pc < 1000) (hn : s.stk.length ≤ 800) (hro : s.out.length ≤ 800) (w : World) (h : WK F w g T X (.slice A n c) s hp p) :
    Calls Try.prog 44 #[.pointer (some ⟨g, 0, none⟩), inV x] w (WRes F w g T X (.slice A n c) ((plainF n x s).map (fun t => (t, hp)))) := by
  obtain ⟨r1, r2, r3⟩ := right_parts hr
  clear hr
  obtain ⟨o, ag, v⟩ := x
  unfold inV plainF
  dsimp only at *
  cases hs : specI o
  · cases hfi : fitI o s.stk.length
    · refine (plain_no2 o ag v hx hs hfi hn w h).mono ?_
      rintro e w' ⟨rfl, hf⟩
      exact ⟨hf, rfl⟩
    · have ho := plain_ops hx.1.1 r1 hs
      rcases ho with rfl | rfl | rfl | rfl | rfl | rfl | rfl | rfl | rfl | rfl | rfl | rfl | rfl | rfl | rfl | rfl | rfl | rfl
      · exact plain_0 n c A ag v hx hfi hpc hn w h
      · exact plain_1 n c A ag v hx hfi hpc hn w h
      · exact plain_2 n c A ag v hx hfi hpc hn ⟨r2, r3⟩ w h
      · exact plain_3 n c A ag v hx hfi hpc hn ⟨r2, r3⟩ w h
      · exact plain_8 n c A ag v hx hfi hpc hn w h
      · exact plain_9 n c A ag v hx hfi hpc hn w h
      · exact plain_10 n c A ag v hx hfi hpc hn w h
      · exact plain_11 n c A ag v hx hfi hpc hn w h
      · exact plain_12 n c A ag v hx hfi hpc hn w h
      · exact plain_13 n c A ag v hx hfi hpc hn w h
      · exact plain_14 n c A ag v hx hfi hpc hn w h
      · exact plain_15 n c A ag v hx hfi hpc hn w h
      · exact plain_16 n c A ag v hx hfi hpc hn w h
      · exact plain_17 n c A ag v hx hfi hpc hn w h
      · exact plain_18 n c A ag v hx hfi hpc hn w h
      · exact plain_19 n c A ag v hx hfi hpc hn w h
      · exact plain_20 n c A ag v hx hfi hpc hn w h
      · exact plain_27 n c A ag v hx hfi hpc hn hro w h
  · refine (plain_no1 o ag v hs w h).mono ?_
    rintro e w' ⟨rfl, hf⟩
    exact ⟨hf, rfl⟩
def stepF (l : List Ins3) (s : St) : Except Int St := if hereB l s.pc then plainF l.length (xn l s.pc.toNat) s else .error 3
theorem here_pc {l : List Ins3} {pc : Int} (h : hereB l pc = true) : 0 ≤ pc ∧ pc < l.length ∧ rightI (xn l pc.toNat) = true := by
  unfold hereB at h
  simp only [Bool.and_eq_true, decide_eq_true_eq] at h
  exact ⟨h.1.1, h.1.2, h.2⟩
theorem ins_ok {w : World} {A : Option Addr} {l : List Ins3} (h : InssAt w A l) {j : Nat} (hj : j < l.length) : (xn l j).ok := by
  obtain ⟨ad, _, h⟩ := xn_at h hj
  exact h.1
set_option maxRecDepth 20000 in
set_option maxHeartbeats 8000000 in
theorem step1_sp (gp : Nat) (c : Nat) (A : Option Addr) (l : List Ins3) (hlc : l.length ≤ c) (hll : l.length ≤ 900) (hn : s.stk.length ≤ 800) (hro : s.out.length ≤ 800) (w : World) (h : WK F w g T X (.slice A l.length c) s hp p) (hi : InsF F w A l) (hg : w.heap[gp]? = some (.cells #[.pointer (some ⟨g, 0, none⟩)] 91 (0, 0))) (hgF : F gp) :
    Calls Try.prog 43 #[.pointer (some ⟨gp, 0, none⟩)] w (TryPost F w ((stepF l s).map (fun t => (t, hp))) (fun q w' => ∃ p', WK F w' g T X (.slice A l.length c) q.1 q.2 p')) := by
  have HX := Lib.hid h.drew
  have HF := Lib.hid (show Fr F w w.drew from Fr.drew1 _ _)
  have HC := Lib.hid (here_sp A c l hlc w.drew h.drew (inss_below hi.1 ⟨rfl, rfl, rfl, Nat.le_refl _, fun _ _ => rfl⟩))
  have HG := Lib.hid (show w.drew.heap[gp]? = _ from hg)
  have g0 : w.cell? ⟨gp, 0, none⟩ = some (.pointer (some ⟨g, 0, none⟩)) := hp_cell hg 0
  unfold stepF
  cases hh : hereB l s.pc
  · rw [hh] at HC
    clear hi hg h
    go_enter Try.func43, Try.ntmps43
    refine wp_region_held_drew (S := (fun w' => w'.cell? ⟨gp, 0, none⟩ = some (.pointer (some ⟨g, 0, none⟩)))) (by kernel_rfl) (by exact g0) (fun hHeld => ?_)
    refine wpAnyH_take (i := 0) (v := .pointer (some ⟨g, 0, none⟩)) rfl (by kernel_rfl) (by kernel_rfl) (by kernel_rfl) (fun _ _ _ h => h) (Or.inl ⟨by rfl, ?_⟩) (by assumption) ?_
    · intro w hSw
      (try dsimp only at hSw)
      go_simp
    try simp only [Act.put, List.setIfInBounds_toArray, List.set_cons_zero, List.set_cons_succ]
    refine wpAnyH_take (i := 1) (v := .pointer (some ⟨g, 0, none⟩)) rfl (by kernel_rfl) (by kernel_rfl) (by kernel_rfl) (fun _ _ _ h => h) (Or.inl ⟨by rfl, ?_⟩) (by assumption) ?_
    · intro w hSw
      (try dsimp only at hSw)
      go_simp
    try simp only [Act.put, List.setIfInBounds_toArray, List.set_cons_zero, List.set_cons_succ]
    refine wpAnyH_ready (rs := [2]) (by kernel_rfl) (by simp) ?_
    refine AllReadyH.cons rfl (fun K hK => ?_) AllReadyH.nil
    go_simp
    go_at_call 45
    refine (HC.out).mono ?_
    rintro e w1 ⟨rfl, hb⟩
    have F1 := Lib.hid (HX.out.fr hb)
    have K1 := Lib.hid (HX.out.below hb)
    have g1 : w1.cell? ⟨gp, 0, none⟩ = some (.pointer (some ⟨g, 0, none⟩)) := hp_cell (hp_below HG.out hb) 0
    clear hb
    exact ⟨rfl, HF.out.trans F1.out, rfl⟩
  · obtain ⟨q1, q2, q3⟩ := here_pc hh
    rw [hh] at HC
    have hok := ins_ok hi.1 (j := s.pc.toNat) (by omega)
    generalize xn l s.pc.toNat = x at *
    have HP := Lib.hid (fun w1 (h1 : WK F w1 g T X (.slice A l.length c) s hp p) => plain_sp l.length c A x hok q3 ⟨q1, by omega⟩ hn hro w1 h1)
    have hE : hereE true x = .returned (inV x) := rfl
    rw [hE] at HC
    rw [if_pos rfl]
    clear hi hg h hE
    cases hr : plainF l.length x s with
    | error n =>
      rw [hr] at HP
      have HP' := Lib.hid (fun w1 (h1 : WK F w1 g T X (.slice A l.length c) s hp p) => show Calls Try.prog 44 #[.pointer (some ⟨g, 0, none⟩), inV x] w1 (fun e w' => Fr F w1 w' ∧ e = .panicked (stopP n)) from HP.out w1 h1)
      clear HP hr hh hok q1 q2 q3
      go_enter Try.func43, Try.ntmps43
      refine wp_region_held_drew (S := (fun w' => w'.cell? ⟨gp, 0, none⟩ = some (.pointer (some ⟨g, 0, none⟩)))) (by kernel_rfl) (by exact g0) (fun hHeld => ?_)
      refine wpAnyH_take (i := 0) (v := .pointer (some ⟨g, 0, none⟩)) rfl (by kernel_rfl) (by kernel_rfl) (by kernel_rfl) (fun _ _ _ h => h) (Or.inl ⟨by rfl, ?_⟩) (by assumption) ?_
      · intro w hSw
        (try dsimp only at hSw)
        go_simp
      try simp only [Act.put, List.setIfInBounds_toArray, List.set_cons_zero, List.set_cons_succ]
      refine wpAnyH_take (i := 1) (v := .pointer (some ⟨g, 0, none⟩)) rfl (by kernel_rfl) (by kernel_rfl) (by kernel_rfl) (fun _ _ _ h => h) (Or.inl ⟨by rfl, ?_⟩) (by assumption) ?_
      · intro w hSw
        (try dsimp only at hSw)
        go_simp
      try simp only [Act.put, List.setIfInBounds_toArray, List.set_cons_zero, List.set_cons_succ]
      refine wpAnyH_ready (rs := [2]) (by kernel_rfl) (by simp) ?_
      refine AllReadyH.cons rfl (fun K hK => ?_) AllReadyH.nil
      go_simp
      go_at_call 45
      refine (HC.out).mono ?_
      rintro e w1 ⟨rfl, hb⟩
      have F1 := Lib.hid (HX.out.fr hb)
      have K1 := Lib.hid (HX.out.below hb)
      have g1 : w1.cell? ⟨gp, 0, none⟩ = some (.pointer (some ⟨g, 0, none⟩)) := hp_cell (hp_below HG.out hb) 0
      clear hb
      refine hK.out _ _ (by exact g1) (fun hHeld => ?_)
      clear hK K
      try simp only [Act.put, List.setIfInBounds_toArray, List.set_cons_zero, List.set_cons_succ]
      refine wpAnyH_ready (rs := [3]) (by kernel_rfl) (by simp) ?_
      refine AllReadyH.cons rfl (fun K hK => ?_) AllReadyH.nil
      go_simp
      go_at_call 44
      refine (HP'.out _ K1.out).mono ?_
      rintro e w2 ⟨hf2, rfl⟩
      exact ⟨rfl, (HF.out.trans F1.out).trans hf2, rfl⟩
    | ok t =>
      rw [hr] at HP
      have HP' := Lib.hid (fun w1 (h1 : WK F w1 g T X (.slice A l.length c) s hp p) => show Calls Try.prog 44 #[.pointer (some ⟨g, 0, none⟩), inV x] w1 (fun e w' => Fr F w1 w' ∧ e = .returned (.tuple #[]) ∧ ∃ p', WK F w' g T X (.slice A l.length c) t hp p') from HP.out w1 h1)
      clear HP hr hh hok q1 q2 q3
      go_enter Try.func43, Try.ntmps43
      refine wp_region_held_drew (S := (fun w' => w'.cell? ⟨gp, 0, none⟩ = some (.pointer (some ⟨g, 0, none⟩)))) (by kernel_rfl) (by exact g0) (fun hHeld => ?_)
      refine wpAnyH_take (i := 0) (v := .pointer (some ⟨g, 0, none⟩)) rfl (by kernel_rfl) (by kernel_rfl) (by kernel_rfl) (fun _ _ _ h => h) (Or.inl ⟨by rfl, ?_⟩) (by assumption) ?_
      · intro w hSw
        (try dsimp only at hSw)
        go_simp
      try simp only [Act.put, List.setIfInBounds_toArray, List.set_cons_zero, List.set_cons_succ]
      refine wpAnyH_take (i := 1) (v := .pointer (some ⟨g, 0, none⟩)) rfl (by kernel_rfl) (by kernel_rfl) (by kernel_rfl) (fun _ _ _ h => h) (Or.inl ⟨by rfl, ?_⟩) (by assumption) ?_
      · intro w hSw
        (try dsimp only at hSw)
        go_simp
      try simp only [Act.put, List.setIfInBounds_toArray, List.set_cons_zero, List.set_cons_succ]
      refine wpAnyH_ready (rs := [2]) (by kernel_rfl) (by simp) ?_
      refine AllReadyH.cons rfl (fun K hK => ?_) AllReadyH.nil
      go_simp
      go_at_call 45
      refine (HC.out).mono ?_
      rintro e w1 ⟨rfl, hb⟩
      have F1 := Lib.hid (HX.out.fr hb)
      have K1 := Lib.hid (HX.out.below hb)
      have g1 : w1.cell? ⟨gp, 0, none⟩ = some (.pointer (some ⟨g, 0, none⟩)) := hp_cell (hp_below HG.out hb) 0
      clear hb
      refine hK.out _ _ (by exact g1) (fun hHeld => ?_)
      clear hK K
      try simp only [Act.put, List.setIfInBounds_toArray, List.set_cons_zero, List.set_cons_succ]
      refine wpAnyH_ready (rs := [3]) (by kernel_rfl) (by simp) ?_
      refine AllReadyH.cons rfl (fun K hK => ?_) AllReadyH.nil
      go_simp
      go_at_call 44
      refine (HP'.out _ K1.out).mono ?_
      rintro e w2 ⟨hf2, rfl, hk2⟩
      have F2 := Lib.hid hf2
      have K2 := Lib.hid hk2
      refine hK.out _ _ (by exact hp_cell (hf2.hp (F1.out.hp HG.out hgF) hgF) 0) (fun hHeld => ?_)
      clear hK K hf2 hk2
      try simp only [Act.put, List.setIfInBounds_toArray, List.set_cons_zero, List.set_cons_succ]
      refine wpAnyH_done (by kernel_rfl) ?_ _
      go_wp2
      go_end0
      exact ⟨(HF.out.trans F1.out).trans F2.out, rfl, K2.out⟩
end
end Go.Proofs.Ytdkcmnnhjnapiaa
