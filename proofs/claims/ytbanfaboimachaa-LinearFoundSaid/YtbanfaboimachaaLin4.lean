
/-
  linear.asked, linear.Found, linear.Legal: what they come to.
-/
import Derived.Test.YtbanfaboimachaaLin3
import Derived.Test.YtbanfaboimachaaLin5
namespace Go.Proofs.Ytbanfaboimachaa
open Go.RowKit
set_option linter.unusedSimpArgs false
set_option linter.unusedVariables false

theorem drewN_trans {w w1 w2 : World} (h : DrewN w w1) (k : DrewN w1 w2) : DrewN w w2 := by
  obtain ⟨a, rfl⟩ := h
  obtain ⟨b, rfl⟩ := k
  exact ⟨a + b, by rw [World.drewN_drewN]⟩
def NewGood (k size : Int) (w : World) (e : Ending) (w' : World) : Prop := ∃ a, e = .returned (.pointer (some a)) ∧ OAt w.heap.size w' (.pointer (some a)) (stNew k size) ∧ Below w.heap.size w w'
theorem oNewGood (k size : Int) (h : goodB k size = true) (w : World) : Calls Try.prog 14 #[.int .u8 k, .int .i64 size] w (NewGood k size w) := by
  refine (oNewSt k size w).mono fun e w' ⟨x, h1, h2, h3⟩ => ?_
  have hs : ∃ a, x = .pointer (some a) := by
    unfold stNew at h2
    rw [h] at h2
    simp only [cond_true] at h2
    cases q1 : (k == 1)
    · cases q2 : (k == 2)
      · cases q3 : (k == 3)
        · rw [q1, q2, q3] at h2; obtain ⟨p, a, e, _⟩ := h2; exact ⟨_, e⟩
        · rw [q1, q2, q3] at h2; obtain ⟨p, a, e, _⟩ := h2; exact ⟨_, e⟩
      · rw [q1, q2] at h2; obtain ⟨p, a, e, _⟩ := h2; exact ⟨_, e⟩
    · rw [q1] at h2; obtain ⟨p, a, e, _⟩ := h2; exact ⟨_, e⟩
  obtain ⟨a, rfl⟩ := hs
  exact ⟨a, h1, h2, h3⟩
def askF (k size : Int) (l : List Spn) : Int := bif goodB k size && rightL l then 0 else 3
theorem asked_any (k size : Int) (A : Option Addr) (c : Nat) (l : List Spn) (hl : l.length ≤ 1000) (w : World) (H : SpansAt w A l) :
    Calls Try.prog 12 #[.int .u8 k, .int .i64 size, .slice A l.length c] w fun e w' => e = .returned (.int .i64 (askF k size l)) ∧ Below w.heap.size w w' := by
  have HS := Lib.hid H
  clear H
  unfold askF
  cases hg : goodB k size
  · have HG := Lib.hid hg
    go_enter Try.func12, Try.ntmps12
    go_wp2_with (go_at_call 14; refine (oNew0 k size HG.out _).mono ?_; rintro e w1 ⟨rfl, hb⟩; have HB := Lib.hid hb; clear hb)
    go_ret
    exact ⟨by simp, HB.out⟩
  · have HG := Lib.hid hg
    cases hr : rightL l
    all_goals
      go_enter Try.func12, Try.ntmps12
      go_wp2_with (first | (go_at_call 14; refine (oNewGood k size HG.out _).mono ?_; rintro e w1 ⟨a, rfl, ho, hb⟩; have HB := Lib.hid hb; clear hb ho) | (go_at_call 15; refine (right_lin A c l hl _ (spans_below HS.out HB.out)).mono ?_; rintro e w2 ⟨rfl, hb⟩; have HB2 := Lib.hid (HB.out.trans (hb.mono HB.out.size)); clear hb))
      go_ret
      exact ⟨by simp, HB2.out⟩
def FoundPost (k size : Int) (l : List Spn) (w : World) (e : Ending) (w' : World) : Prop := ∃ A' c', e = .returned (.tuple #[.slice A' (foundF k size l (goodB k size && rightL l)).1.length c', .int .i64 (foundF k size l (goodB k size && rightL l)).2]) ∧ (IntsAt okAll w' A' (foundF k size l (goodB k size && rightL l)).1 ∧ (foundF k size l (goodB k size && rightL l)).1.length ≤ c' ∧ (A' = none → c' = 0)) ∧ Below w.heap.size w w'
theorem ints_nil0 (w : World) : IntsAt okAll w none [] := ⟨fun v hv => (List.not_mem_nil hv).elim, .inl ⟨rfl, rfl⟩⟩
theorem found_any (k size : Int) (A : Option Addr) (c : Nat) (l : List Spn) (hl : l.length ≤ 24) (w : World) (H : SpansAt w A l) :
    Calls Try.prog 7 #[.int .u8 k, .int .i64 size, .slice A l.length c] w (FoundPost k size l w) := by
  have HS := Lib.hid H
  clear H
  cases hg : (goodB k size && rightL l)
  · have HA : Hid (askF k size l = 3) := Lib.hid (by unfold askF; rw [hg]; rfl)
    have HF : Hid (foundF k size l (goodB k size && rightL l) = ([], 3)) := Lib.hid (by unfold foundF; rw [hg]; rfl)
    clear hg
    go_enter Try.func7, Try.ntmps7
    go_wp2_with (go_at_call 12; refine (asked_any k size A c l (by omega) _ HS.out).mono ?_; rintro e w1 ⟨he, hb⟩; rw [HA.out] at he; subst he; have HB := Lib.hid hb; clear hb)
    go_ret2
    unfold FoundPost
    rw [HF.out]
    exact ⟨none, 0, rfl, ⟨ints_nil0 _, Nat.le_refl _, fun _ => rfl⟩, HB.out⟩
  · have HA : Hid (askF k size l = 0) := Lib.hid (by unfold askF; rw [hg]; rfl)
    have HG : Hid (goodB k size = true) := Lib.hid (by rw [Bool.and_eq_true] at hg; exact hg.1)
    cases h6 : decide (6 < l.length)
    · have h6' : decide (6 < (l.length : Int)) = false := decide_eq_false (by have := of_decide_eq_false h6; omega)
      obtain ⟨r, hr⟩ : ∃ r, searchF l (left l []) (stNew k size) [] = r := ⟨_, rfl⟩
      have HSR := Lib.hid hr
      have HL := Lib.hid (cnt_le (fun n => !hasB [] ((n : Nat) : Int)) l.length)
      have HF : Hid (foundF k size l (goodB k size && rightL l) = resF r) := Lib.hid (by unfold foundF; rw [hg, h6, hr]; rfl)
      clear hg hr
      cases r with
      | none =>
        go_enter Try.func7, Try.ntmps7
        go_wp2_with (first | (go_at_call 12; refine (asked_any k size A c l (by omega) _ HS.out).mono ?_; rintro e w1 ⟨he, hb⟩; rw [HA.out] at he; subst he; have HB := Lib.hid hb; clear hb) | (go_at_call 14; refine (oNewGood k size HG.out _).mono ?_; rintro e w2 ⟨a, rfl, ho, hb⟩; have O2 := Lib.hid ho; have B2 := Lib.hid (HB.out.trans (hb.mono HB.out.size)); clear hb ho) | (go_at_call 13; refine (search_any l A c hl (left l [] + 1) (left l []) _ (stNew k size) w1.heap.size [] none 0 w2 O2.out (spans_below HS.out B2.out) (ints_nil0 _) (Nat.le_refl _) (fun _ => rfl) (by have := HL.out; unfold left; simp; omega) (Nat.le_refl _) (by omega)).mono ?_; rintro e w3 ⟨hres, hb⟩; rw [HSR.out] at hres; obtain rfl := hres; have B3 := Lib.hid (B2.out.trans (hb.mono B2.out.size)); clear hb))
        go_ret2
        unfold FoundPost
        rw [HF.out]
        exact ⟨none, 0, rfl, ⟨ints_nil0 _, Nat.le_refl _, fun _ => rfl⟩, B3.out⟩
      | some r =>
        go_enter Try.func7, Try.ntmps7
        go_wp2_with (first | (go_at_call 12; refine (asked_any k size A c l (by omega) _ HS.out).mono ?_; rintro e w1 ⟨he, hb⟩; rw [HA.out] at he; subst he; have HB := Lib.hid hb; clear hb) | (go_at_call 14; refine (oNewGood k size HG.out _).mono ?_; rintro e w2 ⟨a, rfl, ho, hb⟩; have O2 := Lib.hid ho; have B2 := Lib.hid (HB.out.trans (hb.mono HB.out.size)); clear hb ho) | (go_at_call 13; refine (search_any l A c hl (left l [] + 1) (left l []) _ (stNew k size) w1.heap.size [] none 0 w2 O2.out (spans_below HS.out B2.out) (ints_nil0 _) (Nat.le_refl _) (fun _ => rfl) (by have := HL.out; unfold left; simp; omega) (Nat.le_refl _) (by omega)).mono ?_; rintro e w3 ⟨hres, hb⟩; rw [HSR.out] at hres; obtain ⟨A7, c7, rfl, hk7⟩ := hres; have K7 := Lib.hid hk7; have B3 := Lib.hid (B2.out.trans (hb.mono B2.out.size)); clear hb hk7))
        go_ret2
        unfold FoundPost
        rw [HF.out]
        exact ⟨A7, c7, rfl, K7.out, B3.out⟩
    · have h6' : decide (6 < (l.length : Int)) = true := decide_eq_true (by have := of_decide_eq_true h6; omega)
      have HF : Hid (foundF k size l (goodB k size && rightL l) = ([], 4)) := Lib.hid (by unfold foundF; rw [hg, h6]; rfl)
      clear hg
      go_enter Try.func7, Try.ntmps7
      go_wp2_with (go_at_call 12; refine (asked_any k size A c l (by omega) _ HS.out).mono ?_; rintro e w1 ⟨he, hb⟩; rw [HA.out] at he; subst he; have HB := Lib.hid hb; clear hb)
      go_ret2
      unfold FoundPost
      rw [HF.out]
      exact ⟨none, 0, rfl, ⟨ints_nil0 _, Nat.le_refl _, fun _ => rfl⟩, HB.out⟩
/-- Behind the order's i-th place nothing has ended ahead of it. -/
theorem later_any (l : List Spn) (A : Option Addr) (c : Nat) (hl : l.length ≤ 24) (m n : Nat) (hm : m < l.length) (hn : n < l.length) (g1 g2 : Nat) (w : World) (H : SpansAt w A l) (h1 : w.cell? ⟨g1, 0, none⟩ = some (.slice A l.length c)) (h2 : w.cell? ⟨g2, 0, none⟩ = some (.int .i64 n)) :
    Calls Try.prog 19 #[.int .i64 m, .pointer (some ⟨g1, 0, none⟩), .pointer (some ⟨g2, 0, none⟩)] w fun e w' => e = .returned (.bool (bef (sp l m) (sp l n))) ∧ DrewN w w' := by
  have HB := Lib.hid (bef_any l A c m n hm hn (by omega) w H)
  clear H
  go_enter Try.func19, Try.ntmps19
  go_wp2_with (go_at_call 16; refine HB.out.mono ?_; rintro e w' ⟨rfl, hd⟩; have HD := Lib.hid hd; clear hd)
  go_ret
  exact ⟨rfl, HD.out⟩
def NoLater (l : List Spn) (s : List Int) (n : Nat) : Prop := ∀ i, i < s.length → ∃ m : Nat, s[i]? = some (m : Int) ∧ m < l.length ∧ bef (sp l m) (sp l n) = false
def NoFind (w : World) (e : Ending) (w' : World) : Prop := e = .returned (.int .i64 (-1)) ∧ DrewN w w'
theorem findLater (l : List Spn) (A : Option Addr) (c : Nat) (hl : l.length ≤ 24) (n : Nat) (hn : n < l.length) (g1 g2 : Nat) (s : List Int) (A2 : Option Addr) (c2 : Nat) (hs : s.length ≤ 24) (hN : NoLater l s n) (w : World) (H : SpansAt w A l) (HI : IntsAt okAll w A2 s) (h1 : w.cell? ⟨g1, 0, none⟩ = some (.slice A l.length c)) (h2 : w.cell? ⟨g2, 0, none⟩ = some (.int .i64 n)) :
    Calls Try.prog 33 #[.slice A2 s.length c2, .func (.func 19) #[] #[.pointer (some ⟨g1, 0, none⟩), .pointer (some ⟨g2, 0, none⟩)]] w (NoFind w) := by
  have HS := Lib.hid H
  have HI0 := Lib.hid HI
  have HN0 := Lib.hid hN
  have H1 := Lib.hid h1
  have H2 := Lib.hid h2
  clear H HI hN h1 h2
  go_enter Try.func33, Try.ntmps33
  go_wp2
  go_loopw [8] (fun i wr => ∃ j : Nat, j ≤ s.length ∧ i = .int .i64 j ∧ Hid (DrewN w wr)) (fun i _ => s.length - (intOf i).toNat)
  case atStart => exact ⟨0, by omega, rfl, Lib.hid (DrewN.refl _)⟩
  case round =>
    obtain ⟨j, hj, rfl, HD⟩ := hrel
    by_cases hlt : j < s.length
    · obtain ⟨m, hm1, hm2, hm3⟩ := HN0.out j hlt
      obtain ⟨nq, hnq⟩ := HD.out
      have S1 := Lib.hid (show SpansAt wr A l by rw [hnq]; exact spans_below HS.out (bl_drewN (Below.refl _ _) nq))
      have I1 := Lib.hid (show IntsAt okAll wr A2 s by rw [hnq]; exact ints_below HI0.out (bl_drewN (Below.refl _ _) nq))
      have K1 := Lib.hid (show wr.cell? ⟨g1, 0, none⟩ = some (.slice A l.length c) by rw [hnq]; exact H1.out)
      have K2 := Lib.hid (show wr.cell? ⟨g2, 0, none⟩ = some (.int .i64 n) by rw [hnq]; exact H2.out)
      clear hnq
      obtain ⟨ad, rfl, hc⟩ := ints_at I1.out hlt
      have hmv : nthI s j = (m : Int) := by unfold nthI; rw [hm1]; rfl
      rw [hmv] at hc
      have t1 : decide (j < s.length) = true := decide_eq_true hlt
      have t1' : decide ((j : Int) < (s.length : Int)) = true := decide_eq_true (by omega)
      have t3 : (j : Int) < (s.length : Int) := by omega
      have t4 : (0 : Int) ≤ (j : Int) := by omega
      have HL := Lib.hid (later_any l A c hl m n hm2 hn g1 g2 wr S1.out K1.out K2.out)
      clear hmv hm1
      go_wp2_with (go_at_call 19; refine HL.out.mono ?_; rintro e w' ⟨rfl, hd⟩; have HD2 := Lib.hid hd; clear hd)
      go_roundw
      case rel => exact ⟨j + 1, by omega, by go_num, Lib.hid (drewN_trans HD.out HD2.out)⟩
      case measure => simp [intOf]; omega
    · have t1 : decide (j < s.length) = false := decide_eq_false hlt
      go_wp2
      go_ret
      exact ⟨rfl, HD.out⟩
end Go.Proofs.Ytbanfaboimachaa
