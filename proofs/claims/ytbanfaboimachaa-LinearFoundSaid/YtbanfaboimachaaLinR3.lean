
/-
  The reference's small functions of layer 21: in, whole, Before, Right; SameInts.
-/
import Derived.Test.YtbanfaboimachaaLin4
namespace Go.Proofs.Ytbanfaboimachaa
open Go.RowKit
set_option linter.unusedSimpArgs false
set_option linter.unusedVariables false
variable {ok : Nat → Prop}

theorem in_any (A : Option Addr) (c : Nat) (l : List Int) (v : Int) (hl : l.length ≤ 1000) (w : World) (H : IntsAt ok w A l) :
    Calls Try.prog 35 #[.slice A l.length c, .int .i64 v] w fun e w' => e = .returned (.bool (hasB l v)) ∧ w = w' := by
  have HH := Lib.hid H
  clear H
  go_enter Try.func35, Try.ntmps35
  go_wp2
  go_loop [5] (fun i => ∃ j : Nat, j ≤ l.length ∧ i = .int .i64 j ∧ Hid (∀ i, i < j → nthI l i ≠ v)) (fun i => l.length - (intOf i).toNat)
  case atStart => exact ⟨0, by omega, rfl, Lib.hid (fun i hi => absurd hi (Nat.not_lt_zero _))⟩
  case round =>
    obtain ⟨j, hj, rfl, HN⟩ := hrel
    by_cases hlt : j < l.length
    · obtain ⟨ad, rfl, hc⟩ := ints_at HH.out hlt
      have t1 : decide (j < l.length) = true := decide_eq_true hlt
      have t1' : decide ((j : Int) < (l.length : Int)) = true := decide_eq_true (by omega)
      have t3 : (j : Int) < (l.length : Int) := by omega
      have t4 : (0 : Int) ≤ (j : Int) := by omega
      by_cases hv : nthI l j = v
      · have HC := Lib.hid (contains_at hlt hv)
        have hq : (nthI l j == v) = true := by rw [hv]; exact beq_self_eq_true v
        clear hv
        go_wp2
        go_ret
        exact ⟨by rw [HC.out]; rfl, rfl⟩
      · have hq : (nthI l j == v) = false := by
          cases h : (nthI l j == v)
          · rfl
          · exact absurd (eq_of_beq h) hv
        have HV := Lib.hid hv
        clear hv
        go_wp2
        go_round
        case rel => exact ⟨j + 1, by omega, by go_num, Lib.hid (fun i hi => by
          by_cases e : i = j
          · rw [e]; exact HV.out
          · exact HN.out i (by omega))⟩
        case measure => simp [intOf]; omega
    · have t1 : decide (j < l.length) = false := decide_eq_false hlt
      have HC := Lib.hid (contains_none (l := l) (v := v) (fun i hi => HN.out i (by omega)))
      go_wp2
      go_ret
      exact ⟨by rw [HC.out]; rfl, rfl⟩
theorem rbef_any (l : List Spn) (A : Option Addr) (c : Nat) (a b : Nat) (ha : a < l.length) (hb : b < l.length) (hl : l.length ≤ 1000) (w : World) (H : SpansAt w A l) :
    Calls Try.prog 36 #[.slice A l.length c, .int .i64 a, .int .i64 b] w fun e w' => e = .returned (.bool (bef (sp l a) (sp l b))) ∧ DrewN w w' := by
  obtain ⟨ad, rfl, ha1⟩ := sp_at H ha
  obtain ⟨ad', e, hb1⟩ := sp_at H hb
  obtain rfl := Option.some.inj e
  unfold bef
  generalize sp l a = x at *
  generalize sp l b = y at *
  obtain ⟨_, _, _, _, _, _, a5⟩ := ha1
  obtain ⟨_, _, _, _, _, b4, _⟩ := hb1
  have t1 : decide ((a : Int) < 0) = false := decide_eq_false (by omega)
  have t2 : decide ((b : Int) < 0) = false := decide_eq_false (by omega)
  have t3 : decide ((l.length : Int) ≤ (a : Int)) = false := decide_eq_false (by omega)
  have t4 : decide ((l.length : Int) ≤ (b : Int)) = false := decide_eq_false (by omega)
  have t3' : decide (l.length ≤ a) = false := decide_eq_false (by omega)
  have t4' : decide (l.length ≤ b) = false := decide_eq_false (by omega)
  have t5 : (a : Int) < (l.length : Int) := by omega
  have t6 : (b : Int) < (l.length : Int) := by omega
  have t7 : (0 : Int) ≤ (a : Int) := by omega
  have t8 : (0 : Int) ≤ (b : Int) := by omega
  clear H
  cases hx : (x.en != -1)
  all_goals
    go_enter Try.func36, Try.ntmps36
    go_wp2
    go_quiet (fail)
    go_wp2
    go_ret
    exact ⟨by simp, ⟨_, rfl⟩⟩
theorem whole_lin (A : Option Addr) (c : Nat) (l : List Spn) (A2 : Option Addr) (c2 : Nat) (o : List Int) (hl : l.length ≤ 1000) (ho : o.length ≤ 1000) (w : World) (H : SpansAt w A l) (H2 : IntsAt okAll w A2 o) :
    Calls Try.prog 24 #[.slice A l.length c, .slice A2 o.length c2] w fun e w' => e = .returned (.bool (restB l o)) ∧ w = w' := by
  have HS := Lib.hid H
  have HO := Lib.hid H2
  clear H H2
  go_enter Try.func24, Try.ntmps24
  go_wp2
  go_loop [5] (fun i => ∃ j : Nat, j ≤ l.length ∧ i = .int .i64 j ∧ Hid (∀ i, i < j → restAt l o i = true)) (fun i => l.length - (intOf i).toNat)
  case atStart => exact ⟨0, by omega, rfl, Lib.hid (fun i hi => absurd hi (Nat.not_lt_zero _))⟩
  case round =>
    obtain ⟨j, hj, rfl, HN⟩ := hrel
    by_cases hlt : j < l.length
    · obtain ⟨ad, rfl, _, _, _, _, _, _, a5⟩ := sp_at HS.out hlt
      have t1 : decide (j < l.length) = true := decide_eq_true hlt
      have t1' : decide ((j : Int) < (l.length : Int)) = true := decide_eq_true (by omega)
      have t3 : (j : Int) < (l.length : Int) := by omega
      have t4 : (0 : Int) ≤ (j : Int) := by omega
      have HR : Hid (restAt l o j = !((sp l j).en != -1 && !hasB o (j : Int))) := Lib.hid rfl
      have HST := Lib.hid (fun (h : restAt l o j = true) (i : Nat) (hi : i < j + 1) => show restAt l o i = true from by
        by_cases e : i = j
        · rw [e]; exact h
        · exact HN.out i (by omega))
      cases hx : ((sp l j).en != -1)
      · have HR1 : Hid (restAt l o j = true) := Lib.hid (by rw [HR.out, hx]; rfl)
        clear HR
        go_wp2
        go_round
        case rel => exact ⟨j + 1, by omega, by go_num, Lib.hid (HST.out HR1.out)⟩
        case measure => simp [intOf]; omega
      · cases hy : hasB o (j : Int)
        · have HR1 : Hid (restAt l o j = false) := Lib.hid (by rw [HR.out, hx, hy]; rfl)
          clear HR
          go_wp2_with (go_at_call 35; refine (in_any A2 c2 o (j : Int) ho _ HO.out).mono ?_; rintro e w' ⟨rfl, rfl⟩)
          go_ret
          exact ⟨by rw [show restB l o = false from allB_false hlt HR1.out]; rfl, rfl⟩
        · have HR1 : Hid (restAt l o j = true) := Lib.hid (by rw [HR.out, hx, hy]; rfl)
          clear HR
          go_wp2_with (go_at_call 35; refine (in_any A2 c2 o (j : Int) ho _ HO.out).mono ?_; rintro e w' ⟨rfl, rfl⟩)
          go_round
          case rel => exact ⟨j + 1, by omega, by go_num, Lib.hid (HST.out HR1.out)⟩
          case measure => simp [intOf]; omega
    · have t1 : decide (j < l.length) = false := decide_eq_false hlt
      have HC : Hid (restB l o = true) := Lib.hid (allB_iff.mpr (fun i hi => HN.out i (by omega)))
      go_wp2
      go_ret
      exact ⟨by rw [HC.out]; rfl, rfl⟩
theorem rright_lin (A : Option Addr) (c : Nat) (l : List Spn) (hl : l.length ≤ 1000) (w : World) (H : SpansAt w A l) :
    Calls Try.prog 23 #[.slice A l.length c] w fun e w' => e = .returned (.bool (rightL l)) ∧ DrewN w w' := by
  have HS := Lib.hid H
  clear H
  unfold rightL
  cases h1 : decide (l.length ≤ 24)
  · have h1' : decide (24 < (l.length : Int)) = true := decide_eq_true (by have := of_decide_eq_false h1; omega)
    have h1'' : decide (24 < l.length) = true := decide_eq_true (by have := of_decide_eq_false h1; omega)
    go_enter Try.func23, Try.ntmps23
    go_wp2_with fail
    go_ret
    exact ⟨by simp, DrewN.refl _⟩
  · have h1' : decide (24 < (l.length : Int)) = false := decide_eq_false (by have := of_decide_eq_true h1; omega)
    have h1'' : decide (24 < l.length) = false := decide_eq_false (by have := of_decide_eq_true h1; omega)
    go_enter Try.func23, Try.ntmps23
    go_wp2_with fail
    clear h1 h1' h1''
    go_loopw [3] (fun i wr => ∃ j : Nat, j ≤ l.length ∧ i = .int .i64 j ∧ Hid (∀ i, i < j → (!wrongB (sp l i)) = true) ∧ Hid (DrewN w wr)) (fun i _ => l.length - (intOf i).toNat)
    case atStart => exact ⟨0, by omega, rfl, Lib.hid (fun i hi => absurd hi (Nat.not_lt_zero _)), Lib.hid (DrewN.refl _)⟩
    case round =>
      obtain ⟨j, hj, rfl, HN, HD⟩ := hrel
      by_cases hlt : j < l.length
      · have HS1 := Lib.hid (spans_below HS.out (show Below w.heap.size w wr by obtain ⟨n, e⟩ := HD.out; rw [e]; exact bl_drewN (Below.refl _ _) n))
        obtain ⟨ad, rfl, _, _, _, _, _, a4, a5⟩ := sp_at HS1.out hlt
        have t1 : decide (j < l.length) = true := decide_eq_true hlt
        have t1' : decide ((j : Int) < (l.length : Int)) = true := decide_eq_true (by omega)
        have t3 : (j : Int) < (l.length : Int) := by omega
        have t4 : (0 : Int) ≤ (j : Int) := by omega
        have HWR : Hid (wrongB (sp l j) = (decide ((sp l j).fr < 0) || ((sp l j).en != -1 && decide ((sp l j).en ≤ (sp l j).fr)))) := Lib.hid rfl
        have HNX := Lib.hid (fun (h : wrongB (sp l j) = false) (i : Nat) (hi : i < j + 1) => show (!wrongB (sp l i)) = true from by
          by_cases e : i = j
          · rw [e, h]; rfl
          · exact HN.out i (by omega))
        generalize hsp : sp l j = q at *
        have HSP := Lib.hid hsp
        clear hsp
        cases q1 : decide (q.fr < 0)
        · cases q2 : (q.en != -1)
          · have HW0 : Hid (wrongB q = false) := Lib.hid (by rw [HWR.out, q1, q2]; rfl)
            clear HWR
            go_wp2_with fail
            go_quiet (fail)
            go_wp2_with fail
            go_roundw
            case rel => exact ⟨j + 1, by omega, by go_num, Lib.hid (HNX.out HW0.out), Lib.hid (drewN_trans HD.out ⟨_, rfl⟩)⟩
            case measure => simp [intOf]; omega
          · cases q3 : decide (q.en ≤ q.fr)
            · have HW0 : Hid (wrongB q = false) := Lib.hid (by rw [HWR.out, q1, q2, q3]; rfl)
              clear HWR
              go_wp2_with fail
              go_quiet (fail)
              go_wp2_with fail
              go_roundw
              case rel => exact ⟨j + 1, by omega, by go_num, Lib.hid (HNX.out HW0.out), Lib.hid (drewN_trans HD.out ⟨_, rfl⟩)⟩
              case measure => simp [intOf]; omega
            · have HW0 : Hid (wrongB q = true) := Lib.hid (by rw [HWR.out, q1, q2, q3]; rfl)
              clear HWR
              go_wp2_with fail
              go_quiet (fail)
              go_wp2_with fail
              go_ret
              exact ⟨by rw [allB_false (p := fun i => !wrongB (sp l i)) hlt (by rw [HSP.out, HW0.out]; rfl)]; rfl, drewN_trans HD.out ⟨_, rfl⟩⟩
        · have HW0 : Hid (wrongB q = true) := Lib.hid (by rw [HWR.out, q1]; rfl)
          clear HWR
          go_wp2_with fail
          go_quiet (fail)
          go_wp2_with fail
          go_ret
          exact ⟨by rw [allB_false (p := fun i => !wrongB (sp l i)) hlt (by rw [HSP.out, HW0.out]; rfl)]; rfl, drewN_trans HD.out ⟨_, rfl⟩⟩
      · have t1 : decide (j < l.length) = false := decide_eq_false hlt
        have HC : Hid (allB (fun i => !wrongB (sp l i)) l.length = true) := Lib.hid (allB_iff.mpr (fun i hi => HN.out i (by omega)))
        go_wp2_with fail
        go_ret
        exact ⟨by rw [HC.out]; rfl, HD.out⟩
theorem sameInts_eq (A1 A2 : Option Addr) (c1 c2 : Nat) (l : List Int) (hl : l.length ≤ 1000) (w : World) (H1 : IntsAt okAll w A1 l) (H2 : IntsAt okAll w A2 l) :
    Calls Try.prog 11 #[.slice A1 l.length c1, .slice A2 l.length c2] w fun e w' => e = .returned (.bool true) ∧ DrewN w w' := by
  have HA := Lib.hid H1
  have HB := Lib.hid H2
  clear H1 H2
  go_enter Try.func11, Try.ntmps11
  go_wp2_with fail
  go_loopw [5] (fun i wr => ∃ j : Nat, j ≤ l.length ∧ i = .int .i64 j ∧ Hid (DrewN w wr)) (fun i _ => l.length - (intOf i).toNat)
  case atStart => exact ⟨0, by omega, rfl, Lib.hid (DrewN.refl _)⟩
  case round =>
    obtain ⟨j, hj, rfl, HD⟩ := hrel
    by_cases hlt : j < l.length
    · have hbw : Below w.heap.size w wr := by obtain ⟨n, e⟩ := HD.out; rw [e]; exact bl_drewN (Below.refl _ _) n
      obtain ⟨ad1, rfl, a1⟩ := ints_at (ints_below HA.out hbw) hlt
      obtain ⟨ad2, rfl, a2⟩ := ints_at (ints_below HB.out hbw) hlt
      have t1 : decide (j < l.length) = true := decide_eq_true hlt
      have t1' : decide ((j : Int) < (l.length : Int)) = true := decide_eq_true (by omega)
      have t3 : (j : Int) < (l.length : Int) := by omega
      have t4 : (0 : Int) ≤ (j : Int) := by omega
      clear hbw
      go_wp2_with fail
      go_quiet (fail)
      go_wp2_with fail
      go_roundw
      case rel => exact ⟨j + 1, by omega, by go_num, Lib.hid (drewN_trans HD.out ⟨_, rfl⟩)⟩
      case measure => simp [intOf]; omega
    · have t1 : decide (j < l.length) = false := decide_eq_false hlt
      go_wp2_with fail
      go_ret
      exact ⟨rfl, HD.out⟩
end Go.Proofs.Ytbanfaboimachaa
