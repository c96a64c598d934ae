
/-
  The small functions of linear: Before, Contains, rest.
-/
import Derived.Test.YtbanfaboimachaaLin1
import Derived.Handy
import Derived.LoopTactic
import Derived.Deep.QuietTactic
import Derived.BigQuiet
import Derived.Outline
namespace Go.Proofs.Ytbanfaboimachaa
open Go.RowKit
set_option linter.unusedSimpArgs false
set_option linter.unusedVariables false
variable {ok : Nat → Prop}

theorem bef_any (l : List Spn) (A : Option Addr) (c : Nat) (a b : Nat) (ha : a < l.length) (hb : b < l.length) (hl : l.length ≤ 1000) (w : World) (H : SpansAt w A l) :
    Calls Try.prog 16 #[.slice A l.length c, .int .i64 a, .int .i64 b] w fun e w' => e = .returned (.bool (bef (sp l a) (sp l b))) ∧ DrewN w w' := by
  obtain ⟨ad, rfl, ha1⟩ := sp_at H ha
  obtain ⟨ad', e, hb1⟩ := sp_at H hb
  obtain rfl := Option.some.inj e
  unfold bef
  generalize sp l a = x at *
  generalize sp l b = y at *
  obtain ⟨_, _, _, _, _, _, a5⟩ := ha1
  obtain ⟨_, _, _, _, _, b4, _⟩ := hb1
  have t1 : decide ((a : Int) < 0) = false := decide_eq_false (by omega)
  have t2 : decide ((b : Int) < 0) = false := decide_eq_false (by omega)
  have t3 : decide ((l.length : Int) ≤ (a : Int)) = false := decide_eq_false (by omega)
  have t4 : decide ((l.length : Int) ≤ (b : Int)) = false := decide_eq_false (by omega)
  have t3' : decide (l.length ≤ a) = false := decide_eq_false (by omega)
  have t4' : decide (l.length ≤ b) = false := decide_eq_false (by omega)
  have t5 : (a : Int) < (l.length : Int) := by omega
  have t6 : (b : Int) < (l.length : Int) := by omega
  have t7 : (0 : Int) ≤ (a : Int) := by omega
  have t8 : (0 : Int) ≤ (b : Int) := by omega
  clear H
  cases hx : (x.en != -1)
  · go_enter Try.func16, Try.ntmps16
    go_wp2
    go_quiet (fail)
    go_wp2
    go_ret
    exact ⟨by simp, ⟨_, rfl⟩⟩
  · go_enter Try.func16, Try.ntmps16
    go_wp2
    go_quiet (fail)
    go_wp2
    go_ret
    exact ⟨by simp, ⟨_, rfl⟩⟩

def IndexPost (l : List Int) (v : Int) (w : World) (e : Ending) (w' : World) : Prop := ∃ r : Int, e = .returned (.int .i64 r) ∧ decide (0 ≤ r) = hasB l v ∧ w = w'
theorem ints_at {w : World} {A : Option Addr} {l : List Int} (h : IntsAt ok w A l) {j : Nat} (hj : j < l.length) : ∃ ad, A = some ad ∧ w.cell? (ad.add j) = some (.int .i64 (nthI l j)) := by
  cases A with
  | none => have := ints_none h; subst this; simp at hj
  | some ad =>
    refine ⟨ad, rfl, ints_cell h j _ ?_⟩
    unfold nthI
    rw [intsC_get, List.getElem?_eq_getElem hj]
    rfl
theorem contains_none {l : List Int} {v : Int} (h : ∀ i, i < l.length → nthI l i ≠ v) : hasB l v = false := by
  cases hc : hasB l v
  · rfl
  · rw [hasB_iff] at hc
    obtain ⟨i, hi, e⟩ := List.mem_iff_getElem.mp hc
    have := h i hi
    unfold nthI at this
    rw [List.getElem?_eq_getElem hi] at this
    exact absurd e this
theorem contains_at {l : List Int} {v : Int} {i : Nat} (hi : i < l.length) (h : nthI l i = v) : hasB l v = true := by
  rw [hasB_iff]
  unfold nthI at h
  rw [List.getElem?_eq_getElem hi] at h
  exact h ▸ List.getElem_mem hi
theorem index_any (A : Option Addr) (c : Nat) (l : List Int) (v : Int) (hl : l.length ≤ 1000) (w : World) (H : IntsAt ok w A l) :
    Calls Try.prog 32 #[.slice A l.length c, .int .i64 v] w (IndexPost l v w) := by
  have HH := Lib.hid H
  clear H
  go_enter Try.func32, Try.ntmps32
  go_wp2
  go_loop [8] (fun i => ∃ j : Nat, j ≤ l.length ∧ i = .int .i64 j ∧ Hid (∀ i, i < j → nthI l i ≠ v)) (fun i => l.length - (intOf i).toNat)
  case atStart => exact ⟨0, by omega, rfl, fun i hi => absurd hi (Nat.not_lt_zero _)⟩
  case round =>
    obtain ⟨j, hj, rfl, HN⟩ := hrel
    by_cases hlt : j < l.length
    · obtain ⟨ad, rfl, hc⟩ := ints_at HH.out hlt
      have t1 : decide (j < l.length) = true := decide_eq_true hlt
      have t1' : decide ((j : Int) < (l.length : Int)) = true := decide_eq_true (by omega)
      have t3 : (j : Int) < (l.length : Int) := by omega
      have t4 : (0 : Int) ≤ (j : Int) := by omega
      by_cases hv : nthI l j = v
      · have HC := Lib.hid (contains_at hlt hv)
        have hq : (v == nthI l j) = true := by rw [hv]; exact beq_self_eq_true v
        clear hv
        go_wp2
        go_ret
        exact ⟨_, rfl, by rw [HC.out]; exact decide_eq_true (by omega), rfl⟩
      · have hq : (v == nthI l j) = false := by
          cases h : (v == nthI l j)
          · rfl
          · exact absurd (eq_of_beq h).symm hv
        have HV := Lib.hid hv
        clear hv
        go_wp2
        go_round
        case rel => exact ⟨j + 1, by omega, by go_num, Lib.hid (fun i hi => by
          by_cases e : i = j
          · rw [e]; exact HV.out
          · exact HN.out i (by omega))⟩
        case measure => simp [intOf]; omega
    · have t1 : decide (j < l.length) = false := decide_eq_false hlt
      have HC := Lib.hid (contains_none (l := l) (v := v) (fun i hi => HN.out i (by omega)))
      go_wp2
      go_ret
      exact ⟨-1, rfl, by rw [HC.out]; rfl, rfl⟩
theorem contains_any (A : Option Addr) (c : Nat) (l : List Int) (v : Int) (hl : l.length ≤ 1000) (w : World) (H : IntsAt ok w A l) :
    Calls Try.prog 17 #[.slice A l.length c, .int .i64 v] w fun e w' => e = .returned (.bool (hasB l v)) ∧ w = w' := by
  go_enter Try.func17, Try.ntmps17
  go_wp2_with (go_at_call 32; refine (index_any A c l v hl _ H).mono ?_; rintro e w' ⟨r, rfl, hr, rfl⟩)
  go_ret
  exact ⟨by rw [← hr]; rfl, rfl⟩
theorem rest_any (A : Option Addr) (c : Nat) (l : List Spn) (A2 : Option Addr) (c2 : Nat) (o : List Int) (hl : l.length ≤ 1000) (ho : o.length ≤ 1000) (w : World) (H : SpansAt w A l) (H2 : IntsAt ok w A2 o) :
    Calls Try.prog 18 #[.slice A l.length c, .slice A2 o.length c2] w fun e w' => e = .returned (.bool (restB l o)) ∧ Below w.heap.size w w' := by
  have HS := Lib.hid H
  have HO := Lib.hid H2
  clear H H2
  go_enter Try.func18, Try.ntmps18
  go_wp2
  go_loopw [9] (fun i wr => ∃ j : Nat, j ≤ l.length ∧ i = .int .i64 j ∧ Hid (∀ i, i < j → restAt l o i = true) ∧ Hid (Below w.heap.size w wr)) (fun i _ => l.length - (intOf i).toNat)
  case atStart => exact ⟨0, by omega, rfl, fun i hi => absurd hi (Nat.not_lt_zero _), Below.refl _ _⟩
  case round =>
    obtain ⟨j, hj, rfl, HN, HB⟩ := hrel
    by_cases hlt : j < l.length
    · have HS1 := Lib.hid (spans_below HS.out HB.out)
      have HO1 := Lib.hid (ints_below HO.out HB.out)
      obtain ⟨ad, rfl, _, a0, a1, a2, a3, a4, a5⟩ := sp_at HS1.out hlt
      have t1 : decide (j < l.length) = true := decide_eq_true hlt
      have t1' : decide ((j : Int) < (l.length : Int)) = true := decide_eq_true (by omega)
      have t3 : (j : Int) < (l.length : Int) := by omega
      have t4 : (0 : Int) ≤ (j : Int) := by omega
      have hr : restAt l o j = !((sp l j).en != -1 && !hasB o (j : Int)) := rfl
      have HR := Lib.hid hr
      clear hr
      have step : restAt l o j = true → ∀ w2, Below wr.heap.size wr w2 → (∀ i, i < j + 1 → restAt l o i = true) ∧ Below w.heap.size w w2 := fun h w2 hb => ⟨fun i hi => by
        by_cases e : i = j
        · rw [e]; exact h
        · exact HN.out i (by omega), HB.out.trans (hb.mono HB.out.size)⟩
      have HST := Lib.hid step
      clear step
      cases hx : ((sp l j).en != -1)
      · have HR1 : Hid (restAt l o j = true) := Lib.hid (by rw [HR.out, hx]; rfl)
        clear HR
        go_wp2
        go_roundw
        case rel => exact ⟨j + 1, by omega, by go_num, Lib.hid (HST.out HR1.out wr (Below.refl _ _)).1, Lib.hid (bl_alloc HB.out HB.out.size _)⟩
        case measure => simp [intOf]; omega
      · cases hy : hasB o (j : Int)
        · have HR1 : Hid (restAt l o j = false) := Lib.hid (by rw [HR.out, hx, hy]; rfl)
          clear HR
          go_wp2_with (go_at_call 17; refine (contains_any A2 c2 o (j : Int) ho _ (ints_below HO1.out ((Below.refl _ _).alloc (Nat.le_refl _) _))).mono ?_; rintro e w' ⟨rfl, rfl⟩)
          go_ret
          exact ⟨by rw [show restB l o = false from allB_false hlt HR1.out]; rfl, bl_alloc HB.out HB.out.size _⟩
        · have HR1 : Hid (restAt l o j = true) := Lib.hid (by rw [HR.out, hx, hy]; rfl)
          clear HR
          go_wp2_with (go_at_call 17; refine (contains_any A2 c2 o (j : Int) ho _ (ints_below HO1.out ((Below.refl _ _).alloc (Nat.le_refl _) _))).mono ?_; rintro e w' ⟨rfl, rfl⟩)
          go_roundw
          case rel => exact ⟨j + 1, by omega, by go_num, Lib.hid (HST.out HR1.out wr (Below.refl _ _)).1, Lib.hid (bl_alloc HB.out HB.out.size _)⟩
          case measure => simp [intOf]; omega
    · have t1 : decide (j < l.length) = false := decide_eq_false hlt
      have HC : Hid (restB l o = true) := Lib.hid (allB_iff.mpr (fun i hi => HN.out i (by omega)))
      go_wp2
      go_ret
      exact ⟨by rw [HC.out]; rfl, HB.out⟩
def wrongB (x : Spn) : Bool := decide (x.fr < 0) || (x.en != -1 && decide (x.en ≤ x.fr))
def rightL (l : List Spn) : Bool := decide (l.length ≤ 24) && allB (fun i => !wrongB (sp l i)) l.length
theorem wrong_any (x : Spn) (w : World) : Calls Try.prog 30 #[spV x] w fun e w' => e = .returned (.bool (wrongB x)) ∧ Below w.heap.size w w' := by
  unfold wrongB spV
  cases h1 : decide (x.fr < 0) <;> cases h2 : (x.en != -1)
  all_goals
    go_enter Try.func30, Try.ntmps30
    go_wp2
    go_ret
    exact ⟨by simp, (Below.refl _ _).alloc (Nat.le_refl _) _⟩
def FindPost (l : List Spn) (w : World) (e : Ending) (w' : World) : Prop := ∃ r : Int, e = .returned (.int .i64 r) ∧ (!decide (0 ≤ r)) = allB (fun i => !wrongB (sp l i)) l.length ∧ Below w.heap.size w w'
theorem findWrong (A : Option Addr) (c : Nat) (l : List Spn) (hl : l.length ≤ 1000) (w : World) (H : SpansAt w A l) :
    Calls Try.prog 38 #[.slice A l.length c, .func (.func 30) #[] #[]] w (FindPost l w) := by
  have HS := Lib.hid H
  clear H
  go_enter Try.func38, Try.ntmps38
  go_wp2
  go_loopw [8] (fun i wr => ∃ j : Nat, j ≤ l.length ∧ i = .int .i64 j ∧ Hid (∀ i, i < j → (!wrongB (sp l i)) = true) ∧ Hid (Below w.heap.size w wr)) (fun i _ => l.length - (intOf i).toNat)
  case atStart => exact ⟨0, by omega, rfl, Lib.hid (fun i hi => absurd hi (Nat.not_lt_zero _)), Lib.hid (Below.refl _ _)⟩
  case round =>
    obtain ⟨j, hj, rfl, HN, HB⟩ := hrel
    by_cases hlt : j < l.length
    · have HS1 := Lib.hid (spans_below HS.out HB.out)
      obtain ⟨ad, rfl, _, a0, a1, a2, a3, a4, a5⟩ := sp_at HS1.out hlt
      have t1 : decide (j < l.length) = true := decide_eq_true hlt
      have t1' : decide ((j : Int) < (l.length : Int)) = true := decide_eq_true (by omega)
      have t3 : (j : Int) < (l.length : Int) := by omega
      have t4 : (0 : Int) ≤ (j : Int) := by omega
      have HWA := Lib.hid (wrong_any (sp l j) wr)
      cases hq : wrongB (sp l j)
      · go_wp2_with (go_at_call 30; refine HWA.out.mono ?_; rintro e w1 ⟨rfl, hb⟩; have HB1 := Lib.hid (HB.out.trans (hb.mono HB.out.size)); clear hb)
        have HQ := Lib.hid hq
        go_roundw
        case rel => exact ⟨j + 1, by omega, by go_num, Lib.hid (fun i hi => by
          by_cases e : i = j
          · rw [e, HQ.out]; rfl
          · exact HN.out i (by omega)), HB1⟩
        case measure => simp [intOf]; omega
      · go_wp2_with (go_at_call 30; refine HWA.out.mono ?_; rintro e w1 ⟨rfl, hb⟩; have HB1 := Lib.hid (HB.out.trans (hb.mono HB.out.size)); clear hb)
        go_ret
        refine ⟨_, rfl, ?_, HB1.out⟩
        rw [allB_false (p := fun i => !wrongB (sp l i)) hlt (by rw [hq]; rfl), decide_eq_true (by omega)]
        rfl
    · have t1 : decide (j < l.length) = false := decide_eq_false hlt
      have HC : Hid (allB (fun i => !wrongB (sp l i)) l.length = true) := Lib.hid (allB_iff.mpr (fun i hi => HN.out i (by omega)))
      go_wp2
      go_ret
      exact ⟨-1, rfl, by rw [HC.out]; rfl, HB.out⟩
theorem right_lin (A : Option Addr) (c : Nat) (l : List Spn) (hl : l.length ≤ 1000) (w : World) (H : SpansAt w A l) :
    Calls Try.prog 15 #[.slice A l.length c] w fun e w' => e = .returned (.bool (rightL l)) ∧ Below w.heap.size w w' := by
  have HS := Lib.hid H
  clear H
  unfold rightL
  cases h1 : decide (l.length ≤ 24)
  · have h1' : decide ((l.length : Int) ≤ 24) = false := decide_eq_false (by have := of_decide_eq_false h1; omega)
    go_enter Try.func15, Try.ntmps15
    go_wp2_with fail
    go_ret
    exact ⟨by simp, Below.refl _ _⟩
  · have h1' : decide ((l.length : Int) ≤ 24) = true := decide_eq_true (by have := of_decide_eq_true h1; omega)
    go_enter Try.func15, Try.ntmps15
    go_wp2_with (first | (go_at_call 31; go_in) | (go_at_call 38; refine (findWrong A c l hl _ HS.out).mono ?_; rintro e w1 ⟨r, rfl, hr, hb⟩; have HB := Lib.hid hb; have HR := Lib.hid hr; clear hb hr))
    go_ret
    exact ⟨by rw [← HR.out]; simp, HB.out⟩
end Go.Proofs.Ytbanfaboimachaa
