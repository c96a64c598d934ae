
/-
  rowlockref01.SameVals: are two slices of values the same?
-/
import Derived.Test.YtmmfadakhnagpaaVals
import Derived.LoopTactic
namespace Go.Proofs.Ytmmfadakhnagpaa
open Go.RowKit
set_option linter.unusedSimpArgs false
set_option linter.unusedVariables false
variable {ok ok' : Nat → Prop}

def DrewTo (w w' : World) : Prop := ∃ n, w' = w.drewN n
theorem DrewTo.below {w w' : World} (h : DrewTo w w') : Below w.heap.size w w' := by
  obtain ⟨n, rfl⟩ := h
  exact ⟨rfl, rfl, rfl, Nat.le_refl _, fun _ _ => rfl⟩
theorem DrewTo.step {w w' : World} (h : DrewTo w w') (n : Nat) : DrewTo w (w'.drewN n) := by
  obtain ⟨m, rfl⟩ := h
  exact ⟨m + n, by simp [World.drewN, Nat.add_assoc]⟩
theorem vals_at {w : World} {A : Option Addr} {l : List Int} (h : ValsAt ok w A l) (j : Nat) (hj : j < l.length) : ∃ b, A = some b ∧ w.cell? (b.add j) = some (.int .u64 (l.getD j 0)) := by
  obtain ⟨h0, h | ⟨g, o, cells, hA, hgc, hc, _⟩⟩ := h
  · rw [h.2] at hj; exact absurd hj (Nat.not_lt_zero _)
  · refine ⟨_, hA, ?_⟩
    rw [add_at, hp_cell hgc]
    exact hc j _ (by simp [List.getD, List.getElem?_eq_getElem hj])

theorem take_more (j : Nat) (l1 l2 : List Int) (h1 : j < l1.length) (h2 : j < l2.length) (h : l1.take j = l2.take j) (hx : l1.getD j 0 = l2.getD j 0) : l1.take (j + 1) = l2.take (j + 1) := by
  rw [List.take_succ_eq_append_getElem h1, List.take_succ_eq_append_getElem h2, h]
  simp [List.getD, List.getElem?_eq_getElem h1, List.getElem?_eq_getElem h2] at hx
  rw [hx]
set_option maxHeartbeats 1600000 in
theorem sameVals_any (A1 A2 : Option Addr) (c1 c2 : Nat) (l1 l2 : List Int) (w : World) (h1 : ValsAt ok w A1 l1) (h2 : ValsAt ok' w A2 l2) (b1 : l1.length ≤ 1000) (b2 : l2.length ≤ 1000) :
    Calls Try.prog 40 #[.slice A1 l1.length c1, .slice A2 l2.length c2] w fun e w' => e = .returned (.bool (decide (l1 = l2))) ∧ DrewTo w w' := by
  have H1 := Lib.hid h1
  have H2 := Lib.hid h2
  clear h1 h2
  by_cases hl : l1.length = l2.length
  · have HL := Lib.hid hl
    have e1 : ((l1.length : Int) != (l2.length : Int)) = false := by simp [hl]
    have e2 : (l1.length != l2.length) = false := by simp [hl]
    clear hl
    go_enter Try.func40, Try.ntmps40
    go_wp2_with fail
    go_loopw [5] (fun i wr => ∃ (j : Nat), j ≤ l1.length ∧ i = .int .i64 j ∧ Hid (l1.take j = l2.take j) ∧ Hid (DrewTo w wr)) (fun i _ => l1.length - (intOf i).toNat)
    case atStart => exact ⟨0, Nat.zero_le _, rfl, rfl, ⟨0, rfl⟩⟩
    case round =>
      obtain ⟨j, hj, rfl, HT, HD⟩ := hrel
      by_cases hlt : j < l1.length
      · have t1 : decide (j < l1.length) = true := decide_eq_true hlt
        have t1' : decide ((j : Int) < (l1.length : Int)) = true := decide_eq_true (by omega)
        obtain ⟨d1, rfl, g1⟩ := vals_at (vals_below H1.out HD.out.below) j hlt
        obtain ⟨d2, rfl, g2⟩ := vals_at (vals_below H2.out HD.out.below) j (by have := HL.out; omega)
        have x1 : (j : Int) < (l1.length : Int) := by omega
        have x2 : (j : Int) < (l2.length : Int) := by have := HL.out; omega
        have x3 : (0 : Int) ≤ (j : Int) := by omega
        obtain ⟨x, hx⟩ : ∃ x, l1.getD j 0 = x := ⟨_, rfl⟩
        obtain ⟨y, hy⟩ : ∃ y, l2.getD j 0 = y := ⟨_, rfl⟩
        rw [hx] at g1
        rw [hy] at g2
        have HX := Lib.hid hx
        have HY := Lib.hid hy
        clear hx hy
        cases hq : (x != y)
        · go_wp2_with fail
          go_quiet (fail)
          go_wp2_with fail
          go_roundw
          case rel => exact ⟨j + 1, by omega, by go_num, take_more j l1 l2 hlt (by have := HL.out; omega) HT.out (by rw [HX.out, HY.out]; simpa using hq), HD.out.step nq⟩
          case measure => simp [intOf]; omega
        · go_wp2_with fail
          go_quiet (fail)
          go_wp2_with fail
          go_ret
          refine ⟨?_, HD.out.step nq⟩
          rw [decide_eq_false (fun h => by have a := HX.out; have b := HY.out; rw [h] at a; rw [a] at b; subst b; simp at hq)]; rfl
      · have t1 : decide (j < l1.length) = false := decide_eq_false hlt
        go_wp2_with fail
        go_ret
        have := HT.out
        rw [List.take_of_length_le (by omega), List.take_of_length_le (by have := HL.out; omega)] at this
        exact ⟨by rw [decide_eq_true this]; rfl, HD.out⟩
  · have e1 : ((l1.length : Int) != (l2.length : Int)) = true := by simp; omega
    have e2 : (l1.length != l2.length) = true := by simp; omega
    go_enter Try.func40, Try.ntmps40
    go_wp2_with fail
    go_ret
    exact ⟨by rw [decide_eq_false (fun h => hl (by rw [h]))]; rfl, 0, rfl⟩
end Go.Proofs.Ytmmfadakhnagpaa
