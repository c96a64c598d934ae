
/-
  spec: at.
-/
import Derived.Test.YtlgpjcdlomhlcaaSp9
namespace Go.Proofs.Ytlgpjcdlomhlcaa
open Go.RowKit Go.ChangeShapes Go.WideShapes
set_option linter.unusedSimpArgs false
set_option linter.unusedVariables false

/-- The operation that stands there; no right one: none. -/
def atI (l : List Ins3) (pc : Int) : Int := if hereB l pc then (xn l pc.toNat).op else 0
set_option maxRecDepth 20000 in
set_option maxHeartbeats 4000000 in
theorem at_no1 (A : Option Addr) (c : Nat) (l : List Ins3) (pc : Int) (hpc : ¬ 0 ≤ pc) (w : World) : Calls Try.prog 46 #[.slice A l.length c, .int .i64 pc] w fun e w' => e = .returned (.tuple #[.int .u8 0, .bool false]) ∧ Below w.heap.size w w' := by
  have d : decide (pc < 0) = true := decide_eq_true (by omega)
  clear hpc
  go_enter Try.func46, Try.ntmps46
  go_wp2_with fail
  go_ret2
  exact ⟨rfl, Below.refl _ _⟩
set_option maxRecDepth 20000 in
set_option maxHeartbeats 4000000 in
theorem at_no2 (A : Option Addr) (c : Nat) (l : List Ins3) (pc : Int) (hpc : 0 ≤ pc) (hpl : ¬ pc < (l.length : Int)) (w : World) : Calls Try.prog 46 #[.slice A l.length c, .int .i64 pc] w fun e w' => e = .returned (.tuple #[.int .u8 0, .bool false]) ∧ Below w.heap.size w w' := by
  have d : decide (pc < 0) = false := decide_eq_false (by omega)
  have d2 : decide (pc ≥ (l.length : Int)) = true := decide_eq_true (by omega)
  have d3 : decide ((l.length : Int) ≤ pc) = true := d2
  clear hpc hpl
  go_enter Try.func46, Try.ntmps46
  go_wp2_with fail
  go_ret2
  exact ⟨rfl, Below.refl _ _⟩
set_option maxRecDepth 20000 in
set_option maxHeartbeats 4000000 in
theorem at_in (A : Option Addr) (c : Nat) (l : List Ins3) (j : Nat) (hpl : j < l.length) (hlc : l.length ≤ c) (w : World) (hi : InssAt w A l) : Calls Try.prog 46 #[.slice A l.length c, .int .i64 (j : Int)] w fun e w' => e = .returned (.tuple #[.int .u8 (if rightI (xn l j) then (xn l j).op else 0), .bool (rightI (xn l j))]) ∧ Below w.heap.size w w' := by
  have d : decide ((j : Int) < 0) = false := decide_eq_false (by omega)
  have d1 : decide ((j : Int) ≥ (l.length : Int)) = false := decide_eq_false (by omega)
  have d2 : decide ((l.length : Int) ≤ (j : Int)) = false := d1
  have d3 : (j : Int) < (l.length : Int) := by omega
  have d4 : (0 : Int) ≤ (j : Int) := by omega
  have HI := Lib.hid hi
  obtain ⟨ad, rfl, _⟩ := xn_at hi hpl
  have HJ := Lib.hid hpl
  have hI3 := xn_some hi hpl
  obtain ⟨x, hx⟩ : ∃ x, xn l j = x := ⟨_, rfl⟩
  rw [hx] at hI3 ⊢
  obtain ⟨op, ag, v⟩ := x
  obtain ⟨hok, a0, a1, a2⟩ := hI3
  have HXN := Lib.hid hx
  have HC := Lib.hid (fun w => codeRight ⟨op, ag, v⟩ hok w)
  unfold inV at HC
  dsimp only at a0 a1 a2 ⊢
  have la : (ad.add (j * 3)).block < w.heap.size := inAt_lt (xn_some hi hpl)
  have la' : ad.block < w.heap.size := by
    have e : (ad.add (j * 3)).block = ad.block := by unfold Addr.add; split <;> rfl
    omega
  clear hx hok hpl hi
  obtain hr | hr : rightI ⟨op, ag, v⟩ = true ∨ rightI ⟨op, ag, v⟩ = false := by cases rightI ⟨op, ag, v⟩ <;> simp
  · rw [if_pos hr, hr]
    have HR := Lib.hid hr
    clear hr
    go_enter Try.func46, Try.ntmps46
    go_wp2_with (first | (go_at_call 62; refine (HC.out _).mono ?_; rintro e w4 ⟨rfl, hb4⟩; rw [HR.out]; have a0' := (World.cell?_of_block (hb4.block _ la)).trans a0; have la4 := Nat.lt_of_lt_of_le la' hb4.size; have B4 := Lib.hid hb4; clear hb4 a0 a1 a2 la))
    go_ret2
    exact ⟨rfl, B4.out⟩
  · rw [if_neg (by rw [hr]; decide), hr]
    have HR := Lib.hid hr
    clear hr
    go_enter Try.func46, Try.ntmps46
    go_wp2_with (first | (go_at_call 62; refine (HC.out _).mono ?_; rintro e w4 ⟨rfl, hb4⟩; rw [HR.out]; have B4 := Lib.hid hb4; clear hb4))
    go_ret2
    exact ⟨rfl, B4.out⟩
/-- The operation that stands there, and whether there is one. -/
theorem at_sp (A : Option Addr) (c : Nat) (l : List Ins3) (pc : Int) (hlc : l.length ≤ c) (w : World) (hi : InssAt w A l) : Calls Try.prog 46 #[.slice A l.length c, .int .i64 pc] w fun e w' => e = .returned (.tuple #[.int .u8 (atI l pc), .bool (hereB l pc)]) ∧ Below w.heap.size w w' := by
  unfold atI hereB
  by_cases h0 : 0 ≤ pc
  · by_cases h1 : pc < (l.length : Int)
    · rw [decide_eq_true h0, decide_eq_true h1, Bool.true_and, Bool.true_and]
      have := at_in A c l pc.toNat (by omega) hlc w hi
      rw [show ((pc.toNat : Nat) : Int) = pc by omega] at this
      exact this
    · rw [decide_eq_true h0, decide_eq_false h1, Bool.true_and, Bool.false_and]
      exact at_no2 A c l pc h0 h1 w
  · rw [decide_eq_false h0, Bool.false_and, Bool.false_and]
    exact at_no1 A c l pc h0 w
end Go.Proofs.Ytlgpjcdlomhlcaa
