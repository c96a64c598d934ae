
/-
  verify.Check: its closures, first.
-/
import Derived.Test.YtbfjnanakmiaaaaVer6
namespace Go.Proofs.Ytbfjnanakmiaaaa
open Go.RowKit Go.ChangeShapes Go.WideShapes
set_option linter.unusedSimpArgs false
set_option linter.unusedVariables false

def varB (op : Int) : Bool := decide (op ≥ 4) && decide (op ≤ 7)
theorem variable_any (op : Int) (w : World) : Calls Try.prog 17 #[.int .u8 op] w fun e w' => e = .returned (.bool (varB op)) ∧ w = w' := by
  unfold varB
  have hc : (decide (op ≥ 4) = false ∧ decide (4 ≤ op) = false) ∨ (decide (op ≥ 4) = true ∧ decide (4 ≤ op) = true) := by
    by_cases h : op ≥ 4
    · exact .inr ⟨decide_eq_true h, decide_eq_true h⟩
    · exact .inl ⟨decide_eq_false h, decide_eq_false h⟩
  rcases hc with ⟨h1, h2⟩ | ⟨h1, h2⟩
  all_goals
    go_enter Try.func17, Try.ntmps17
    go_wp2
    go_ret
    exact ⟨by simp [h1], rfl⟩
def fstF (p : Nat → Bool) : Nat → Nat → Int × Bool
  | _, 0 => (0, false)
  | i, k + 1 => bif p i then ((i : Int), true) else fstF p (i + 1) k
theorem fstF_step (p : Nat → Bool) {j n : Nat} (h : j < n) : fstF p j (n - j) = bif p j then ((j : Int), true) else fstF p (j + 1) (n - (j + 1)) := by
  rw [show n - j = (n - (j + 1)) + 1 by omega]
  rfl
set_option maxHeartbeats 4000000 in
theorem first_any (k : Nat) (caps : Array Value) (p : Nat → Bool) (l : List Ins3) (A : Option Addr) (c : Nat) (hl : l.length ≤ 100) (W : World) (HS : InssAt W A l) (HK : ∀ (args : Array Value) (w : World), (callFunc k args).run Try.prog w = .ok (.enter k args) w)
    (HF : ∀ i, i < l.length → ∀ w1, Below W.heap.size W w1 → Calls Try.prog k (#[.int .i64 (i : Int), inV (xn l i)] ++ caps) w1 fun e w2 => e = .returned (.bool (p i)) ∧ Below w1.heap.size w1 w2) :
    Calls Try.prog 13 #[.slice A l.length c, .func (.func k) #[] caps] W fun e w' => e = .returned (.tuple #[.int .i64 (fstF p 0 l.length).1, .bool (fstF p 0 l.length).2]) ∧ Below W.heap.size W w' := by
  have HSh := Lib.hid HS
  have HFh := Lib.hid HF
  clear HS HF
  obtain ⟨R, HR⟩ : ∃ R, Hid (fstF p 0 l.length = R) := ⟨_, Lib.hid rfl⟩
  rw [HR.out]
  go_enter Try.func13, Try.ntmps13
  go_wp2_with fail
  go_loopw [10] (fun t w' => ∃ j : Nat, j ≤ l.length ∧ t = .int .i64 j ∧ Hid (R = fstF p j (l.length - j)) ∧ Hid (Below W.heap.size W w')) (fun t _ => l.length - (intOf t).toNat)
  case atStart => exact ⟨0, by omega, rfl, Lib.hid (by rw [← HR.out]; rfl), Lib.hid (Below.refl _ _)⟩
  case round =>
    obtain ⟨j, hj, rfl, HJ, HB⟩ := hrel
    by_cases hlt : j < l.length
    · have t1 : decide (j < l.length) = true := decide_eq_true hlt
      have t1' : decide ((j : Int) < (l.length : Int)) = true := decide_eq_true (by omega)
      have t3 : (j : Int) < (l.length : Int) := by omega
      have t4 : (0 : Int) ≤ (j : Int) := by omega
      obtain ⟨ad, rfl, hok, a0, a1, a2⟩ := xn_at (inss_below HSh.out HB.out) hlt
      have HC := Lib.hid (fun w1 hb => HFh.out j hlt w1 hb)
      have HJs := Lib.hid (HJ.out.trans (fstF_step p hlt))
      generalize xn l j = x at hok a0 a1 a2 HC
      obtain ⟨op, ag, v⟩ := x
      unfold inV at HC
      dsimp only at *
      have HBn := Lib.hid (HB.out.alloc HB.out.size (.cells #[.int .u8 op, .int .i64 ag, .int .u64 v] 34))
      clear hok
      cases hp : p j
      · go_wp2_with (first | (refine (HC.out _ HBn.out).mono ?_; rintro e w1 ⟨rfl, hb1⟩; rw [hp]; have B1 := Lib.hid (HBn.out.trans (hb1.mono HBn.out.size)); clear hb1))
        go_roundw
        case rel => exact ⟨j + 1, by omega, by go_num, Lib.hid (by rw [HJs.out, hp]; rfl), B1⟩
        case measure => simp [intOf]; omega
      · go_wp2_with (first | (refine (HC.out _ HBn.out).mono ?_; rintro e w1 ⟨rfl, hb1⟩; rw [hp]; have B1 := Lib.hid (HBn.out.trans (hb1.mono HBn.out.size)); clear hb1))
        go_ret2
        exact ⟨by rw [HJs.out, hp]; rfl, B1.out⟩
    · obtain rfl : j = l.length := by omega
      have t1 : decide (l.length < l.length) = false := decide_eq_false (by omega)
      have t1' : decide ((l.length : Int) < (l.length : Int)) = false := decide_eq_false (by omega)
      go_wp2_with fail
      go_ret2
      exact ⟨by rw [HJ.out, Nat.sub_self]; rfl, HB.out⟩
theorem enter1 (args : Array Value) (w : World) : (callFunc 14 args).run Try.prog w = .ok (.enter 14 args) w := by kernel_rfl
theorem enter2 (args : Array Value) (w : World) : (callFunc 16 args).run Try.prog w = .ok (.enter 16 args) w := by kernel_rfl
theorem enter3 (args : Array Value) (w : World) : (callFunc 18 args).run Try.prog w = .ok (.enter 18 args) w := by kernel_rfl
theorem check1_any (i : Int) (x : Ins3) (hx : x.ok) (w : World) : Calls Try.prog 14 #[.int .i64 i, inV x] w fun e w' => e = .returned (.bool (!rightI x)) ∧ Below w.heap.size w w' := by
  have HC := Lib.hid (fun w => codeRight x hx w)
  obtain ⟨op, ag, v⟩ := x
  unfold inV at *
  dsimp only at *
  clear hx
  go_enter Try.func14, Try.ntmps14
  go_wp2_with (go_at_call 8; refine (HC.out _).mono ?_; rintro e w1 ⟨rfl, hb1⟩; have B1 := Lib.hid (((Below.refl w.heap.size w).alloc (Nat.le_refl _) (.cells #[.int .u8 op, .int .i64 ag, .int .u64 v] 34)).trans (hb1.mono (by simp))); clear hb1)
  go_ret
  exact ⟨rfl, B1.out⟩
end Go.Proofs.Ytbfjnanakmiaaaa
