
/-
  rowlockref17.Step: what it comes to.
-/
import Derived.Test.YtlgpjcdlomhlcaaSp31
import Derived.Test.YtlgpjcdlomhlcaaSp32
import Derived.Test.YtlgpjcdlomhlcaaSp33
import Derived.Test.YtlgpjcdlomhlcaaSp34
import Derived.Deep.CutBlock
namespace Go.Proofs.Ytlgpjcdlomhlcaa
open Go.RowKit Go.ChangeShapes Go.WideShapes
set_option linter.unusedSimpArgs false
set_option linter.unusedVariables false

theorem refStep (l : List Ins3) (c : Nat) (A : Option Addr) (hlc : l.length ≤ c) (hll : l.length ≤ 900) (s : St) (hso : s.ok) (hn : s.stk.length ≤ 800) (hro : s.out.length ≤ 800) (A1 : Option Addr) (c1 : Nat) (A2 : Option Addr) (c2 : Nat) (w : World) (h1 : Src w A1 c1 s.stk) (h2 : Src w A2 c2 s.out) (hi : InssAt w A l) :
    Calls Try.prog 13 #[.slice A l.length c, stV s A1 c1 A2 c2] w (RPost (stepF l s) w) := by
  by_cases hpc : 0 ≤ s.pc
  case neg =>
    have e : stepF l s = .error 3 := by unfold stepF hereB; simp [hpc]
    rw [e]
    exact refStep_e1 l c A hlc hll s hn hro A1 c1 A2 c2 w h1 h2 hi hpc
  by_cases hpl : s.pc < (l.length : Int)
  case neg =>
    have e : stepF l s = .error 3 := by unfold stepF hereB; simp [hpl]
    rw [e]
    exact refStep_e2 l c A hlc hll s hn hro A1 c1 A2 c2 w h1 h2 hi hpc hpl
  obtain ⟨⟨op, ag, v⟩, hx⟩ : ∃ x, xn l s.pc.toNat = x := ⟨_, rfl⟩
  by_cases hr : rightI ⟨op, ag, v⟩ = true
  case neg =>
    have hr' : rightI ⟨op, ag, v⟩ = false := by simpa using hr
    have e : stepF l s = .error 3 := by unfold stepF hereB; rw [hx, hr']; simp
    rw [e]
    exact refStep_e3 l c A hlc hll s hn hro A1 c1 A2 c2 w h1 h2 hi hpc hpl op ag v hx hr'
  have hb : hereB l s.pc = true := by unfold hereB; rw [hx, hr]; simp [hpc, hpl]
  by_cases hs : specI op = true
  case pos =>
    have e : stepF l s = .error 3 := by unfold stepF; rw [hb, hx]; unfold plainF; simp [hs]
    rw [e]
    exact refStep_e4 l c A hlc hll s hn hro A1 c1 A2 c2 w h1 h2 hi hpc hpl op ag v hx hr hs
  have hs : specI op = false := by simpa using hs
  by_cases hfi : fitI op s.stk.length = true
  case neg =>
    have hfi : fitI op s.stk.length = false := by simpa using hfi
    have e : stepF l s = .error 12 := by unfold stepF; rw [hb, hx]; unfold plainF; simp [hs, hfi]
    rw [e]
    exact refStep_e5 l c A hlc hll s hn hro A1 c1 A2 c2 w h1 h2 hi hpc hpl op ag v hx hr hs hfi
  have e : stepF l s = effF l.length ⟨op, ag, v⟩ { s with pc := s.pc + 1 } := by unfold stepF; rw [hb, hx]; unfold plainF; simp [hs, hfi]
  rw [e]
  have hj : s.pc.toNat < l.length := by omega
  have hok := ins_ok hi hj
  rw [hx] at hok
  rcases plain_ops hok.1.1 (right_parts hr).1 hs with rfl | rfl | rfl | rfl | rfl | rfl | rfl | rfl | rfl | rfl | rfl | rfl | rfl | rfl | rfl | rfl | rfl | rfl
  · exact refStep_o0 l c A hlc hll s hn hro A1 c1 A2 c2 w h1 h2 hi hpc hpl 0 ag v hx rfl hso hr hs hfi
  · exact refStep_o1 l c A hlc hll s hn hro A1 c1 A2 c2 w h1 h2 hi hpc hpl 1 ag v hx rfl hso hr hs hfi
  · exact refStep_o2 l c A hlc hll s hn hro A1 c1 A2 c2 w h1 h2 hi hpc hpl 2 ag v hx rfl hso hr hs hfi
  · exact refStep_o3 l c A hlc hll s hn hro A1 c1 A2 c2 w h1 h2 hi hpc hpl 3 ag v hx rfl hso hr hs hfi
  · exact refStep_oT l c A hlc hll s hn hro A1 c1 A2 c2 w h1 h2 hi hpc hpl 8 ag v hx (by unfold isTwo; decide) hso hr hs hfi
  · exact refStep_oT l c A hlc hll s hn hro A1 c1 A2 c2 w h1 h2 hi hpc hpl 9 ag v hx (by unfold isTwo; decide) hso hr hs hfi
  · exact refStep_oT l c A hlc hll s hn hro A1 c1 A2 c2 w h1 h2 hi hpc hpl 10 ag v hx (by unfold isTwo; decide) hso hr hs hfi
  · exact refStep_oT l c A hlc hll s hn hro A1 c1 A2 c2 w h1 h2 hi hpc hpl 11 ag v hx (by unfold isTwo; decide) hso hr hs hfi
  · exact refStep_oO l c A hlc hll s hn hro A1 c1 A2 c2 w h1 h2 hi hpc hpl 12 ag v hx (by unfold isOne; decide) hso hr hs hfi
  · exact refStep_oT l c A hlc hll s hn hro A1 c1 A2 c2 w h1 h2 hi hpc hpl 13 ag v hx (by unfold isTwo; decide) hso hr hs hfi
  · exact refStep_oT l c A hlc hll s hn hro A1 c1 A2 c2 w h1 h2 hi hpc hpl 14 ag v hx (by unfold isTwo; decide) hso hr hs hfi
  · exact refStep_oO l c A hlc hll s hn hro A1 c1 A2 c2 w h1 h2 hi hpc hpl 15 ag v hx (by unfold isOne; decide) hso hr hs hfi
  · exact refStep_o16 l c A hlc hll s hn hro A1 c1 A2 c2 w h1 h2 hi hpc hpl 16 ag v hx rfl hso hr hs hfi
  · exact refStep_o17 l c A hlc hll s hn hro A1 c1 A2 c2 w h1 h2 hi hpc hpl 17 ag v hx rfl hso hr hs hfi
  · exact refStep_o18 l c A hlc hll s hn hro A1 c1 A2 c2 w h1 h2 hi hpc hpl 18 ag v hx rfl hso hr hs hfi
  · exact refStep_o19 l c A hlc hll s hn hro A1 c1 A2 c2 w h1 h2 hi hpc hpl 19 ag v hx rfl hso hr hs hfi
  · exact refStep_o20 l c A hlc hll s hn hro A1 c1 A2 c2 w h1 h2 hi hpc hpl 20 ag v hx rfl hso hr hs hfi
  · exact refStep_o27 l c A hlc hll s hn hro A1 c1 A2 c2 w h1 h2 hi hpc hpl 27 ag v hx rfl hso hr hs hfi
end Go.Proofs.Ytlgpjcdlomhlcaa
