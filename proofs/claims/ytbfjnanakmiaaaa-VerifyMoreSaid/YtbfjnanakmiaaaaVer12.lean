
/-
  rowlocklaw15.VerifyMore.
-/
import Derived.Test.YtbfjnanakmiaaaaVer11
namespace Go.Proofs.Ytbfjnanakmiaaaa
open Go.RowKit Go.ChangeShapes Go.WideShapes
set_option linter.unusedSimpArgs false
set_option linter.unusedVariables false

set_option maxHeartbeats 8000000 in
set_option maxRecDepth 100000 in
theorem verifyMore_walk (W : World) (A : Option Addr) (len cap : Nat) (h : InsIn W A len cap) (t : Int) (ht : (Lit.int .u8 t).wf = true) (m : Int) (hm : (Lit.int .u8 m).wf = true) :
    Calls Try.prog 3 #[.slice A len cap, .int .u8 t, .int .u8 m] W fun e w' => e = .returned (.bool true) ∧ Below W.heap.size W w' := by
  have HI := Lib.hid h
  have b1 := bounds_u8 ht
  have b2 := bounds_u8 hm
  have hw : wrap64 (t + m) = t + m := by unfold wrap64; omega
  clear h ht hm
  go_enter Try.func3, Try.ntmps3
  go_wp2_with (first | (go_at_call 5; refine (few_any A len cap W HI.out).mono ?_; rintro e w1 ⟨⟨l, c, rfl, hl, hs⟩, rfl⟩; have HL := Lib.hid hl; have HS := Lib.hid hs; clear hl hs) | fail)
  obtain ⟨R1, h1⟩ : ∃ r, checkF l t = r := ⟨_, rfl⟩
  obtain ⟨R2, h2⟩ : ∃ r, checkF l (t + m) = r := ⟨_, rfl⟩
  have hlaw := more_law l (t := t) (t' := t + m) (by omega)
  rw [h1, h2] at hlaw
  have H1 := Lib.hid h1
  have H2 := Lib.hid h2
  obtain ⟨i1, e1⟩ := R1
  obtain ⟨i2, e2⟩ := R2
  dsimp only at hlaw
  clear h1 h2
  have hc : (e1 == 0) = true ∧ (e1 != 0) = false ∧ (e2 == 0) = true ∨ (e1 == 0) = false ∧ (e1 != 0) = true ∧ ((e1 == e2) = true ∨ ((e1 == e2) = false ∧ (e1 == 2) = true)) := by
    obtain ⟨k1, k2⟩ := hlaw
    cases ha : e1 == 0 <;> cases hb : e2 == 0 <;> cases hc : e1 == e2 <;> cases hd : e1 == 2 <;> simp_all [bne]
  clear hlaw
  rcases hc with ⟨k1, k2, k3⟩ | ⟨k1, k2, k3 | ⟨k3, k4⟩⟩
  all_goals
    go_wp2_with (first | (go_at_call 6; (with_reducible refine (check_any l HL.out t A c W HS.out).mono ?_); rintro e w1 ⟨rfl, hb1⟩; rw [H1.out]; have B1 := Lib.hid hb1; clear hb1) | (go_at_call 6; (with_reducible refine (check_any l HL.out (t + m) A c w1 (inss_below HS.out B1.out)).mono ?_); rintro e w2 ⟨rfl, hb2⟩; rw [H2.out]; have B2 := Lib.hid (B1.out.trans (hb2.mono B1.out.size)); clear hb2) | (go_at_call 7; refine (live_any _).mono ?_; rintro e w3 ⟨rfl, hb3⟩; have B3 := Lib.hid (B2.out.trans (hb3.mono B2.out.size)); clear hb3))
    go_ret
    exact ⟨rfl, B3.out⟩
end Go.Proofs.Ytbfjnanakmiaaaa
