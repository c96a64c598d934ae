
/-
  rowlockref23: one of the four.
-/
import Derived.Test.YtmmfadakhnagpaaFl8
namespace Go.Proofs.Ytmmfadakhnagpaa
open Go.RowKit Go.ChangeShapes Go.WideShapes
set_option linter.unusedSimpArgs false
set_option linter.unusedVariables false

set_option maxRecDepth 100000 in
set_option maxHeartbeats 16000000 in
theorem ref_leave (at' tv lc : Int) (W : World) : Calls Try.prog 70 #[.int .i64 at', .int .i64 tv, .int .i64 lc] W (FPost W (leaveM at' tv lc)) := by
  unfold leaveM
  have HM := Lib.hid (may_any at' tv 2 1 1 (by unfold wrap64; omega))
  obtain ⟨mb, hmb⟩ : ∃ b, mayB at' tv 2 1 1 = b := ⟨_, rfl⟩
  have hmr : mb = false → (0 ≤ at' ∧ at' ≤ 64) ∧ (0 ≤ tv ∧ tv ≤ 10) := fun h => by
    rw [h] at hmb
    unfold mayB at hmb
    simp only [Bool.or_eq_false_iff, decide_eq_false_iff_not] at hmb
    omega
  rw [hmb] at HM ⊢
  clear hmb
  cases mb
  case true =>
    simp only [cond_true]
    clear hmr
    go_enter Try.func70, Try.ntmps70
    go_wp2_with (first | (go_at_call 91; refine (HM.out _).mono ?_; rintro e w' ⟨rfl, rfl⟩))
    go_ret2
    exact FPost.err _ _
  case false =>
    have h3 := hmr rfl
    clear hmr
    simp only [cond_false]
    by_cases h1 : lc < 0
    · have b1 : decide (lc < 0) = true := decide_eq_true h1
      rw [b1]
      simp only [Bool.true_or, cond_true]
      clear h1 h3
      go_enter Try.func70, Try.ntmps70
      go_wp2_with (first | (go_at_call 91; refine (HM.out _).mono ?_; rintro e w' ⟨rfl, rfl⟩))
      go_ret2
      exact FPost.err _ _
    have b1 : decide (lc < 0) = false := decide_eq_false h1
    by_cases h2 : 4 ≤ lc
    · have b2 : decide (4 ≤ lc) = true := decide_eq_true h2
      have b3 : decide (lc ≥ 4) = true := b2
      rw [b1, b2]
      simp only [Bool.or_true, cond_true]
      clear h1 h2 h3
      go_enter Try.func70, Try.ntmps70
      go_wp2_with (first | (go_at_call 91; refine (HM.out _).mono ?_; rintro e w' ⟨rfl, rfl⟩))
      go_ret2
      exact FPost.err _ _
    have b2 : decide (4 ≤ lc) = false := decide_eq_false h2
    have b3 : decide (lc ≥ 4) = false := b2
    rw [b1, b2]
    simp only [Bool.or_false, cond_false]
    have HR := Lib.hid (show (0 ≤ at' ∧ at' ≤ 64) ∧ (0 ≤ tv ∧ tv ≤ 10) ∧ (0 ≤ lc ∧ lc ≤ 4) from by omega)
    have HAT := Lib.hid (show 0 ≤ at' ∧ at' ≤ 100 from by omega)
    have HAR := Lib.hid (show ∀ x ∈ leaveR tv lc, plcB x.op = true → 0 ≤ x.arg ∧ x.arg ≤ 1000 from by
      unfold leaveR
      intro x hx
      simp only [List.mem_cons, List.not_mem_nil, or_false] at hx
      rcases hx with rfl | rfl | rfl | rfl | rfl | rfl | rfl | rfl
      all_goals (intro hx; first | (exact absurd hx (by decide)) | (constructor <;> (dsimp only; omega))))
    obtain ⟨tf, htf⟩ : ∃ t, tv + 1 = t := ⟨_, rfl⟩
    have e1 : wrap64 (tv + 1) = tf := by rw [← htf]; unfold wrap64; omega
    have E1 := Lib.hid htf
    replace HR := Lib.hid (show (0 ≤ tf ∧ tf ≤ 20) ∧ (0 ≤ tv ∧ tv ≤ 10) ∧ (0 ≤ lc ∧ lc ≤ 4) from by omega)
    clear htf h1 h2 h3
    have R := Lib.hid (RI.nil W)
    go_enter Try.func70, Try.ntmps70
    obtain ⟨p1, hp1⟩ : ∃ p : List Ins3, [⟨21, 7, 0⟩, ⟨2, lc, 0⟩, ⟨4, tf, 0⟩, ⟨13, 0, 0⟩, ⟨20, 6, 0⟩, ⟨19, 7, 0⟩, ⟨26, 0, 0⟩, ⟨22, 0, 0⟩] = p := ⟨_, rfl⟩
    have HPE := Lib.hid (show p1 = leaveR tv lc by rw [← hp1]; unfold leaveR; rw [E1.out])
    have N1 := Lib.hid (show p1.length = 8 by rw [← hp1]; rfl)
    have P1 := Lib.hid hp1
    clear hp1
    go_wp2_with (first | (go_at_call 91; refine (HM.out _).mono ?_; rintro e w' ⟨rfl, rfl⟩) | (go_at_call 90; replace R := Lib.hid (show RI W (w'.alloc (.cells (insC p1).toArray 64)) (some ⟨w'.heap.size, 0, none⟩) 8 p1 from ⟨by have := nrow_made w' W.heap.size p1 (by rw [← P1.out]; exact (List.forall_mem_cons.2 ⟨ok_mk (by decide) ⟨by have := HR.out; omega, by have := HR.out; omega⟩ (by constructor <;> decide), (List.forall_mem_cons.2 ⟨ok_mk (by decide) ⟨by have := HR.out; omega, by have := HR.out; omega⟩ (by constructor <;> decide), (List.forall_mem_cons.2 ⟨ok_mk (by decide) ⟨by have := HR.out; omega, by have := HR.out; omega⟩ (by constructor <;> decide), (List.forall_mem_cons.2 ⟨ok_mk (by decide) ⟨by have := HR.out; omega, by have := HR.out; omega⟩ (by constructor <;> decide), (List.forall_mem_cons.2 ⟨ok_mk (by decide) ⟨by have := HR.out; omega, by have := HR.out; omega⟩ (by constructor <;> decide), (List.forall_mem_cons.2 ⟨ok_mk (by decide) ⟨by have := HR.out; omega, by have := HR.out; omega⟩ (by constructor <;> decide), (List.forall_mem_cons.2 ⟨ok_mk (by decide) ⟨by have := HR.out; omega, by have := HR.out; omega⟩ (by constructor <;> decide), (List.forall_mem_cons.2 ⟨ok_mk (by decide) ⟨by have := HR.out; omega, by have := HR.out; omega⟩ (by constructor <;> decide), (fun x hx => (List.not_mem_nil hx).elim)⟩)⟩)⟩)⟩)⟩)⟩)⟩)⟩)) R.out.bl.size (by rw [N1.out]; decide); rw [N1.out] at this; exact this, R.out.bl.alloc R.out.bl.size _⟩); change Calls _ _ #[_, .slice (some ⟨w'.heap.size, 0, none⟩) 8 8] (w'.alloc (.cells (insC [⟨21, 7, 0⟩, ⟨2, lc, 0⟩, ⟨4, tf, 0⟩, ⟨13, 0, 0⟩, ⟨20, 6, 0⟩, ⟨19, 7, 0⟩, ⟨26, 0, 0⟩, ⟨22, 0, 0⟩]).toArray 64)) _; rw [P1.out]; rw [show (Value.slice (some ⟨w'.heap.size, 0, none⟩) 8 8) = Value.slice (some ⟨w'.heap.size, 0, none⟩) p1.length 8 by rw [N1.out]]; refine (refAt_any p1 (by rw [N1.out]; decide) R.out.row.2 (by rw [HPE.out]; exact HAR.out) at' HAT.out _ _ _ (nrow_inss R.out.row (by rw [N1.out]; decide)).1).mono ?_; rintro e w9 ⟨A9, c9, rfl, hn, hb⟩; have HN := Lib.hid hn; have HB := Lib.hid hb; clear hn hb) | (go_at_call 29; refine (refO_any _ _ _).mono ?_; rintro e w' ⟨rfl, hb⟩; replace R := Lib.hid (RI.below R.out hb); clear hb) | (go_at_call 28; refine (refP_any _ _).mono ?_; rintro e w' ⟨rfl, hb⟩; replace R := Lib.hid (RI.below R.out hb); clear hb))
    go_ret2
    rw [← HPE.out]
    exact R.out.fin ⟨A9, c9, rfl, HN.out, HB.out⟩
end Go.Proofs.Ytmmfadakhnagpaa
