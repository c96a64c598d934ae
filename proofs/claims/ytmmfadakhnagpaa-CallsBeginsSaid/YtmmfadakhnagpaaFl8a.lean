
/-
  rowlockref23: one of the four.
-/
import Derived.Test.YtmmfadakhnagpaaFl8
namespace Go.Proofs.Ytmmfadakhnagpaa
open Go.RowKit Go.ChangeShapes Go.WideShapes
set_option linter.unusedSimpArgs false
set_option linter.unusedVariables false

set_option maxRecDepth 100000 in
set_option maxHeartbeats 16000000 in
theorem ref_arrive (at' tv sz : Int) (W : World) : Calls Try.prog 69 #[.int .i64 at', .int .i64 tv, .int .i64 sz] W (FPost W (arriveM at' tv sz)) := by
  unfold arriveM
  have HM := Lib.hid (may_any at' tv 2 sz 4 (by unfold wrap64; omega))
  obtain ⟨mb, hmb⟩ : ∃ b, mayB at' tv 2 sz 4 = b := ⟨_, rfl⟩
  have hmr : mb = false → (0 ≤ at' ∧ at' ≤ 64) ∧ (0 ≤ tv ∧ tv ≤ 10) ∧ (1 ≤ sz ∧ sz ≤ 4) := fun h => by
    rw [h] at hmb
    unfold mayB at hmb
    simp only [Bool.or_eq_false_iff, decide_eq_false_iff_not] at hmb
    omega
  rw [hmb] at HM ⊢
  clear hmb
  cases mb
  case true =>
    simp only [cond_true]
    clear hmr
    go_enter Try.func69, Try.ntmps69
    go_wp2_with (first | (go_at_call 91; refine (HM.out _).mono ?_; rintro e w' ⟨rfl, rfl⟩))
    go_ret2
    exact FPost.err _ _
  case false =>
    have h3 := hmr rfl
    clear hmr
    simp only [cond_false]
    have HR := Lib.hid (show (0 ≤ at' ∧ at' ≤ 64) ∧ (0 ≤ tv ∧ tv ≤ 10) ∧ (0 ≤ sz ∧ sz ≤ 4) from by omega)
    have HAT := Lib.hid (show 0 ≤ at' ∧ at' ≤ 100 from by omega)
    have HAR := Lib.hid (show ∀ x ∈ arriveR tv sz, plcB x.op = true → 0 ≤ x.arg ∧ x.arg ≤ 1000 from by
      unfold arriveR
      intro x hx
      simp only [List.mem_cons, List.not_mem_nil, or_false] at hx
      rcases hx with rfl | rfl | rfl | rfl | rfl | rfl | rfl | rfl | rfl | rfl | rfl | rfl | rfl | rfl | rfl | rfl | rfl | rfl | rfl
      all_goals (intro hx; first | (exact absurd hx (by decide)) | (constructor <;> (dsimp only; omega))))
    obtain ⟨tf, htf⟩ : ∃ t, tv + 1 = t := ⟨_, rfl⟩
    have e1 : wrap64 (tv + 1) = tf := by rw [← htf]; unfold wrap64; omega
    have E1 := Lib.hid htf
    replace HR := Lib.hid (show (0 ≤ tf ∧ tf ≤ 20) ∧ (0 ≤ tv ∧ tv ≤ 10) ∧ (0 ≤ sz ∧ sz ≤ 4) from by omega)
    clear htf h3
    have R := Lib.hid (RI.nil W)
    go_enter Try.func69, Try.ntmps69
    go_upto_region 6 with (first | (go_at_call 29; refine (refO_any _ _ _).mono ?_; rintro e w' ⟨rfl, hb⟩; replace R := Lib.hid (RI.below R.out hb); clear hb) | (go_at_call 28; refine (refP_any _ _).mono ?_; rintro e w' ⟨rfl, hb⟩; replace R := Lib.hid (RI.below R.out hb); clear hb) | (go_at_call 91; refine (HM.out _).mono ?_; rintro e w' ⟨rfl, rfl⟩))
    have R1 := Lib.hid (show RI W (w'.alloc (.cells (insC [⟨21, 18, 0⟩, ⟨4, tf, 0⟩, ⟨4, tv, 0⟩, ⟨1, 0, intV 1⟩, ⟨8, 0, 0⟩, ⟨16, 0, 0⟩, ⟨1, 0, intV sz⟩, ⟨14, 0, 0⟩, ⟨20, 17, 0⟩]).toArray 64)) (some ⟨w'.heap.size, 0, none⟩) 9 [⟨21, 18, 0⟩, ⟨4, tf, 0⟩, ⟨4, tv, 0⟩, ⟨1, 0, intV 1⟩, ⟨8, 0, 0⟩, ⟨16, 0, 0⟩, ⟨1, 0, intV sz⟩, ⟨14, 0, 0⟩, ⟨20, 17, 0⟩] from ⟨nrow_made w' W.heap.size [⟨21, 18, 0⟩, ⟨4, tf, 0⟩, ⟨4, tv, 0⟩, ⟨1, 0, intV 1⟩, ⟨8, 0, 0⟩, ⟨16, 0, 0⟩, ⟨1, 0, intV sz⟩, ⟨14, 0, 0⟩, ⟨20, 17, 0⟩] (List.forall_mem_cons.2 ⟨ok_mk (by decide) ⟨by have := HR.out; omega, by have := HR.out; omega⟩ (by constructor <;> decide), (List.forall_mem_cons.2 ⟨ok_mk (by decide) ⟨by have := HR.out; omega, by have := HR.out; omega⟩ (by constructor <;> decide), (List.forall_mem_cons.2 ⟨ok_mk (by decide) ⟨by have := HR.out; omega, by have := HR.out; omega⟩ (by constructor <;> decide), (List.forall_mem_cons.2 ⟨ok_mk (by decide) ⟨by have := HR.out; omega, by have := HR.out; omega⟩ (by first | exact HV.out | exact intV_w64 _), (List.forall_mem_cons.2 ⟨ok_mk (by decide) ⟨by have := HR.out; omega, by have := HR.out; omega⟩ (by constructor <;> decide), (List.forall_mem_cons.2 ⟨ok_mk (by decide) ⟨by have := HR.out; omega, by have := HR.out; omega⟩ (by constructor <;> decide), (List.forall_mem_cons.2 ⟨ok_mk (by decide) ⟨by have := HR.out; omega, by have := HR.out; omega⟩ (by first | exact HV.out | exact intV_w64 _), (List.forall_mem_cons.2 ⟨ok_mk (by decide) ⟨by have := HR.out; omega, by have := HR.out; omega⟩ (by constructor <;> decide), (List.forall_mem_cons.2 ⟨ok_mk (by decide) ⟨by have := HR.out; omega, by have := HR.out; omega⟩ (by constructor <;> decide), (fun x hx => (List.not_mem_nil hx).elim)⟩)⟩)⟩)⟩)⟩)⟩)⟩)⟩)⟩) R.out.bl.size (by simp), R.out.bl.alloc R.out.bl.size _⟩)
    clear R
    change Code.wp _ _ _ _ (w'.alloc (.cells (insC [⟨21, 18, 0⟩, ⟨4, tf, 0⟩, ⟨4, tv, 0⟩, ⟨1, 0, intV 1⟩, ⟨8, 0, 0⟩, ⟨16, 0, 0⟩, ⟨1, 0, intV sz⟩, ⟨14, 0, 0⟩, ⟨20, 17, 0⟩]).toArray 64))
    generalize w'.alloc _ = wA at R1 ⊢
    obtain ⟨g0, hg0⟩ : ∃ g, w'.heap.size = g := ⟨_, rfl⟩
    rw [hg0] at R1 ⊢
    clear hg0
    obtain ⟨p1, hp1⟩ : ∃ p : List Ins3, [⟨21, 18, 0⟩, ⟨4, tf, 0⟩, ⟨4, tv, 0⟩, ⟨1, 0, intV 1⟩, ⟨8, 0, 0⟩, ⟨16, 0, 0⟩, ⟨1, 0, intV sz⟩, ⟨14, 0, 0⟩, ⟨20, 17, 0⟩] = p := ⟨_, rfl⟩
    rw [hp1] at R1
    have n1 : p1.length = 9 := by rw [← hp1]; rfl
    have N1 := Lib.hid n1
    have R : Hid (RI W wA (some ⟨g0, 0, none⟩) 9 p1) := R1
    have P1 := Lib.hid hp1
    clear R1 n1 hp1
    rw [show (Value.slice (some ⟨g0, 0, none⟩) 9 9) = Value.slice (some ⟨g0, 0, none⟩) p1.length 9 by rw [N1.out]]
    obtain ⟨p2, hp2⟩ : ∃ p, p1 ++ [⟨17, 0, 0⟩, ⟨1, 0, intV 0⟩, ⟨5, tv, 0⟩, ⟨4, tf, 0⟩, ⟨1, 0, intV 1⟩, ⟨8, 0, 0⟩, ⟨5, tf, 0⟩, ⟨19, 18, 0⟩, ⟨5, tv, 0⟩, ⟨22, 0, 0⟩] = p := ⟨_, rfl⟩
    have H2 := Lib.hid hp2
    have N2 := Lib.hid (show p2.length = 19 by rw [← hp2, List.length_append, N1.out]; rfl)
    clear hp2
    go_upto_region 7 with (first | (at_builtin; refine append_inss rfl (.tmp 35) (.tmp 50) rfl W.heap.size (.slice (some ⟨g0, 0, none⟩) p1.length 9) p1 rfl (R.out.alloc (.cells (insC [⟨17, 0, 0⟩, ⟨1, 0, intV 0⟩, ⟨5, tv, 0⟩, ⟨4, tf, 0⟩, ⟨1, 0, intV 1⟩, ⟨8, 0, 0⟩, ⟨5, tf, 0⟩, ⟨19, 18, 0⟩, ⟨5, tv, 0⟩, ⟨22, 0, 0⟩]).toArray 64)).row.1 R.out.row.2 ⟨w'.heap.size, 0, none⟩ 10 10 [⟨17, 0, 0⟩, ⟨1, 0, intV 0⟩, ⟨5, tv, 0⟩, ⟨4, tf, 0⟩, ⟨1, 0, intV 1⟩, ⟨8, 0, 0⟩, ⟨5, tf, 0⟩, ⟨19, 18, 0⟩, ⟨5, tv, 0⟩, ⟨22, 0, 0⟩] rfl rfl (made_cells w' [⟨17, 0, 0⟩, ⟨1, 0, intV 0⟩, ⟨5, tv, 0⟩, ⟨4, tf, 0⟩, ⟨1, 0, intV 1⟩, ⟨8, 0, 0⟩, ⟨5, tf, 0⟩, ⟨19, 18, 0⟩, ⟨5, tv, 0⟩, ⟨22, 0, 0⟩]) (List.forall_mem_cons.2 ⟨ok_mk (by decide) ⟨by have := HR.out; omega, by have := HR.out; omega⟩ (by constructor <;> decide), (List.forall_mem_cons.2 ⟨ok_mk (by decide) ⟨by have := HR.out; omega, by have := HR.out; omega⟩ (by first | exact HV.out | exact intV_w64 _), (List.forall_mem_cons.2 ⟨ok_mk (by decide) ⟨by have := HR.out; omega, by have := HR.out; omega⟩ (by constructor <;> decide), (List.forall_mem_cons.2 ⟨ok_mk (by decide) ⟨by have := HR.out; omega, by have := HR.out; omega⟩ (by constructor <;> decide), (List.forall_mem_cons.2 ⟨ok_mk (by decide) ⟨by have := HR.out; omega, by have := HR.out; omega⟩ (by first | exact HV.out | exact intV_w64 _), (List.forall_mem_cons.2 ⟨ok_mk (by decide) ⟨by have := HR.out; omega, by have := HR.out; omega⟩ (by constructor <;> decide), (List.forall_mem_cons.2 ⟨ok_mk (by decide) ⟨by have := HR.out; omega, by have := HR.out; omega⟩ (by constructor <;> decide), (List.forall_mem_cons.2 ⟨ok_mk (by decide) ⟨by have := HR.out; omega, by have := HR.out; omega⟩ (by constructor <;> decide), (List.forall_mem_cons.2 ⟨ok_mk (by decide) ⟨by have := HR.out; omega, by have := HR.out; omega⟩ (by constructor <;> decide), (List.forall_mem_cons.2 ⟨ok_mk (by decide) ⟨by have := HR.out; omega, by have := HR.out; omega⟩ (by constructor <;> decide), (fun x hx => (List.not_mem_nil hx).elim)⟩)⟩)⟩)⟩)⟩)⟩)⟩)⟩)⟩)⟩) (by have := N1.out; simp; omega) (R.out.alloc _).bl.size p2 H2.out ?_; intro A2 c2 w' hr hg; have R2 := Lib.hid ((R.out.alloc (.cells (insC [⟨17, 0, 0⟩, ⟨1, 0, intV 0⟩, ⟨5, tv, 0⟩, ⟨4, tf, 0⟩, ⟨1, 0, intV 1⟩, ⟨8, 0, 0⟩, ⟨5, tf, 0⟩, ⟨19, 18, 0⟩, ⟨5, tv, 0⟩, ⟨22, 0, 0⟩]).toArray 64)).more hr hg); clear hr hg) | (go_at_call 29; refine (refO_any _ _ _).mono ?_; rintro e w' ⟨rfl, hb⟩; replace R := Lib.hid (RI.below R.out hb); clear hb) | (go_at_call 28; refine (refP_any _ _).mono ?_; rintro e w' ⟨rfl, hb⟩; replace R := Lib.hid (RI.below R.out hb); clear hb))
    clear R
    have R := R2
    clear R2
    have HPE := Lib.hid (show p2 = arriveR tv sz by rw [← H2.out, ← P1.out]; unfold arriveR; rw [E1.out]; try rfl)
    go_wp2_with (go_at_call 90; refine (refAt_any p2 (by rw [N2.out]; decide) R.out.row.2 (by rw [HPE.out]; exact HAR.out) at' HAT.out A2 c2 w' (nrow_inss R.out.row (by rw [N2.out]; decide)).1).mono ?_; rintro e w9 ⟨A9, c9, rfl, hn, hb⟩; have HN := Lib.hid hn; have HB := Lib.hid hb; clear hn hb)
    go_ret2
    rw [← HPE.out]
    exact R.out.fin ⟨A9, c9, rfl, HN.out, HB.out⟩
end Go.Proofs.Ytmmfadakhnagpaa
