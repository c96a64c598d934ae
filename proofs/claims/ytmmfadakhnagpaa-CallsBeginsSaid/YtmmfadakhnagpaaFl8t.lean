
/-
  rowlockref23: one of the four.
-/
import Derived.Test.YtmmfadakhnagpaaFl8
namespace Go.Proofs.Ytmmfadakhnagpaa
open Go.RowKit Go.ChangeShapes Go.WideShapes
set_option linter.unusedSimpArgs false
set_option linter.unusedVariables false

set_option maxRecDepth 100000 in
set_option maxHeartbeats 16000000 in
theorem ref_take (at' tv sz : Int) (W : World) : Calls Try.prog 68 #[.int .i64 at', .int .i64 tv, .int .i64 sz] W (FPost W (takeM at' tv sz)) := by
  unfold takeM
  have z1 : sz < 1 → decide (sz < 1) = true := fun h => decide_eq_true h
  by_cases h1 : sz < 1
  · have b1 : decide (sz < 1) = true := decide_eq_true h1
    have HM := Lib.hid True.intro
    have HRT := Lib.hid True.intro
    rw [b1]
    simp only [Bool.true_or, cond_true]
    clear h1 z1 HM HRT
    go_enter Try.func68, Try.ntmps68
    go_wp2_with fail
    go_ret2
    exact FPost.err _ _
  have b1 : decide (sz < 1) = false := decide_eq_false h1
  by_cases h2 : 4 < sz
  · have b2 : decide (4 < sz) = true := decide_eq_true h2
    have b3 : decide (sz > 4) = true := b2
    rw [b1, b2]
    simp only [Bool.or_true, cond_true]
    clear h1 h2 z1
    go_enter Try.func68, Try.ntmps68
    go_wp2_with fail
    go_ret2
    exact FPost.err _ _
  have b2 : decide (4 < sz) = false := decide_eq_false h2
  have b3 : decide (sz > 4) = false := b2
  have HM := Lib.hid (may_any at' tv (sz + 2) sz 4 (by unfold wrap64; omega))
  obtain ⟨mb, hmb⟩ : ∃ b, mayB at' tv (sz + 2) sz 4 = b := ⟨_, rfl⟩
  have hmr : mb = false → (0 ≤ at' ∧ at' ≤ 64) ∧ (0 ≤ tv ∧ tv ≤ 10) := fun h => by
    rw [h] at hmb
    unfold mayB at hmb
    simp only [Bool.or_eq_false_iff, decide_eq_false_iff_not] at hmb
    omega
  rw [hmb] at HM ⊢
  rw [b1, b2]
  simp only [Bool.or_false, cond_false]
  obtain ⟨sz2, hsz2⟩ : ∃ z, sz + 2 = z := ⟨_, rfl⟩
  have e0 : wrap64 (sz + 2) = sz2 := by rw [← hsz2]; unfold wrap64; omega
  rw [hsz2] at HM
  clear hsz2 z1 hmb
  cases mb
  case true =>
    simp only [cond_true]
    clear hmr h1 h2
    go_enter Try.func68, Try.ntmps68
    go_wp2_with (first | (go_at_call 91; refine (HM.out _).mono ?_; rintro e w' ⟨rfl, rfl⟩))
    go_ret2
    exact FPost.err _ _
  case false =>
    have h3 := hmr rfl
    clear hmr
    simp only [cond_false]
    have HR := Lib.hid (show (0 ≤ at' ∧ at' ≤ 64) ∧ (0 ≤ tv ∧ tv ≤ 10) ∧ (0 ≤ sz ∧ sz ≤ 4) from by omega)
    have HAT := Lib.hid (show 0 ≤ at' ∧ at' ≤ 100 from by omega)
    have HAR := Lib.hid (show ∀ x ∈ takeR tv sz, plcB x.op = true → 0 ≤ x.arg ∧ x.arg ≤ 1000 from by
      unfold takeR
      intro x hx
      simp only [List.mem_cons, List.not_mem_nil, or_false] at hx
      rcases hx with rfl | rfl | rfl | rfl | rfl | rfl | rfl | rfl | rfl | rfl | rfl | rfl | rfl | rfl | rfl | rfl | rfl | rfl | rfl | rfl | rfl | rfl | rfl | rfl
      all_goals (intro hx; first | (exact absurd hx (by decide)) | (constructor <;> (dsimp only; omega))))
    obtain ⟨tf, htf⟩ : ∃ t, tv + 1 = t := ⟨_, rfl⟩
    have e1 : wrap64 (tv + 1) = tf := by rw [← htf]; unfold wrap64; omega
    have E1 := Lib.hid htf
    obtain ⟨ts, hts⟩ : ∃ t, tv + 2 = t := ⟨_, rfl⟩
    have e2 : wrap64 (tv + 2) = ts := by rw [← hts]; unfold wrap64; omega
    have E2 := Lib.hid hts
    replace HR := Lib.hid (show (0 ≤ tf ∧ tf ≤ 20) ∧ (0 ≤ ts ∧ ts ≤ 20) ∧ (0 ≤ tv ∧ tv ≤ 10) ∧ (0 ≤ sz ∧ sz ≤ 4) from by omega)
    clear hts
    clear htf h1 h2 h3
    have R := Lib.hid (RI.nil W)
    go_enter Try.func68, Try.ntmps68
    go_upto_region 8 with (first | (go_at_call 29; refine (refO_any _ _ _).mono ?_; rintro e w' ⟨rfl, hb⟩; replace R := Lib.hid (RI.below R.out hb); clear hb) | (go_at_call 28; refine (refP_any _ _).mono ?_; rintro e w' ⟨rfl, hb⟩; replace R := Lib.hid (RI.below R.out hb); clear hb) | (go_at_call 91; refine (HM.out _).mono ?_; rintro e w' ⟨rfl, rfl⟩))
    have R1 := Lib.hid (show RI W (w'.alloc (.cells (insC [⟨21, 23, 0⟩, ⟨4, tv, 0⟩, ⟨20, 22, 0⟩, ⟨4, tf, 0⟩, ⟨6, ts, 0⟩, ⟨4, tv, 0⟩, ⟨1, 0, intV 1⟩, ⟨9, 0, 0⟩, ⟨5, tv, 0⟩]).toArray 64)) (some ⟨w'.heap.size, 0, none⟩) 9 [⟨21, 23, 0⟩, ⟨4, tv, 0⟩, ⟨20, 22, 0⟩, ⟨4, tf, 0⟩, ⟨6, ts, 0⟩, ⟨4, tv, 0⟩, ⟨1, 0, intV 1⟩, ⟨9, 0, 0⟩, ⟨5, tv, 0⟩] from ⟨nrow_made w' W.heap.size [⟨21, 23, 0⟩, ⟨4, tv, 0⟩, ⟨20, 22, 0⟩, ⟨4, tf, 0⟩, ⟨6, ts, 0⟩, ⟨4, tv, 0⟩, ⟨1, 0, intV 1⟩, ⟨9, 0, 0⟩, ⟨5, tv, 0⟩] (List.forall_mem_cons.2 ⟨ok_mk (by decide) ⟨by have := HR.out; omega, by have := HR.out; omega⟩ (by constructor <;> decide), (List.forall_mem_cons.2 ⟨ok_mk (by decide) ⟨by have := HR.out; omega, by have := HR.out; omega⟩ (by constructor <;> decide), (List.forall_mem_cons.2 ⟨ok_mk (by decide) ⟨by have := HR.out; omega, by have := HR.out; omega⟩ (by constructor <;> decide), (List.forall_mem_cons.2 ⟨ok_mk (by decide) ⟨by have := HR.out; omega, by have := HR.out; omega⟩ (by constructor <;> decide), (List.forall_mem_cons.2 ⟨ok_mk (by decide) ⟨by have := HR.out; omega, by have := HR.out; omega⟩ (by constructor <;> decide), (List.forall_mem_cons.2 ⟨ok_mk (by decide) ⟨by have := HR.out; omega, by have := HR.out; omega⟩ (by constructor <;> decide), (List.forall_mem_cons.2 ⟨ok_mk (by decide) ⟨by have := HR.out; omega, by have := HR.out; omega⟩ (by first | exact HV.out | exact intV_w64 _), (List.forall_mem_cons.2 ⟨ok_mk (by decide) ⟨by have := HR.out; omega, by have := HR.out; omega⟩ (by constructor <;> decide), (List.forall_mem_cons.2 ⟨ok_mk (by decide) ⟨by have := HR.out; omega, by have := HR.out; omega⟩ (by constructor <;> decide), (fun x hx => (List.not_mem_nil hx).elim)⟩)⟩)⟩)⟩)⟩)⟩)⟩)⟩)⟩) R.out.bl.size (by simp), R.out.bl.alloc R.out.bl.size _⟩)
    clear R
    change Code.wp _ _ _ _ (w'.alloc (.cells (insC [⟨21, 23, 0⟩, ⟨4, tv, 0⟩, ⟨20, 22, 0⟩, ⟨4, tf, 0⟩, ⟨6, ts, 0⟩, ⟨4, tv, 0⟩, ⟨1, 0, intV 1⟩, ⟨9, 0, 0⟩, ⟨5, tv, 0⟩]).toArray 64))
    generalize w'.alloc _ = wA at R1 ⊢
    obtain ⟨g0, hg0⟩ : ∃ g, w'.heap.size = g := ⟨_, rfl⟩
    rw [hg0] at R1 ⊢
    clear hg0
    obtain ⟨p1, hp1⟩ : ∃ p : List Ins3, [⟨21, 23, 0⟩, ⟨4, tv, 0⟩, ⟨20, 22, 0⟩, ⟨4, tf, 0⟩, ⟨6, ts, 0⟩, ⟨4, tv, 0⟩, ⟨1, 0, intV 1⟩, ⟨9, 0, 0⟩, ⟨5, tv, 0⟩] = p := ⟨_, rfl⟩
    rw [hp1] at R1
    have n1 : p1.length = 9 := by rw [← hp1]; rfl
    have N1 := Lib.hid n1
    have R : Hid (RI W wA (some ⟨g0, 0, none⟩) 9 p1) := R1
    have P1 := Lib.hid hp1
    clear R1 n1 hp1
    rw [show (Value.slice (some ⟨g0, 0, none⟩) 9 9) = Value.slice (some ⟨g0, 0, none⟩) p1.length 9 by rw [N1.out]]
    obtain ⟨p2, hp2⟩ : ∃ p, p1 ++ [⟨4, tf, 0⟩, ⟨1, 0, intV 1⟩, ⟨8, 0, 0⟩, ⟨16, 0, 0⟩, ⟨1, 0, intV sz⟩, ⟨13, 0, 0⟩, ⟨20, 18, 0⟩, ⟨5, tf, 0⟩, ⟨19, 23, 0⟩] = p := ⟨_, rfl⟩
    have H2 := Lib.hid hp2
    have N2 := Lib.hid (show p2.length = 18 by rw [← hp2, List.length_append, N1.out]; rfl)
    clear hp2
    go_upto_region 9 with (first | (at_builtin; refine append_inss rfl (.tmp 48) (.tmp 61) rfl W.heap.size (.slice (some ⟨g0, 0, none⟩) p1.length 9) p1 rfl (R.out.alloc (.cells (insC [⟨4, tf, 0⟩, ⟨1, 0, intV 1⟩, ⟨8, 0, 0⟩, ⟨16, 0, 0⟩, ⟨1, 0, intV sz⟩, ⟨13, 0, 0⟩, ⟨20, 18, 0⟩, ⟨5, tf, 0⟩, ⟨19, 23, 0⟩]).toArray 64)).row.1 R.out.row.2 ⟨w'.heap.size, 0, none⟩ 9 9 [⟨4, tf, 0⟩, ⟨1, 0, intV 1⟩, ⟨8, 0, 0⟩, ⟨16, 0, 0⟩, ⟨1, 0, intV sz⟩, ⟨13, 0, 0⟩, ⟨20, 18, 0⟩, ⟨5, tf, 0⟩, ⟨19, 23, 0⟩] rfl rfl (made_cells w' [⟨4, tf, 0⟩, ⟨1, 0, intV 1⟩, ⟨8, 0, 0⟩, ⟨16, 0, 0⟩, ⟨1, 0, intV sz⟩, ⟨13, 0, 0⟩, ⟨20, 18, 0⟩, ⟨5, tf, 0⟩, ⟨19, 23, 0⟩]) (List.forall_mem_cons.2 ⟨ok_mk (by decide) ⟨by have := HR.out; omega, by have := HR.out; omega⟩ (by constructor <;> decide), (List.forall_mem_cons.2 ⟨ok_mk (by decide) ⟨by have := HR.out; omega, by have := HR.out; omega⟩ (by first | exact HV.out | exact intV_w64 _), (List.forall_mem_cons.2 ⟨ok_mk (by decide) ⟨by have := HR.out; omega, by have := HR.out; omega⟩ (by constructor <;> decide), (List.forall_mem_cons.2 ⟨ok_mk (by decide) ⟨by have := HR.out; omega, by have := HR.out; omega⟩ (by constructor <;> decide), (List.forall_mem_cons.2 ⟨ok_mk (by decide) ⟨by have := HR.out; omega, by have := HR.out; omega⟩ (by first | exact HV.out | exact intV_w64 _), (List.forall_mem_cons.2 ⟨ok_mk (by decide) ⟨by have := HR.out; omega, by have := HR.out; omega⟩ (by constructor <;> decide), (List.forall_mem_cons.2 ⟨ok_mk (by decide) ⟨by have := HR.out; omega, by have := HR.out; omega⟩ (by constructor <;> decide), (List.forall_mem_cons.2 ⟨ok_mk (by decide) ⟨by have := HR.out; omega, by have := HR.out; omega⟩ (by constructor <;> decide), (List.forall_mem_cons.2 ⟨ok_mk (by decide) ⟨by have := HR.out; omega, by have := HR.out; omega⟩ (by constructor <;> decide), (fun x hx => (List.not_mem_nil hx).elim)⟩)⟩)⟩)⟩)⟩)⟩)⟩)⟩)⟩) (by have := N1.out; simp; omega) (R.out.alloc _).bl.size p2 H2.out ?_; intro A2 c2 w' hr hg; have R2 := Lib.hid ((R.out.alloc (.cells (insC [⟨4, tf, 0⟩, ⟨1, 0, intV 1⟩, ⟨8, 0, 0⟩, ⟨16, 0, 0⟩, ⟨1, 0, intV sz⟩, ⟨13, 0, 0⟩, ⟨20, 18, 0⟩, ⟨5, tf, 0⟩, ⟨19, 23, 0⟩]).toArray 64)).more hr hg); clear hr hg) | (go_at_call 29; refine (refO_any _ _ _).mono ?_; rintro e w' ⟨rfl, hb⟩; replace R := Lib.hid (RI.below R.out hb); clear hb) | (go_at_call 28; refine (refP_any _ _).mono ?_; rintro e w' ⟨rfl, hb⟩; replace R := Lib.hid (RI.below R.out hb); clear hb))
    clear R
    have R := R2
    clear R2
    obtain ⟨p3, hp3⟩ : ∃ p, p2 ++ [⟨17, 0, 0⟩, ⟨1, 0, intV 0⟩, ⟨5, tf, 0⟩, ⟨19, 23, 0⟩, ⟨26, 0, 0⟩, ⟨22, 0, 0⟩] = p := ⟨_, rfl⟩
    have H3 := Lib.hid hp3
    have N3 := Lib.hid (show p3.length = 24 by rw [← hp3, List.length_append, N2.out]; rfl)
    clear hp3
    go_upto_region 10 with (first | (at_builtin; refine append_inss rfl (.tmp 63) (.tmp 71) rfl W.heap.size (.slice A2 p2.length c2) p2 rfl (R.out.alloc (.cells (insC [⟨17, 0, 0⟩, ⟨1, 0, intV 0⟩, ⟨5, tf, 0⟩, ⟨19, 23, 0⟩, ⟨26, 0, 0⟩, ⟨22, 0, 0⟩]).toArray 64)).row.1 R.out.row.2 ⟨w'.heap.size, 0, none⟩ 6 6 [⟨17, 0, 0⟩, ⟨1, 0, intV 0⟩, ⟨5, tf, 0⟩, ⟨19, 23, 0⟩, ⟨26, 0, 0⟩, ⟨22, 0, 0⟩] rfl rfl (made_cells w' [⟨17, 0, 0⟩, ⟨1, 0, intV 0⟩, ⟨5, tf, 0⟩, ⟨19, 23, 0⟩, ⟨26, 0, 0⟩, ⟨22, 0, 0⟩]) (List.forall_mem_cons.2 ⟨ok_mk (by decide) ⟨by have := HR.out; omega, by have := HR.out; omega⟩ (by constructor <;> decide), (List.forall_mem_cons.2 ⟨ok_mk (by decide) ⟨by have := HR.out; omega, by have := HR.out; omega⟩ (by first | exact HV.out | exact intV_w64 _), (List.forall_mem_cons.2 ⟨ok_mk (by decide) ⟨by have := HR.out; omega, by have := HR.out; omega⟩ (by constructor <;> decide), (List.forall_mem_cons.2 ⟨ok_mk (by decide) ⟨by have := HR.out; omega, by have := HR.out; omega⟩ (by constructor <;> decide), (List.forall_mem_cons.2 ⟨ok_mk (by decide) ⟨by have := HR.out; omega, by have := HR.out; omega⟩ (by constructor <;> decide), (List.forall_mem_cons.2 ⟨ok_mk (by decide) ⟨by have := HR.out; omega, by have := HR.out; omega⟩ (by constructor <;> decide), (fun x hx => (List.not_mem_nil hx).elim)⟩)⟩)⟩)⟩)⟩)⟩) (by have := N2.out; simp; omega) (R.out.alloc _).bl.size p3 H3.out ?_; intro A3 c3 w' hr hg; have R3 := Lib.hid ((R.out.alloc (.cells (insC [⟨17, 0, 0⟩, ⟨1, 0, intV 0⟩, ⟨5, tf, 0⟩, ⟨19, 23, 0⟩, ⟨26, 0, 0⟩, ⟨22, 0, 0⟩]).toArray 64)).more hr hg); clear hr hg) | (go_at_call 29; refine (refO_any _ _ _).mono ?_; rintro e w' ⟨rfl, hb⟩; replace R := Lib.hid (RI.below R.out hb); clear hb) | (go_at_call 28; refine (refP_any _ _).mono ?_; rintro e w' ⟨rfl, hb⟩; replace R := Lib.hid (RI.below R.out hb); clear hb))
    clear R
    have R := R3
    clear R3
    have HPE := Lib.hid (show p3 = takeR tv sz by rw [← H3.out, ← H2.out, ← P1.out]; unfold takeR; rw [E1.out, E2.out]; try rfl)
    go_wp2_with (go_at_call 90; refine (refAt_any p3 (by rw [N3.out]; decide) R.out.row.2 (by rw [HPE.out]; exact HAR.out) at' HAT.out A3 c3 w' (nrow_inss R.out.row (by rw [N3.out]; decide)).1).mono ?_; rintro e w9 ⟨A9, c9, rfl, hn, hb⟩; have HN := Lib.hid hn; have HB := Lib.hid hb; clear hn hb)
    go_ret2
    rw [← HPE.out]
    exact R.out.fin ⟨A9, c9, rfl, HN.out, HB.out⟩
end Go.Proofs.Ytmmfadakhnagpaa
