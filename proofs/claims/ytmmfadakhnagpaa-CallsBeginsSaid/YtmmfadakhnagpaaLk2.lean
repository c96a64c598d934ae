
/-
  locks and rowlockref22: Lock, Unlock, Down, Up.
-/
import Derived.Test.YtmmfadakhnagpaaLk1
import Derived.Deep.CutBlock
import Derived.Handy
namespace Go.Proofs.Ytmmfadakhnagpaa
open Go.RowKit Go.ChangeShapes Go.WideShapes
set_option linter.unusedSimpArgs false
set_option linter.unusedVariables false

theorem mayL_alt (at' tv who : Int) : mayL at' tv who = !(decide (at' < 0) || (decide (64 < at') || (decide (tv < 0) || (decide (12 ≤ tv) || (decide (who < 0) || decide (4 ≤ who)))))) := by
  unfold mayL
  rw [Bool.eq_iff_iff]
  simp
set_option maxHeartbeats 4000000 in
theorem refMayL_any (at' tv who : Int) (w : World) : Calls Try.prog 89 #[.int .i64 at', .int .i64 tv, .int .i64 who] w fun e w' => e = .returned (.int .i64 (bif mayL at' tv who then 0 else 2)) ∧ w = w' := by
  rw [mayL_alt]
  cases h0 : decide (at' < 0)
  · skip
    cases h1 : decide (64 < at')
    · have g1 : decide (at' > 64) = false := h1
      cases h2 : decide (tv < 0)
      · skip
        cases h3 : decide (12 ≤ tv)
        · have g3 : decide (tv ≥ 12) = false := h3
          cases h4 : decide (who < 0)
          · skip
            cases h5 : decide (4 ≤ who)
            · have g5 : decide (who ≥ 4) = false := h5
              go_enter Try.func89, Try.ntmps89
              go_wp2_with fail
              go_ret
              exact ⟨rfl, rfl⟩
            · have g5 : decide (who ≥ 4) = true := h5
              go_enter Try.func89, Try.ntmps89
              go_wp2_with fail
              go_ret
              exact ⟨rfl, rfl⟩
          · go_enter Try.func89, Try.ntmps89
            go_wp2_with fail
            go_ret
            exact ⟨rfl, rfl⟩
        · have g3 : decide (tv ≥ 12) = true := h3
          go_enter Try.func89, Try.ntmps89
          go_wp2_with fail
          go_ret
          exact ⟨rfl, rfl⟩
      · go_enter Try.func89, Try.ntmps89
        go_wp2_with fail
        go_ret
        exact ⟨rfl, rfl⟩
    · have g1 : decide (at' > 64) = true := h1
      go_enter Try.func89, Try.ntmps89
      go_wp2_with fail
      go_ret
      exact ⟨rfl, rfl⟩
  · go_enter Try.func89, Try.ntmps89
    go_wp2_with fail
    go_ret
    exact ⟨rfl, rfl⟩
theorem lock_j (tv who at' : Int) : blkJ (lockR tv who) at' = blkA (lockR tv who) at' := by unfold blkJ blkA; rfl
set_option maxRecDepth 100000 in
set_option maxHeartbeats 16000000 in
theorem l_lock (at' tv who : Int) (W : World) : Calls Try.prog 46 #[.int .i64 at', .int .i64 tv, .int .i64 who] W (FPost W (loF at' tv who)) := by
  unfold loF
  have HM := Lib.hid (lmay_any at' tv who)
  have hb : mayL at' tv who = true → (0 ≤ at' ∧ at' ≤ 64) ∧ (0 ≤ tv ∧ tv ≤ 11) ∧ (0 ≤ who ∧ who ≤ 3) := fun h => by unfold mayL at h; simp at h; omega
  obtain ⟨mb, hmb⟩ : ∃ b, mayL at' tv who = b := ⟨_, rfl⟩
  rw [hmb] at HM hb ⊢
  clear hmb
  cases mb
  case false =>
    simp only [cond_false]
    clear hb
    go_enter Try.func46, Try.ntmps46
    go_wp2_with (go_at_call 79; refine (HM.out _).mono ?_; rintro e w' ⟨rfl, rfl⟩)
    go_ret2
    exact FPost.err _ _
  case true =>
    simp only [cond_true]
    have h3 := hb rfl
    clear hb
    have HAT := Lib.hid (show 0 ≤ at' ∧ at' ≤ 100 from by omega)
    have HR := Lib.hid (show 0 ≤ tv ∧ tv ≤ 11 from h3.2.1)
    have HAR := Lib.hid (show ∀ x ∈ lockR tv who, jmpI x.op = true → 0 ≤ x.arg ∧ x.arg ≤ 1000 from by
      unfold lockR
      intro x hx
      simp only [List.mem_cons, List.not_mem_nil, or_false] at hx
      rcases hx with rfl | rfl | rfl | rfl | rfl | rfl | rfl
      all_goals (intro hx; first | (exact absurd hx (by decide)) | (constructor <;> (dsimp only; omega))))
    obtain ⟨wh, hwh⟩ : ∃ t, who + 1 = t := ⟨_, rfl⟩
    have e1 : wrap64 (who + 1) = wh := by rw [← hwh]; unfold wrap64; omega
    have E1 := Lib.hid hwh
    clear hwh
    clear h3
    have R := Lib.hid (RI.nil W)
    obtain ⟨p1, hp1⟩ : ∃ p : List Ins3, [⟨21, 6, 0⟩, ⟨4, tv, 0⟩, ⟨20, 4, 0⟩, ⟨26, 0, 0⟩, ⟨1, 0, intV wh⟩, ⟨5, tv, 0⟩, ⟨22, 0, 0⟩] = p := ⟨_, rfl⟩
    have HPE := Lib.hid (show p1 = lockR tv who by rw [← hp1]; unfold lockR; rw [E1.out])
    have N1 := Lib.hid (show p1.length = 7 by rw [← hp1]; rfl)
    have P1 := Lib.hid hp1
    clear hp1
    go_enter Try.func46, Try.ntmps46
    go_wp2_with (first | (go_at_call 79; refine (HM.out _).mono ?_; rintro e w' ⟨rfl, rfl⟩) | (go_at_call 80; replace R := Lib.hid (show RI W (w'.alloc (.cells (insC p1).toArray 64)) (some ⟨w'.heap.size, 0, none⟩) 7 p1 from ⟨by have := nrow_made w' W.heap.size p1 (by rw [← P1.out]; exact (List.forall_mem_cons.2 ⟨ok_mk (by decide) ⟨by have := HR.out; omega, by have := HR.out; omega⟩ (by constructor <;> decide), (List.forall_mem_cons.2 ⟨ok_mk (by decide) ⟨by have := HR.out; omega, by have := HR.out; omega⟩ (by constructor <;> decide), (List.forall_mem_cons.2 ⟨ok_mk (by decide) ⟨by have := HR.out; omega, by have := HR.out; omega⟩ (by constructor <;> decide), (List.forall_mem_cons.2 ⟨ok_mk (by decide) ⟨by have := HR.out; omega, by have := HR.out; omega⟩ (by constructor <;> decide), (List.forall_mem_cons.2 ⟨ok_mk (by decide) ⟨by have := HR.out; omega, by have := HR.out; omega⟩ (intV_w64 _), (List.forall_mem_cons.2 ⟨ok_mk (by decide) ⟨by have := HR.out; omega, by have := HR.out; omega⟩ (by constructor <;> decide), (List.forall_mem_cons.2 ⟨ok_mk (by decide) ⟨by have := HR.out; omega, by have := HR.out; omega⟩ (by constructor <;> decide), (fun x hx => (List.not_mem_nil hx).elim)⟩)⟩)⟩)⟩)⟩)⟩)⟩)) R.out.bl.size (by rw [N1.out]; decide); rw [N1.out] at this; exact this, R.out.bl.alloc R.out.bl.size _⟩); change Calls _ _ #[_, .slice (some ⟨w'.heap.size, 0, none⟩) 7 7] (w'.alloc (.cells (insC [⟨21, 6, 0⟩, ⟨4, tv, 0⟩, ⟨20, 4, 0⟩, ⟨26, 0, 0⟩, ⟨1, 0, intV wh⟩, ⟨5, tv, 0⟩, ⟨22, 0, 0⟩]).toArray 64)) _; rw [P1.out]; rw [show (Value.slice (some ⟨w'.heap.size, 0, none⟩) 7 7) = Value.slice (some ⟨w'.heap.size, 0, none⟩) p1.length 7 by rw [N1.out]]; refine (lblock_any p1 (by rw [N1.out]; decide) (by rw [N1.out]; decide) R.out.row.2 (by rw [HPE.out]; exact HAR.out) at' HAT.out _ _ _ (nrow_inss R.out.row (by rw [N1.out]; decide)).1 (by rw [N1.out]; decide)).mono ?_; rintro e w9 ⟨A9, c9, rfl, hn, hb⟩; have HN := Lib.hid hn; have HB := Lib.hid hb; clear hn hb) | (go_at_call 81; refine (lwith_any _ _ _).mono ?_; rintro e w' ⟨rfl, hb⟩; replace R := Lib.hid (RI.below R.out hb); clear hb) | (go_at_call 82; refine (lop_any _ _).mono ?_; rintro e w' ⟨rfl, hb⟩; replace R := Lib.hid (RI.below R.out hb); clear hb) | (go_at_call 83; refine (lnum_any _ _).mono ?_; rintro e w' ⟨rfl, hb⟩; replace R := Lib.hid (RI.below R.out hb); clear hb))
    go_ret2
    rw [← lock_j, ← HPE.out]
    exact R.out.fin ⟨A9, c9, rfl, HN.out, HB.out⟩
set_option maxRecDepth 100000 in
set_option maxHeartbeats 16000000 in
theorem ref_lock (at' tv who : Int) (W : World) : Calls Try.prog 63 #[.int .i64 at', .int .i64 tv, .int .i64 who] W (FPost W (loF at' tv who)) := by
  unfold loF
  have HM := Lib.hid (refMayL_any at' tv who)
  have hb : mayL at' tv who = true → (0 ≤ at' ∧ at' ≤ 64) ∧ (0 ≤ tv ∧ tv ≤ 11) ∧ (0 ≤ who ∧ who ≤ 3) := fun h => by unfold mayL at h; simp at h; omega
  obtain ⟨mb, hmb⟩ : ∃ b, mayL at' tv who = b := ⟨_, rfl⟩
  rw [hmb] at HM hb ⊢
  clear hmb
  cases mb
  case false =>
    simp only [cond_false]
    clear hb
    go_enter Try.func63, Try.ntmps63
    go_wp2_with (go_at_call 89; refine (HM.out _).mono ?_; rintro e w' ⟨rfl, rfl⟩)
    go_ret2
    exact FPost.err _ _
  case true =>
    simp only [cond_true]
    have h3 := hb rfl
    clear hb
    have HAT := Lib.hid (show 0 ≤ at' ∧ at' ≤ 100 from by omega)
    have HR := Lib.hid (show 0 ≤ tv ∧ tv ≤ 11 from h3.2.1)
    have HAR := Lib.hid (show ∀ x ∈ lockR tv who, plcB x.op = true → 0 ≤ x.arg ∧ x.arg ≤ 1000 from by
      unfold lockR
      intro x hx
      simp only [List.mem_cons, List.not_mem_nil, or_false] at hx
      rcases hx with rfl | rfl | rfl | rfl | rfl | rfl | rfl
      all_goals (intro hx; first | (exact absurd hx (by decide)) | (constructor <;> (dsimp only; omega))))
    obtain ⟨wh, hwh⟩ : ∃ t, who + 1 = t := ⟨_, rfl⟩
    have e1 : wrap64 (1 + who) = wh := by rw [← hwh]; unfold wrap64; omega
    have E1 := Lib.hid hwh
    clear hwh
    clear h3
    have R := Lib.hid (RI.nil W)
    obtain ⟨p1, hp1⟩ : ∃ p : List Ins3, [⟨21, 6, 0⟩, ⟨4, tv, 0⟩, ⟨20, 4, 0⟩, ⟨26, 0, 0⟩, ⟨1, 0, intV wh⟩, ⟨5, tv, 0⟩, ⟨22, 0, 0⟩] = p := ⟨_, rfl⟩
    have HPE := Lib.hid (show p1 = lockR tv who by rw [← hp1]; unfold lockR; rw [E1.out])
    have N1 := Lib.hid (show p1.length = 7 by rw [← hp1]; rfl)
    have P1 := Lib.hid hp1
    clear hp1
    go_enter Try.func63, Try.ntmps63
    go_wp2_with (first | (go_at_call 89; refine (HM.out _).mono ?_; rintro e w' ⟨rfl, rfl⟩) | (go_at_call 90; replace R := Lib.hid (show RI W (w'.alloc (.cells (insC p1).toArray 64)) (some ⟨w'.heap.size, 0, none⟩) 7 p1 from ⟨by have := nrow_made w' W.heap.size p1 (by rw [← P1.out]; exact (List.forall_mem_cons.2 ⟨ok_mk (by decide) ⟨by have := HR.out; omega, by have := HR.out; omega⟩ (by constructor <;> decide), (List.forall_mem_cons.2 ⟨ok_mk (by decide) ⟨by have := HR.out; omega, by have := HR.out; omega⟩ (by constructor <;> decide), (List.forall_mem_cons.2 ⟨ok_mk (by decide) ⟨by have := HR.out; omega, by have := HR.out; omega⟩ (by constructor <;> decide), (List.forall_mem_cons.2 ⟨ok_mk (by decide) ⟨by have := HR.out; omega, by have := HR.out; omega⟩ (by constructor <;> decide), (List.forall_mem_cons.2 ⟨ok_mk (by decide) ⟨by have := HR.out; omega, by have := HR.out; omega⟩ (intV_w64 _), (List.forall_mem_cons.2 ⟨ok_mk (by decide) ⟨by have := HR.out; omega, by have := HR.out; omega⟩ (by constructor <;> decide), (List.forall_mem_cons.2 ⟨ok_mk (by decide) ⟨by have := HR.out; omega, by have := HR.out; omega⟩ (by constructor <;> decide), (fun x hx => (List.not_mem_nil hx).elim)⟩)⟩)⟩)⟩)⟩)⟩)⟩)) R.out.bl.size (by rw [N1.out]; decide); rw [N1.out] at this; exact this, R.out.bl.alloc R.out.bl.size _⟩); change Calls _ _ #[_, .slice (some ⟨w'.heap.size, 0, none⟩) 7 7] (w'.alloc (.cells (insC [⟨21, 6, 0⟩, ⟨4, tv, 0⟩, ⟨20, 4, 0⟩, ⟨26, 0, 0⟩, ⟨1, 0, intV wh⟩, ⟨5, tv, 0⟩, ⟨22, 0, 0⟩]).toArray 64)) _; rw [P1.out]; rw [show (Value.slice (some ⟨w'.heap.size, 0, none⟩) 7 7) = Value.slice (some ⟨w'.heap.size, 0, none⟩) p1.length 7 by rw [N1.out]]; refine (refAt_any p1 (by rw [N1.out]; decide) R.out.row.2 (by rw [HPE.out]; exact HAR.out) at' HAT.out _ _ _ (nrow_inss R.out.row (by rw [N1.out]; decide)).1).mono ?_; rintro e w9 ⟨A9, c9, rfl, hn, hb⟩; have HN := Lib.hid hn; have HB := Lib.hid hb; clear hn hb) | (go_at_call 29; refine (refO_any _ _ _).mono ?_; rintro e w' ⟨rfl, hb⟩; replace R := Lib.hid (RI.below R.out hb); clear hb) | (go_at_call 28; refine (refP_any _ _).mono ?_; rintro e w' ⟨rfl, hb⟩; replace R := Lib.hid (RI.below R.out hb); clear hb))
    go_ret2
    rw [← HPE.out]
    exact R.out.fin ⟨A9, c9, rfl, HN.out, HB.out⟩
theorem unlock_j (tv who at' : Int) : blkJ (unlockR tv who) at' = blkA (unlockR tv who) at' := by unfold blkJ blkA; rfl
set_option maxRecDepth 100000 in
set_option maxHeartbeats 16000000 in
theorem l_unlock (at' tv who : Int) (W : World) : Calls Try.prog 48 #[.int .i64 at', .int .i64 tv, .int .i64 who] W (FPost W (unF at' tv who)) := by
  unfold unF
  have HM := Lib.hid (lmay_any at' tv who)
  have hb : mayL at' tv who = true → (0 ≤ at' ∧ at' ≤ 64) ∧ (0 ≤ tv ∧ tv ≤ 11) ∧ (0 ≤ who ∧ who ≤ 3) := fun h => by unfold mayL at h; simp at h; omega
  obtain ⟨mb, hmb⟩ : ∃ b, mayL at' tv who = b := ⟨_, rfl⟩
  rw [hmb] at HM hb ⊢
  clear hmb
  cases mb
  case false =>
    simp only [cond_false]
    clear hb
    go_enter Try.func48, Try.ntmps48
    go_wp2_with (go_at_call 79; refine (HM.out _).mono ?_; rintro e w' ⟨rfl, rfl⟩)
    go_ret2
    exact FPost.err _ _
  case true =>
    simp only [cond_true]
    have h3 := hb rfl
    clear hb
    have HAT := Lib.hid (show 0 ≤ at' ∧ at' ≤ 100 from by omega)
    have HR := Lib.hid (show 0 ≤ tv ∧ tv ≤ 11 from h3.2.1)
    have HAR := Lib.hid (show ∀ x ∈ unlockR tv who, jmpI x.op = true → 0 ≤ x.arg ∧ x.arg ≤ 1000 from by
      unfold unlockR
      intro x hx
      simp only [List.mem_cons, List.not_mem_nil, or_false] at hx
      rcases hx with rfl | rfl | rfl | rfl | rfl | rfl | rfl | rfl | rfl | rfl | rfl
      all_goals (intro hx; first | (exact absurd hx (by decide)) | (constructor <;> (dsimp only; omega))))
    obtain ⟨wh, hwh⟩ : ∃ t, who + 1 = t := ⟨_, rfl⟩
    have e1 : wrap64 (who + 1) = wh := by rw [← hwh]; unfold wrap64; omega
    have E1 := Lib.hid hwh
    clear hwh
    clear h3
    have R := Lib.hid (RI.nil W)
    obtain ⟨p1, hp1⟩ : ∃ p : List Ins3, [⟨21, 10, 0⟩, ⟨4, tv, 0⟩, ⟨1, 0, intV wh⟩, ⟨14, 0, 0⟩, ⟨20, 9, 0⟩, ⟨1, 0, intV 0⟩, ⟨5, tv, 0⟩, ⟨1, 0, intV 1⟩, ⟨19, 10, 0⟩, ⟨1, 0, intV 0⟩, ⟨22, 0, 0⟩] = p := ⟨_, rfl⟩
    have HPE := Lib.hid (show p1 = unlockR tv who by rw [← hp1]; unfold unlockR; rw [E1.out])
    have N1 := Lib.hid (show p1.length = 11 by rw [← hp1]; rfl)
    have P1 := Lib.hid hp1
    clear hp1
    go_enter Try.func48, Try.ntmps48
    go_wp2_with (first | (go_at_call 79; refine (HM.out _).mono ?_; rintro e w' ⟨rfl, rfl⟩) | (go_at_call 80; replace R := Lib.hid (show RI W (w'.alloc (.cells (insC p1).toArray 64)) (some ⟨w'.heap.size, 0, none⟩) 11 p1 from ⟨by have := nrow_made w' W.heap.size p1 (by rw [← P1.out]; exact (List.forall_mem_cons.2 ⟨ok_mk (by decide) ⟨by have := HR.out; omega, by have := HR.out; omega⟩ (by constructor <;> decide), (List.forall_mem_cons.2 ⟨ok_mk (by decide) ⟨by have := HR.out; omega, by have := HR.out; omega⟩ (by constructor <;> decide), (List.forall_mem_cons.2 ⟨ok_mk (by decide) ⟨by have := HR.out; omega, by have := HR.out; omega⟩ (intV_w64 _), (List.forall_mem_cons.2 ⟨ok_mk (by decide) ⟨by have := HR.out; omega, by have := HR.out; omega⟩ (by constructor <;> decide), (List.forall_mem_cons.2 ⟨ok_mk (by decide) ⟨by have := HR.out; omega, by have := HR.out; omega⟩ (by constructor <;> decide), (List.forall_mem_cons.2 ⟨ok_mk (by decide) ⟨by have := HR.out; omega, by have := HR.out; omega⟩ (intV_w64 _), (List.forall_mem_cons.2 ⟨ok_mk (by decide) ⟨by have := HR.out; omega, by have := HR.out; omega⟩ (by constructor <;> decide), (List.forall_mem_cons.2 ⟨ok_mk (by decide) ⟨by have := HR.out; omega, by have := HR.out; omega⟩ (intV_w64 _), (List.forall_mem_cons.2 ⟨ok_mk (by decide) ⟨by have := HR.out; omega, by have := HR.out; omega⟩ (by constructor <;> decide), (List.forall_mem_cons.2 ⟨ok_mk (by decide) ⟨by have := HR.out; omega, by have := HR.out; omega⟩ (intV_w64 _), (List.forall_mem_cons.2 ⟨ok_mk (by decide) ⟨by have := HR.out; omega, by have := HR.out; omega⟩ (by constructor <;> decide), (fun x hx => (List.not_mem_nil hx).elim)⟩)⟩)⟩)⟩)⟩)⟩)⟩)⟩)⟩)⟩)⟩)) R.out.bl.size (by rw [N1.out]; decide); rw [N1.out] at this; exact this, R.out.bl.alloc R.out.bl.size _⟩); change Calls _ _ #[_, .slice (some ⟨w'.heap.size, 0, none⟩) 11 11] (w'.alloc (.cells (insC [⟨21, 10, 0⟩, ⟨4, tv, 0⟩, ⟨1, 0, intV wh⟩, ⟨14, 0, 0⟩, ⟨20, 9, 0⟩, ⟨1, 0, intV 0⟩, ⟨5, tv, 0⟩, ⟨1, 0, intV 1⟩, ⟨19, 10, 0⟩, ⟨1, 0, intV 0⟩, ⟨22, 0, 0⟩]).toArray 64)) _; rw [P1.out]; rw [show (Value.slice (some ⟨w'.heap.size, 0, none⟩) 11 11) = Value.slice (some ⟨w'.heap.size, 0, none⟩) p1.length 11 by rw [N1.out]]; refine (lblock_any p1 (by rw [N1.out]; decide) (by rw [N1.out]; decide) R.out.row.2 (by rw [HPE.out]; exact HAR.out) at' HAT.out _ _ _ (nrow_inss R.out.row (by rw [N1.out]; decide)).1 (by rw [N1.out]; decide)).mono ?_; rintro e w9 ⟨A9, c9, rfl, hn, hb⟩; have HN := Lib.hid hn; have HB := Lib.hid hb; clear hn hb) | (go_at_call 81; refine (lwith_any _ _ _).mono ?_; rintro e w' ⟨rfl, hb⟩; replace R := Lib.hid (RI.below R.out hb); clear hb) | (go_at_call 82; refine (lop_any _ _).mono ?_; rintro e w' ⟨rfl, hb⟩; replace R := Lib.hid (RI.below R.out hb); clear hb) | (go_at_call 83; refine (lnum_any _ _).mono ?_; rintro e w' ⟨rfl, hb⟩; replace R := Lib.hid (RI.below R.out hb); clear hb))
    go_ret2
    rw [← unlock_j, ← HPE.out]
    exact R.out.fin ⟨A9, c9, rfl, HN.out, HB.out⟩
set_option maxRecDepth 100000 in
set_option maxHeartbeats 16000000 in
theorem ref_unlock (at' tv who : Int) (W : World) : Calls Try.prog 64 #[.int .i64 at', .int .i64 tv, .int .i64 who] W (FPost W (unF at' tv who)) := by
  unfold unF
  have HM := Lib.hid (refMayL_any at' tv who)
  have hb : mayL at' tv who = true → (0 ≤ at' ∧ at' ≤ 64) ∧ (0 ≤ tv ∧ tv ≤ 11) ∧ (0 ≤ who ∧ who ≤ 3) := fun h => by unfold mayL at h; simp at h; omega
  obtain ⟨mb, hmb⟩ : ∃ b, mayL at' tv who = b := ⟨_, rfl⟩
  rw [hmb] at HM hb ⊢
  clear hmb
  cases mb
  case false =>
    simp only [cond_false]
    clear hb
    go_enter Try.func64, Try.ntmps64
    go_wp2_with (go_at_call 89; refine (HM.out _).mono ?_; rintro e w' ⟨rfl, rfl⟩)
    go_ret2
    exact FPost.err _ _
  case true =>
    simp only [cond_true]
    have h3 := hb rfl
    clear hb
    have HAT := Lib.hid (show 0 ≤ at' ∧ at' ≤ 100 from by omega)
    have HR := Lib.hid (show 0 ≤ tv ∧ tv ≤ 11 from h3.2.1)
    have HAR := Lib.hid (show ∀ x ∈ unlockR tv who, plcB x.op = true → 0 ≤ x.arg ∧ x.arg ≤ 1000 from by
      unfold unlockR
      intro x hx
      simp only [List.mem_cons, List.not_mem_nil, or_false] at hx
      rcases hx with rfl | rfl | rfl | rfl | rfl | rfl | rfl | rfl | rfl | rfl | rfl
      all_goals (intro hx; first | (exact absurd hx (by decide)) | (constructor <;> (dsimp only; omega))))
    obtain ⟨wh, hwh⟩ : ∃ t, who + 1 = t := ⟨_, rfl⟩
    have e1 : wrap64 (1 + who) = wh := by rw [← hwh]; unfold wrap64; omega
    have E1 := Lib.hid hwh
    clear hwh
    clear h3
    have R := Lib.hid (RI.nil W)
    obtain ⟨p1, hp1⟩ : ∃ p : List Ins3, [⟨21, 10, 0⟩, ⟨4, tv, 0⟩, ⟨1, 0, intV wh⟩, ⟨14, 0, 0⟩, ⟨20, 9, 0⟩, ⟨1, 0, intV 0⟩, ⟨5, tv, 0⟩, ⟨1, 0, intV 1⟩, ⟨19, 10, 0⟩, ⟨1, 0, intV 0⟩, ⟨22, 0, 0⟩] = p := ⟨_, rfl⟩
    have HPE := Lib.hid (show p1 = unlockR tv who by rw [← hp1]; unfold unlockR; rw [E1.out])
    have N1 := Lib.hid (show p1.length = 11 by rw [← hp1]; rfl)
    have P1 := Lib.hid hp1
    clear hp1
    go_enter Try.func64, Try.ntmps64
    go_wp2_with (first | (go_at_call 89; refine (HM.out _).mono ?_; rintro e w' ⟨rfl, rfl⟩) | (go_at_call 90; replace R := Lib.hid (show RI W (w'.alloc (.cells (insC p1).toArray 64)) (some ⟨w'.heap.size, 0, none⟩) 11 p1 from ⟨by have := nrow_made w' W.heap.size p1 (by rw [← P1.out]; exact (List.forall_mem_cons.2 ⟨ok_mk (by decide) ⟨by have := HR.out; omega, by have := HR.out; omega⟩ (by constructor <;> decide), (List.forall_mem_cons.2 ⟨ok_mk (by decide) ⟨by have := HR.out; omega, by have := HR.out; omega⟩ (by constructor <;> decide), (List.forall_mem_cons.2 ⟨ok_mk (by decide) ⟨by have := HR.out; omega, by have := HR.out; omega⟩ (intV_w64 _), (List.forall_mem_cons.2 ⟨ok_mk (by decide) ⟨by have := HR.out; omega, by have := HR.out; omega⟩ (by constructor <;> decide), (List.forall_mem_cons.2 ⟨ok_mk (by decide) ⟨by have := HR.out; omega, by have := HR.out; omega⟩ (by constructor <;> decide), (List.forall_mem_cons.2 ⟨ok_mk (by decide) ⟨by have := HR.out; omega, by have := HR.out; omega⟩ (intV_w64 _), (List.forall_mem_cons.2 ⟨ok_mk (by decide) ⟨by have := HR.out; omega, by have := HR.out; omega⟩ (by constructor <;> decide), (List.forall_mem_cons.2 ⟨ok_mk (by decide) ⟨by have := HR.out; omega, by have := HR.out; omega⟩ (intV_w64 _), (List.forall_mem_cons.2 ⟨ok_mk (by decide) ⟨by have := HR.out; omega, by have := HR.out; omega⟩ (by constructor <;> decide), (List.forall_mem_cons.2 ⟨ok_mk (by decide) ⟨by have := HR.out; omega, by have := HR.out; omega⟩ (intV_w64 _), (List.forall_mem_cons.2 ⟨ok_mk (by decide) ⟨by have := HR.out; omega, by have := HR.out; omega⟩ (by constructor <;> decide), (fun x hx => (List.not_mem_nil hx).elim)⟩)⟩)⟩)⟩)⟩)⟩)⟩)⟩)⟩)⟩)⟩)) R.out.bl.size (by rw [N1.out]; decide); rw [N1.out] at this; exact this, R.out.bl.alloc R.out.bl.size _⟩); change Calls _ _ #[_, .slice (some ⟨w'.heap.size, 0, none⟩) 11 11] (w'.alloc (.cells (insC [⟨21, 10, 0⟩, ⟨4, tv, 0⟩, ⟨1, 0, intV wh⟩, ⟨14, 0, 0⟩, ⟨20, 9, 0⟩, ⟨1, 0, intV 0⟩, ⟨5, tv, 0⟩, ⟨1, 0, intV 1⟩, ⟨19, 10, 0⟩, ⟨1, 0, intV 0⟩, ⟨22, 0, 0⟩]).toArray 64)) _; rw [P1.out]; rw [show (Value.slice (some ⟨w'.heap.size, 0, none⟩) 11 11) = Value.slice (some ⟨w'.heap.size, 0, none⟩) p1.length 11 by rw [N1.out]]; refine (refAt_any p1 (by rw [N1.out]; decide) R.out.row.2 (by rw [HPE.out]; exact HAR.out) at' HAT.out _ _ _ (nrow_inss R.out.row (by rw [N1.out]; decide)).1).mono ?_; rintro e w9 ⟨A9, c9, rfl, hn, hb⟩; have HN := Lib.hid hn; have HB := Lib.hid hb; clear hn hb) | (go_at_call 29; refine (refO_any _ _ _).mono ?_; rintro e w' ⟨rfl, hb⟩; replace R := Lib.hid (RI.below R.out hb); clear hb) | (go_at_call 28; refine (refP_any _ _).mono ?_; rintro e w' ⟨rfl, hb⟩; replace R := Lib.hid (RI.below R.out hb); clear hb))
    go_ret2
    rw [← HPE.out]
    exact R.out.fin ⟨A9, c9, rfl, HN.out, HB.out⟩
theorem down_j (tv at' : Int) : blkJ (downR tv) at' = blkA (downR tv) at' := by unfold blkJ blkA; rfl
set_option maxRecDepth 100000 in
set_option maxHeartbeats 16000000 in
theorem l_down (at' tv : Int) (W : World) : Calls Try.prog 50 #[.int .i64 at', .int .i64 tv] W (FPost W (dnF at' tv)) := by
  unfold dnF
  have HM := Lib.hid (lmay_any at' tv 0)
  have hb : mayL at' tv 0 = true → (0 ≤ at' ∧ at' ≤ 64) ∧ (0 ≤ tv ∧ tv ≤ 11) ∧ (0 ≤ 0 ∧ 0 ≤ 3) := fun h => by unfold mayL at h; simp at h; omega
  obtain ⟨mb, hmb⟩ : ∃ b, mayL at' tv 0 = b := ⟨_, rfl⟩
  rw [hmb] at HM hb ⊢
  clear hmb
  cases mb
  case false =>
    simp only [cond_false]
    clear hb
    go_enter Try.func50, Try.ntmps50
    go_wp2_with (go_at_call 79; refine (HM.out _).mono ?_; rintro e w' ⟨rfl, rfl⟩)
    go_ret2
    exact FPost.err _ _
  case true =>
    simp only [cond_true]
    have h3 := hb rfl
    clear hb
    have HAT := Lib.hid (show 0 ≤ at' ∧ at' ≤ 100 from by omega)
    have HR := Lib.hid (show 0 ≤ tv ∧ tv ≤ 11 from h3.2.1)
    have HAR := Lib.hid (show ∀ x ∈ downR tv, jmpI x.op = true → 0 ≤ x.arg ∧ x.arg ≤ 1000 from by
      unfold downR
      intro x hx
      simp only [List.mem_cons, List.not_mem_nil, or_false] at hx
      rcases hx with rfl | rfl | rfl | rfl | rfl | rfl | rfl | rfl | rfl | rfl
      all_goals (intro hx; first | (exact absurd hx (by decide)) | (constructor <;> (dsimp only; omega))))
    clear h3
    have R := Lib.hid (RI.nil W)
    obtain ⟨p1, hp1⟩ : ∃ p : List Ins3, [⟨21, 9, 0⟩, ⟨4, tv, 0⟩, ⟨16, 0, 0⟩, ⟨20, 8, 0⟩, ⟨1, 0, intV 1⟩, ⟨9, 0, 0⟩, ⟨5, tv, 0⟩, ⟨19, 9, 0⟩, ⟨26, 0, 0⟩, ⟨22, 0, 0⟩] = p := ⟨_, rfl⟩
    have HPE := Lib.hid (show p1 = downR tv by rw [← hp1]; unfold downR; rfl)
    have N1 := Lib.hid (show p1.length = 10 by rw [← hp1]; rfl)
    have P1 := Lib.hid hp1
    clear hp1
    go_enter Try.func50, Try.ntmps50
    go_wp2_with (first | (go_at_call 79; refine (HM.out _).mono ?_; rintro e w' ⟨rfl, rfl⟩) | (go_at_call 80; replace R := Lib.hid (show RI W (w'.alloc (.cells (insC p1).toArray 64)) (some ⟨w'.heap.size, 0, none⟩) 10 p1 from ⟨by have := nrow_made w' W.heap.size p1 (by rw [← P1.out]; exact (List.forall_mem_cons.2 ⟨ok_mk (by decide) ⟨by have := HR.out; omega, by have := HR.out; omega⟩ (by constructor <;> decide), (List.forall_mem_cons.2 ⟨ok_mk (by decide) ⟨by have := HR.out; omega, by have := HR.out; omega⟩ (by constructor <;> decide), (List.forall_mem_cons.2 ⟨ok_mk (by decide) ⟨by have := HR.out; omega, by have := HR.out; omega⟩ (by constructor <;> decide), (List.forall_mem_cons.2 ⟨ok_mk (by decide) ⟨by have := HR.out; omega, by have := HR.out; omega⟩ (by constructor <;> decide), (List.forall_mem_cons.2 ⟨ok_mk (by decide) ⟨by have := HR.out; omega, by have := HR.out; omega⟩ (intV_w64 _), (List.forall_mem_cons.2 ⟨ok_mk (by decide) ⟨by have := HR.out; omega, by have := HR.out; omega⟩ (by constructor <;> decide), (List.forall_mem_cons.2 ⟨ok_mk (by decide) ⟨by have := HR.out; omega, by have := HR.out; omega⟩ (by constructor <;> decide), (List.forall_mem_cons.2 ⟨ok_mk (by decide) ⟨by have := HR.out; omega, by have := HR.out; omega⟩ (by constructor <;> decide), (List.forall_mem_cons.2 ⟨ok_mk (by decide) ⟨by have := HR.out; omega, by have := HR.out; omega⟩ (by constructor <;> decide), (List.forall_mem_cons.2 ⟨ok_mk (by decide) ⟨by have := HR.out; omega, by have := HR.out; omega⟩ (by constructor <;> decide), (fun x hx => (List.not_mem_nil hx).elim)⟩)⟩)⟩)⟩)⟩)⟩)⟩)⟩)⟩)⟩)) R.out.bl.size (by rw [N1.out]; decide); rw [N1.out] at this; exact this, R.out.bl.alloc R.out.bl.size _⟩); change Calls _ _ #[_, .slice (some ⟨w'.heap.size, 0, none⟩) 10 10] (w'.alloc (.cells (insC [⟨21, 9, 0⟩, ⟨4, tv, 0⟩, ⟨16, 0, 0⟩, ⟨20, 8, 0⟩, ⟨1, 0, intV 1⟩, ⟨9, 0, 0⟩, ⟨5, tv, 0⟩, ⟨19, 9, 0⟩, ⟨26, 0, 0⟩, ⟨22, 0, 0⟩]).toArray 64)) _; rw [P1.out]; rw [show (Value.slice (some ⟨w'.heap.size, 0, none⟩) 10 10) = Value.slice (some ⟨w'.heap.size, 0, none⟩) p1.length 10 by rw [N1.out]]; refine (lblock_any p1 (by rw [N1.out]; decide) (by rw [N1.out]; decide) R.out.row.2 (by rw [HPE.out]; exact HAR.out) at' HAT.out _ _ _ (nrow_inss R.out.row (by rw [N1.out]; decide)).1 (by rw [N1.out]; decide)).mono ?_; rintro e w9 ⟨A9, c9, rfl, hn, hb⟩; have HN := Lib.hid hn; have HB := Lib.hid hb; clear hn hb) | (go_at_call 81; refine (lwith_any _ _ _).mono ?_; rintro e w' ⟨rfl, hb⟩; replace R := Lib.hid (RI.below R.out hb); clear hb) | (go_at_call 82; refine (lop_any _ _).mono ?_; rintro e w' ⟨rfl, hb⟩; replace R := Lib.hid (RI.below R.out hb); clear hb) | (go_at_call 83; refine (lnum_any _ _).mono ?_; rintro e w' ⟨rfl, hb⟩; replace R := Lib.hid (RI.below R.out hb); clear hb))
    go_ret2
    rw [← down_j, ← HPE.out]
    exact R.out.fin ⟨A9, c9, rfl, HN.out, HB.out⟩
set_option maxRecDepth 100000 in
set_option maxHeartbeats 16000000 in
theorem ref_down (at' tv : Int) (W : World) : Calls Try.prog 65 #[.int .i64 at', .int .i64 tv] W (FPost W (dnF at' tv)) := by
  unfold dnF
  have HM := Lib.hid (refMayL_any at' tv 0)
  have hb : mayL at' tv 0 = true → (0 ≤ at' ∧ at' ≤ 64) ∧ (0 ≤ tv ∧ tv ≤ 11) ∧ (0 ≤ 0 ∧ 0 ≤ 3) := fun h => by unfold mayL at h; simp at h; omega
  obtain ⟨mb, hmb⟩ : ∃ b, mayL at' tv 0 = b := ⟨_, rfl⟩
  rw [hmb] at HM hb ⊢
  clear hmb
  cases mb
  case false =>
    simp only [cond_false]
    clear hb
    go_enter Try.func65, Try.ntmps65
    go_wp2_with (go_at_call 89; refine (HM.out _).mono ?_; rintro e w' ⟨rfl, rfl⟩)
    go_ret2
    exact FPost.err _ _
  case true =>
    simp only [cond_true]
    have h3 := hb rfl
    clear hb
    have HAT := Lib.hid (show 0 ≤ at' ∧ at' ≤ 100 from by omega)
    have HR := Lib.hid (show 0 ≤ tv ∧ tv ≤ 11 from h3.2.1)
    have HAR := Lib.hid (show ∀ x ∈ downR tv, plcB x.op = true → 0 ≤ x.arg ∧ x.arg ≤ 1000 from by
      unfold downR
      intro x hx
      simp only [List.mem_cons, List.not_mem_nil, or_false] at hx
      rcases hx with rfl | rfl | rfl | rfl | rfl | rfl | rfl | rfl | rfl | rfl
      all_goals (intro hx; first | (exact absurd hx (by decide)) | (constructor <;> (dsimp only; omega))))
    clear h3
    have R := Lib.hid (RI.nil W)
    obtain ⟨p1, hp1⟩ : ∃ p : List Ins3, [⟨21, 9, 0⟩, ⟨4, tv, 0⟩, ⟨16, 0, 0⟩, ⟨20, 8, 0⟩, ⟨1, 0, intV 1⟩, ⟨9, 0, 0⟩, ⟨5, tv, 0⟩, ⟨19, 9, 0⟩, ⟨26, 0, 0⟩, ⟨22, 0, 0⟩] = p := ⟨_, rfl⟩
    have HPE := Lib.hid (show p1 = downR tv by rw [← hp1]; unfold downR; rfl)
    have N1 := Lib.hid (show p1.length = 10 by rw [← hp1]; rfl)
    have P1 := Lib.hid hp1
    clear hp1
    go_enter Try.func65, Try.ntmps65
    go_wp2_with (first | (go_at_call 89; refine (HM.out _).mono ?_; rintro e w' ⟨rfl, rfl⟩) | (go_at_call 90; replace R := Lib.hid (show RI W (w'.alloc (.cells (insC p1).toArray 64)) (some ⟨w'.heap.size, 0, none⟩) 10 p1 from ⟨by have := nrow_made w' W.heap.size p1 (by rw [← P1.out]; exact (List.forall_mem_cons.2 ⟨ok_mk (by decide) ⟨by have := HR.out; omega, by have := HR.out; omega⟩ (by constructor <;> decide), (List.forall_mem_cons.2 ⟨ok_mk (by decide) ⟨by have := HR.out; omega, by have := HR.out; omega⟩ (by constructor <;> decide), (List.forall_mem_cons.2 ⟨ok_mk (by decide) ⟨by have := HR.out; omega, by have := HR.out; omega⟩ (by constructor <;> decide), (List.forall_mem_cons.2 ⟨ok_mk (by decide) ⟨by have := HR.out; omega, by have := HR.out; omega⟩ (by constructor <;> decide), (List.forall_mem_cons.2 ⟨ok_mk (by decide) ⟨by have := HR.out; omega, by have := HR.out; omega⟩ (intV_w64 _), (List.forall_mem_cons.2 ⟨ok_mk (by decide) ⟨by have := HR.out; omega, by have := HR.out; omega⟩ (by constructor <;> decide), (List.forall_mem_cons.2 ⟨ok_mk (by decide) ⟨by have := HR.out; omega, by have := HR.out; omega⟩ (by constructor <;> decide), (List.forall_mem_cons.2 ⟨ok_mk (by decide) ⟨by have := HR.out; omega, by have := HR.out; omega⟩ (by constructor <;> decide), (List.forall_mem_cons.2 ⟨ok_mk (by decide) ⟨by have := HR.out; omega, by have := HR.out; omega⟩ (by constructor <;> decide), (List.forall_mem_cons.2 ⟨ok_mk (by decide) ⟨by have := HR.out; omega, by have := HR.out; omega⟩ (by constructor <;> decide), (fun x hx => (List.not_mem_nil hx).elim)⟩)⟩)⟩)⟩)⟩)⟩)⟩)⟩)⟩)⟩)) R.out.bl.size (by rw [N1.out]; decide); rw [N1.out] at this; exact this, R.out.bl.alloc R.out.bl.size _⟩); change Calls _ _ #[_, .slice (some ⟨w'.heap.size, 0, none⟩) 10 10] (w'.alloc (.cells (insC [⟨21, 9, 0⟩, ⟨4, tv, 0⟩, ⟨16, 0, 0⟩, ⟨20, 8, 0⟩, ⟨1, 0, intV 1⟩, ⟨9, 0, 0⟩, ⟨5, tv, 0⟩, ⟨19, 9, 0⟩, ⟨26, 0, 0⟩, ⟨22, 0, 0⟩]).toArray 64)) _; rw [P1.out]; rw [show (Value.slice (some ⟨w'.heap.size, 0, none⟩) 10 10) = Value.slice (some ⟨w'.heap.size, 0, none⟩) p1.length 10 by rw [N1.out]]; refine (refAt_any p1 (by rw [N1.out]; decide) R.out.row.2 (by rw [HPE.out]; exact HAR.out) at' HAT.out _ _ _ (nrow_inss R.out.row (by rw [N1.out]; decide)).1).mono ?_; rintro e w9 ⟨A9, c9, rfl, hn, hb⟩; have HN := Lib.hid hn; have HB := Lib.hid hb; clear hn hb) | (go_at_call 29; refine (refO_any _ _ _).mono ?_; rintro e w' ⟨rfl, hb⟩; replace R := Lib.hid (RI.below R.out hb); clear hb) | (go_at_call 28; refine (refP_any _ _).mono ?_; rintro e w' ⟨rfl, hb⟩; replace R := Lib.hid (RI.below R.out hb); clear hb))
    go_ret2
    rw [← HPE.out]
    exact R.out.fin ⟨A9, c9, rfl, HN.out, HB.out⟩
theorem up_j (tv at' : Int) : blkJ (upR tv) at' = blkA (upR tv) at' := by unfold blkJ blkA; rfl
set_option maxRecDepth 100000 in
set_option maxHeartbeats 16000000 in
theorem l_up (at' tv : Int) (W : World) : Calls Try.prog 52 #[.int .i64 at', .int .i64 tv] W (FPost W (upF at' tv)) := by
  unfold upF
  have HM := Lib.hid (lmay_any at' tv 0)
  have hb : mayL at' tv 0 = true → (0 ≤ at' ∧ at' ≤ 64) ∧ (0 ≤ tv ∧ tv ≤ 11) ∧ (0 ≤ 0 ∧ 0 ≤ 3) := fun h => by unfold mayL at h; simp at h; omega
  obtain ⟨mb, hmb⟩ : ∃ b, mayL at' tv 0 = b := ⟨_, rfl⟩
  rw [hmb] at HM hb ⊢
  clear hmb
  cases mb
  case false =>
    simp only [cond_false]
    clear hb
    go_enter Try.func52, Try.ntmps52
    go_wp2_with (go_at_call 79; refine (HM.out _).mono ?_; rintro e w' ⟨rfl, rfl⟩)
    go_ret2
    exact FPost.err _ _
  case true =>
    simp only [cond_true]
    have h3 := hb rfl
    clear hb
    have HAT := Lib.hid (show 0 ≤ at' ∧ at' ≤ 100 from by omega)
    have HR := Lib.hid (show 0 ≤ tv ∧ tv ≤ 11 from h3.2.1)
    have HAR := Lib.hid (show ∀ x ∈ upR tv, jmpI x.op = true → 0 ≤ x.arg ∧ x.arg ≤ 1000 from by
      unfold upR
      intro x hx
      simp only [List.mem_cons, List.not_mem_nil, or_false] at hx
      rcases hx with rfl | rfl | rfl | rfl | rfl | rfl
      all_goals (intro hx; first | (exact absurd hx (by decide)) | (constructor <;> (dsimp only; omega))))
    clear h3
    have R := Lib.hid (RI.nil W)
    obtain ⟨p1, hp1⟩ : ∃ p : List Ins3, [⟨21, 5, 0⟩, ⟨4, tv, 0⟩, ⟨1, 0, intV 1⟩, ⟨8, 0, 0⟩, ⟨5, tv, 0⟩, ⟨22, 0, 0⟩] = p := ⟨_, rfl⟩
    have HPE := Lib.hid (show p1 = upR tv by rw [← hp1]; unfold upR; rfl)
    have N1 := Lib.hid (show p1.length = 6 by rw [← hp1]; rfl)
    have P1 := Lib.hid hp1
    clear hp1
    go_enter Try.func52, Try.ntmps52
    go_wp2_with (first | (go_at_call 79; refine (HM.out _).mono ?_; rintro e w' ⟨rfl, rfl⟩) | (go_at_call 80; replace R := Lib.hid (show RI W (w'.alloc (.cells (insC p1).toArray 64)) (some ⟨w'.heap.size, 0, none⟩) 6 p1 from ⟨by have := nrow_made w' W.heap.size p1 (by rw [← P1.out]; exact (List.forall_mem_cons.2 ⟨ok_mk (by decide) ⟨by have := HR.out; omega, by have := HR.out; omega⟩ (by constructor <;> decide), (List.forall_mem_cons.2 ⟨ok_mk (by decide) ⟨by have := HR.out; omega, by have := HR.out; omega⟩ (by constructor <;> decide), (List.forall_mem_cons.2 ⟨ok_mk (by decide) ⟨by have := HR.out; omega, by have := HR.out; omega⟩ (intV_w64 _), (List.forall_mem_cons.2 ⟨ok_mk (by decide) ⟨by have := HR.out; omega, by have := HR.out; omega⟩ (by constructor <;> decide), (List.forall_mem_cons.2 ⟨ok_mk (by decide) ⟨by have := HR.out; omega, by have := HR.out; omega⟩ (by constructor <;> decide), (List.forall_mem_cons.2 ⟨ok_mk (by decide) ⟨by have := HR.out; omega, by have := HR.out; omega⟩ (by constructor <;> decide), (fun x hx => (List.not_mem_nil hx).elim)⟩)⟩)⟩)⟩)⟩)⟩)) R.out.bl.size (by rw [N1.out]; decide); rw [N1.out] at this; exact this, R.out.bl.alloc R.out.bl.size _⟩); change Calls _ _ #[_, .slice (some ⟨w'.heap.size, 0, none⟩) 6 6] (w'.alloc (.cells (insC [⟨21, 5, 0⟩, ⟨4, tv, 0⟩, ⟨1, 0, intV 1⟩, ⟨8, 0, 0⟩, ⟨5, tv, 0⟩, ⟨22, 0, 0⟩]).toArray 64)) _; rw [P1.out]; rw [show (Value.slice (some ⟨w'.heap.size, 0, none⟩) 6 6) = Value.slice (some ⟨w'.heap.size, 0, none⟩) p1.length 6 by rw [N1.out]]; refine (lblock_any p1 (by rw [N1.out]; decide) (by rw [N1.out]; decide) R.out.row.2 (by rw [HPE.out]; exact HAR.out) at' HAT.out _ _ _ (nrow_inss R.out.row (by rw [N1.out]; decide)).1 (by rw [N1.out]; decide)).mono ?_; rintro e w9 ⟨A9, c9, rfl, hn, hb⟩; have HN := Lib.hid hn; have HB := Lib.hid hb; clear hn hb) | (go_at_call 81; refine (lwith_any _ _ _).mono ?_; rintro e w' ⟨rfl, hb⟩; replace R := Lib.hid (RI.below R.out hb); clear hb) | (go_at_call 82; refine (lop_any _ _).mono ?_; rintro e w' ⟨rfl, hb⟩; replace R := Lib.hid (RI.below R.out hb); clear hb) | (go_at_call 83; refine (lnum_any _ _).mono ?_; rintro e w' ⟨rfl, hb⟩; replace R := Lib.hid (RI.below R.out hb); clear hb))
    go_ret2
    rw [← up_j, ← HPE.out]
    exact R.out.fin ⟨A9, c9, rfl, HN.out, HB.out⟩
set_option maxRecDepth 100000 in
set_option maxHeartbeats 16000000 in
theorem ref_up (at' tv : Int) (W : World) : Calls Try.prog 66 #[.int .i64 at', .int .i64 tv] W (FPost W (upF at' tv)) := by
  unfold upF
  have HM := Lib.hid (refMayL_any at' tv 0)
  have hb : mayL at' tv 0 = true → (0 ≤ at' ∧ at' ≤ 64) ∧ (0 ≤ tv ∧ tv ≤ 11) ∧ (0 ≤ 0 ∧ 0 ≤ 3) := fun h => by unfold mayL at h; simp at h; omega
  obtain ⟨mb, hmb⟩ : ∃ b, mayL at' tv 0 = b := ⟨_, rfl⟩
  rw [hmb] at HM hb ⊢
  clear hmb
  cases mb
  case false =>
    simp only [cond_false]
    clear hb
    go_enter Try.func66, Try.ntmps66
    go_wp2_with (go_at_call 89; refine (HM.out _).mono ?_; rintro e w' ⟨rfl, rfl⟩)
    go_ret2
    exact FPost.err _ _
  case true =>
    simp only [cond_true]
    have h3 := hb rfl
    clear hb
    have HAT := Lib.hid (show 0 ≤ at' ∧ at' ≤ 100 from by omega)
    have HR := Lib.hid (show 0 ≤ tv ∧ tv ≤ 11 from h3.2.1)
    have HAR := Lib.hid (show ∀ x ∈ upR tv, plcB x.op = true → 0 ≤ x.arg ∧ x.arg ≤ 1000 from by
      unfold upR
      intro x hx
      simp only [List.mem_cons, List.not_mem_nil, or_false] at hx
      rcases hx with rfl | rfl | rfl | rfl | rfl | rfl
      all_goals (intro hx; first | (exact absurd hx (by decide)) | (constructor <;> (dsimp only; omega))))
    clear h3
    have R := Lib.hid (RI.nil W)
    obtain ⟨p1, hp1⟩ : ∃ p : List Ins3, [⟨21, 5, 0⟩, ⟨4, tv, 0⟩, ⟨1, 0, intV 1⟩, ⟨8, 0, 0⟩, ⟨5, tv, 0⟩, ⟨22, 0, 0⟩] = p := ⟨_, rfl⟩
    have HPE := Lib.hid (show p1 = upR tv by rw [← hp1]; unfold upR; rfl)
    have N1 := Lib.hid (show p1.length = 6 by rw [← hp1]; rfl)
    have P1 := Lib.hid hp1
    clear hp1
    go_enter Try.func66, Try.ntmps66
    go_wp2_with (first | (go_at_call 89; refine (HM.out _).mono ?_; rintro e w' ⟨rfl, rfl⟩) | (go_at_call 90; replace R := Lib.hid (show RI W (w'.alloc (.cells (insC p1).toArray 64)) (some ⟨w'.heap.size, 0, none⟩) 6 p1 from ⟨by have := nrow_made w' W.heap.size p1 (by rw [← P1.out]; exact (List.forall_mem_cons.2 ⟨ok_mk (by decide) ⟨by have := HR.out; omega, by have := HR.out; omega⟩ (by constructor <;> decide), (List.forall_mem_cons.2 ⟨ok_mk (by decide) ⟨by have := HR.out; omega, by have := HR.out; omega⟩ (by constructor <;> decide), (List.forall_mem_cons.2 ⟨ok_mk (by decide) ⟨by have := HR.out; omega, by have := HR.out; omega⟩ (intV_w64 _), (List.forall_mem_cons.2 ⟨ok_mk (by decide) ⟨by have := HR.out; omega, by have := HR.out; omega⟩ (by constructor <;> decide), (List.forall_mem_cons.2 ⟨ok_mk (by decide) ⟨by have := HR.out; omega, by have := HR.out; omega⟩ (by constructor <;> decide), (List.forall_mem_cons.2 ⟨ok_mk (by decide) ⟨by have := HR.out; omega, by have := HR.out; omega⟩ (by constructor <;> decide), (fun x hx => (List.not_mem_nil hx).elim)⟩)⟩)⟩)⟩)⟩)⟩)) R.out.bl.size (by rw [N1.out]; decide); rw [N1.out] at this; exact this, R.out.bl.alloc R.out.bl.size _⟩); change Calls _ _ #[_, .slice (some ⟨w'.heap.size, 0, none⟩) 6 6] (w'.alloc (.cells (insC [⟨21, 5, 0⟩, ⟨4, tv, 0⟩, ⟨1, 0, intV 1⟩, ⟨8, 0, 0⟩, ⟨5, tv, 0⟩, ⟨22, 0, 0⟩]).toArray 64)) _; rw [P1.out]; rw [show (Value.slice (some ⟨w'.heap.size, 0, none⟩) 6 6) = Value.slice (some ⟨w'.heap.size, 0, none⟩) p1.length 6 by rw [N1.out]]; refine (refAt_any p1 (by rw [N1.out]; decide) R.out.row.2 (by rw [HPE.out]; exact HAR.out) at' HAT.out _ _ _ (nrow_inss R.out.row (by rw [N1.out]; decide)).1).mono ?_; rintro e w9 ⟨A9, c9, rfl, hn, hb⟩; have HN := Lib.hid hn; have HB := Lib.hid hb; clear hn hb) | (go_at_call 29; refine (refO_any _ _ _).mono ?_; rintro e w' ⟨rfl, hb⟩; replace R := Lib.hid (RI.below R.out hb); clear hb) | (go_at_call 28; refine (refP_any _ _).mono ?_; rintro e w' ⟨rfl, hb⟩; replace R := Lib.hid (RI.below R.out hb); clear hb))
    go_ret2
    rw [← HPE.out]
    exact R.out.fin ⟨A9, c9, rfl, HN.out, HB.out⟩
end Go.Proofs.Ytmmfadakhnagpaa
