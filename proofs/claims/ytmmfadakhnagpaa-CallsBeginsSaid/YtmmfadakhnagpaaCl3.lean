
/-
  calls: the builder's call.
-/
import Derived.Test.YtmmfadakhnagpaaCl2
import Derived.Deep.CutBlock
import Derived.Handy
namespace Go.Proofs.Ytmmfadakhnagpaa
open Go.RowKit Go.ChangeShapes Go.WideShapes
set_option linter.unusedSimpArgs false
set_option linter.unusedVariables false

set_option maxRecDepth 100000 in
set_option maxHeartbeats 16000000 in
theorem bCall_1 (W w : World) (gb : Nat) (st : List Ins3 × Int) (H : Bd W w gb st) (hst : StOk st) (tv sz who v : Int) (hv : W64 v) :
    Calls Try.prog 22 #[.pointer (some ⟨gb, 0, none⟩), .int .i64 tv, .int .i64 sz, .agg #[.int .u8 1, .int .i64 who, .int .u64 v]] w fun e w' => e = .returned (.tuple #[]) ∧ Bd W w' gb (callF tv sz st (⟨1, who, v⟩ : Cl)) ∧ KB w w' := by
  obtain ⟨r, hr⟩ : ∃ r, loF st.1.length tv who = r := ⟨_, rfl⟩
  have hrl : r.2.length ≤ 26 := by rw [← hr]; exact blkC_len st.1.length tv sz (⟨1, who, v⟩ : Cl)
  obtain ⟨s1, e1⟩ : ∃ s, adF st r = s := ⟨_, rfl⟩
  have hs1 : StOk s1 := by rw [← e1]; exact hst.ad _ hrl
  obtain ⟨s2, e2⟩ : ∃ s, adF s1 (0, [oneI]) = s := ⟨_, rfl⟩
  have hs2 : StOk s2 := by rw [← e2]; exact hs1.ad _ (by decide)
  obtain ⟨s3, e3⟩ : ∃ s, adF s2 (0, [outI]) = s := ⟨_, rfl⟩
  have HE := Lib.hid (show callF tv sz st (⟨1, who, v⟩ : Cl) = s3 from by unfold callF call2; rw [call1_n rfl]; show adF (adF (adF st (loF st.1.length tv who)) (0, [oneI])) (0, [outI]) = s3; rw [hr, e1, e2]; exact e3)
  rw [HE.out]
  have E1 := Lib.hid e1
  have E3 := Lib.hid e3
  have HR := Lib.hid hr
  have S := Lib.hid hst
  have S1 := Lib.hid hs1
  have RL := Lib.hid hrl
  have HV := Lib.hid hv
  have E2 := Lib.hid e2
  have S2 := Lib.hid hs2
  have bb := (((Below.refl w.heap.size w).alloc (Nat.le_refl _) (.cells #[.int .i64 tv] 3)).alloc (by simp) (.cells #[.int .i64 sz] 3)).alloc (by simp; omega) (.cells #[.int .u8 1, .int .i64 who, .int .u64 v] 55)
  have B0 := Lib.hid (H.below bb)
  have K0 := Lib.hid ((KB.refl w).below bb)
  have h5 := hp_alloc (hp_alloc (heap_alloc_new w (.cells #[.int .i64 tv] 3)) (.cells #[.int .i64 sz] 3)) (.cells #[.int .u8 1, .int .i64 who, .int .u64 v] 55)
  have h6 : (((w.alloc (.cells #[.int .i64 tv] 3)).alloc (.cells #[.int .i64 sz] 3)).alloc (.cells #[.int .u8 1, .int .i64 who, .int .u64 v] 55)).heap[w.heap.size + 1]? = some (.cells #[.int .i64 sz] 3 (0, 0)) := hp_alloc ((congrArg _ (by simp)).trans (heap_alloc_new (w.alloc (.cells #[.int .i64 tv] 3)) _)) _
  have h7 : (((w.alloc (.cells #[.int .i64 tv] 3)).alloc (.cells #[.int .i64 sz] 3)).alloc (.cells #[.int .u8 1, .int .i64 who, .int .u64 v] 55)).heap[w.heap.size + 1 + 1]? = some (.cells #[.int .u8 1, .int .i64 who, .int .u64 v] 55 (0, 0)) := (congrArg _ (by simp)).trans (heap_alloc_new ((w.alloc (.cells #[.int .i64 tv] 3)).alloc (.cells #[.int .i64 sz] 3)) _)
  have H5 := Lib.hid h5
  have H6 := Lib.hid h6
  have H7 := Lib.hid h7
  clear e1 e3 hr hst hs1 hrl hv bb h5 h6 h7 H e2 hs2
  go_enter Try.func22, Try.ntmps22
  go_upto_region 2 with fail
  generalize World.alloc _ _ = w0 at B0 K0 H5 H6 H7 ⊢
  obtain ⟨b5, hb5⟩ : ∃ b, w.heap.size = b := ⟨_, rfl⟩
  obtain ⟨b6, hb6⟩ : ∃ b, w.heap.size + 1 = b := ⟨_, rfl⟩
  obtain ⟨b7, hb7⟩ : ∃ b, w.heap.size + 1 + 1 = b := ⟨_, rfl⟩
  rw [hb7] at H7
  rw [hb6] at H6
  rw [hb5] at H5
  try rw [hb7]
  try rw [hb6]
  try rw [hb5]
  clear hb5 hb6 hb7
  have y0 : w0.cell? ⟨b7, 0, none⟩ = some (.int .u8 1) := hp_cell H7.out 0
  have y2 : w0.cell? ⟨b7, 2, none⟩ = some (.int .u64 v) := hp_cell H7.out 2
  have yl := hp_lt H7.out
  go_upto_region 23 with (go_at_call 44; refine (bAdd W w0 gb st B0.out (by have := S.out.1; omega) r (by have := RL.out; omega) 45 #[.pointer (some ⟨b5, 0, none⟩), .pointer (some ⟨b7, 0, none⟩)] en_cl1 (fun _ => by have hz := cl_1 st.1.length tv sz 1 who v HV.out b5 b6 b7 w0 H5.out H7.out (by rw [HR.out]; exact RL.out); rw [HR.out] at hz; exact hz)).mono ?_; rintro e wb ⟨rfl, hB, hK⟩; rw [E1.out] at hB; have Bb := Lib.hid hB; have Kb := Lib.hid (K0.out.trans hK); clear hB hK)
  go_upto_region 25 with (go_at_call 23; have hbl := (Below.refl wb.heap.size wb).alloc (Nat.le_refl _) (.cells (insC [oneI]).toArray 64); refine (bIns W (wb.alloc (.cells (insC [oneI]).toArray 64)) gb s1 (Bb.out.below hbl) S1.out [oneI] (by simp) wb.heap.size 1 (inss_made (heap_alloc_new wb _) (by decide) (by simp))).mono ?_; rintro e wc ⟨rfl, hB, hK⟩; rw [E2.out] at hB; have Bc := Lib.hid hB; have Kc := Lib.hid ((Kb.out.below hbl).trans hK); clear hB hK hbl)
  go_wp2_with (go_at_call 23; have hbl := (Below.refl wc.heap.size wc).alloc (Nat.le_refl _) (.cells (insC [outI]).toArray 64); refine (bIns W (wc.alloc (.cells (insC [outI]).toArray 64)) gb s2 (Bc.out.below hbl) S2.out [outI] (by simp) wc.heap.size 1 (inss_made (heap_alloc_new wc _) (by decide) (by simp))).mono ?_; rintro e wd ⟨rfl, hB, hK⟩; rw [E3.out] at hB; have Bd0 := Lib.hid hB; have Kd := Lib.hid ((Kc.out.below hbl).trans hK); clear hB hK hbl)
  go_end0
  exact ⟨rfl, Bd0.out, Kd.out⟩
set_option maxRecDepth 100000 in
set_option maxHeartbeats 16000000 in
theorem bCall_2 (W w : World) (gb : Nat) (st : List Ins3 × Int) (H : Bd W w gb st) (hst : StOk st) (tv sz who v : Int) (hv : W64 v) :
    Calls Try.prog 22 #[.pointer (some ⟨gb, 0, none⟩), .int .i64 tv, .int .i64 sz, .agg #[.int .u8 2, .int .i64 who, .int .u64 v]] w fun e w' => e = .returned (.tuple #[]) ∧ Bd W w' gb (callF tv sz st (⟨2, who, v⟩ : Cl)) ∧ KB w w' := by
  obtain ⟨r, hr⟩ : ∃ r, unF st.1.length tv who = r := ⟨_, rfl⟩
  have hrl : r.2.length ≤ 26 := by rw [← hr]; exact blkC_len st.1.length tv sz (⟨2, who, v⟩ : Cl)
  obtain ⟨s1, e1⟩ : ∃ s, adF st r = s := ⟨_, rfl⟩
  have hs1 : StOk s1 := by rw [← e1]; exact hst.ad _ hrl
  obtain ⟨s3, e3⟩ : ∃ s, adF s1 (0, [outI]) = s := ⟨_, rfl⟩
  have HE := Lib.hid (show callF tv sz st (⟨2, who, v⟩ : Cl) = s3 from by unfold callF call2; rw [call1_n rfl]; show adF (adF st (unF st.1.length tv who)) (0, [outI]) = s3; rw [hr, e1]; exact e3)
  rw [HE.out]
  have E1 := Lib.hid e1
  have E3 := Lib.hid e3
  have HR := Lib.hid hr
  have S := Lib.hid hst
  have S1 := Lib.hid hs1
  have RL := Lib.hid hrl
  have HV := Lib.hid hv
  have bb := (((Below.refl w.heap.size w).alloc (Nat.le_refl _) (.cells #[.int .i64 tv] 3)).alloc (by simp) (.cells #[.int .i64 sz] 3)).alloc (by simp; omega) (.cells #[.int .u8 2, .int .i64 who, .int .u64 v] 55)
  have B0 := Lib.hid (H.below bb)
  have K0 := Lib.hid ((KB.refl w).below bb)
  have h5 := hp_alloc (hp_alloc (heap_alloc_new w (.cells #[.int .i64 tv] 3)) (.cells #[.int .i64 sz] 3)) (.cells #[.int .u8 2, .int .i64 who, .int .u64 v] 55)
  have h6 : (((w.alloc (.cells #[.int .i64 tv] 3)).alloc (.cells #[.int .i64 sz] 3)).alloc (.cells #[.int .u8 2, .int .i64 who, .int .u64 v] 55)).heap[w.heap.size + 1]? = some (.cells #[.int .i64 sz] 3 (0, 0)) := hp_alloc ((congrArg _ (by simp)).trans (heap_alloc_new (w.alloc (.cells #[.int .i64 tv] 3)) _)) _
  have h7 : (((w.alloc (.cells #[.int .i64 tv] 3)).alloc (.cells #[.int .i64 sz] 3)).alloc (.cells #[.int .u8 2, .int .i64 who, .int .u64 v] 55)).heap[w.heap.size + 1 + 1]? = some (.cells #[.int .u8 2, .int .i64 who, .int .u64 v] 55 (0, 0)) := (congrArg _ (by simp)).trans (heap_alloc_new ((w.alloc (.cells #[.int .i64 tv] 3)).alloc (.cells #[.int .i64 sz] 3)) _)
  have H5 := Lib.hid h5
  have H6 := Lib.hid h6
  have H7 := Lib.hid h7
  clear e1 e3 hr hst hs1 hrl hv bb h5 h6 h7 H
  go_enter Try.func22, Try.ntmps22
  go_upto_region 2 with fail
  generalize World.alloc _ _ = w0 at B0 K0 H5 H6 H7 ⊢
  obtain ⟨b5, hb5⟩ : ∃ b, w.heap.size = b := ⟨_, rfl⟩
  obtain ⟨b6, hb6⟩ : ∃ b, w.heap.size + 1 = b := ⟨_, rfl⟩
  obtain ⟨b7, hb7⟩ : ∃ b, w.heap.size + 1 + 1 = b := ⟨_, rfl⟩
  rw [hb7] at H7
  rw [hb6] at H6
  rw [hb5] at H5
  try rw [hb7]
  try rw [hb6]
  try rw [hb5]
  clear hb5 hb6 hb7
  have y0 : w0.cell? ⟨b7, 0, none⟩ = some (.int .u8 2) := hp_cell H7.out 0
  have y2 : w0.cell? ⟨b7, 2, none⟩ = some (.int .u64 v) := hp_cell H7.out 2
  have yl := hp_lt H7.out
  go_upto_region 23 with (go_at_call 44; refine (bAdd W w0 gb st B0.out (by have := S.out.1; omega) r (by have := RL.out; omega) 47 #[.pointer (some ⟨b5, 0, none⟩), .pointer (some ⟨b7, 0, none⟩)] en_cl2 (fun _ => by have hz := cl_2 st.1.length tv sz 2 who v HV.out b5 b6 b7 w0 H5.out H7.out (by rw [HR.out]; exact RL.out); rw [HR.out] at hz; exact hz)).mono ?_; rintro e wb ⟨rfl, hB, hK⟩; rw [E1.out] at hB; have Bb := Lib.hid hB; have Kb := Lib.hid (K0.out.trans hK); clear hB hK)
  go_wp2_with (go_at_call 23; have hbl := (Below.refl wb.heap.size wb).alloc (Nat.le_refl _) (.cells (insC [outI]).toArray 64); refine (bIns W (wb.alloc (.cells (insC [outI]).toArray 64)) gb s1 (Bb.out.below hbl) S1.out [outI] (by simp) wb.heap.size 1 (inss_made (heap_alloc_new wb _) (by decide) (by simp))).mono ?_; rintro e wd ⟨rfl, hB, hK⟩; rw [E3.out] at hB; have Bd0 := Lib.hid hB; have Kd := Lib.hid ((Kb.out.below hbl).trans hK); clear hB hK hbl)
  go_end0
  exact ⟨rfl, Bd0.out, Kd.out⟩
set_option maxRecDepth 100000 in
set_option maxHeartbeats 16000000 in
theorem bCall_3 (W w : World) (gb : Nat) (st : List Ins3 × Int) (H : Bd W w gb st) (hst : StOk st) (tv sz who v : Int) (hv : W64 v) :
    Calls Try.prog 22 #[.pointer (some ⟨gb, 0, none⟩), .int .i64 tv, .int .i64 sz, .agg #[.int .u8 3, .int .i64 who, .int .u64 v]] w fun e w' => e = .returned (.tuple #[]) ∧ Bd W w' gb (callF tv sz st (⟨3, who, v⟩ : Cl)) ∧ KB w w' := by
  obtain ⟨r, hr⟩ : ∃ r, dnF st.1.length tv = r := ⟨_, rfl⟩
  have hrl : r.2.length ≤ 26 := by rw [← hr]; exact blkC_len st.1.length tv sz (⟨3, who, v⟩ : Cl)
  obtain ⟨s1, e1⟩ : ∃ s, adF st r = s := ⟨_, rfl⟩
  have hs1 : StOk s1 := by rw [← e1]; exact hst.ad _ hrl
  obtain ⟨s2, e2⟩ : ∃ s, adF s1 (0, [oneI]) = s := ⟨_, rfl⟩
  have hs2 : StOk s2 := by rw [← e2]; exact hs1.ad _ (by decide)
  obtain ⟨s3, e3⟩ : ∃ s, adF s2 (0, [outI]) = s := ⟨_, rfl⟩
  have HE := Lib.hid (show callF tv sz st (⟨3, who, v⟩ : Cl) = s3 from by unfold callF call2; rw [call1_n rfl]; show adF (adF (adF st (dnF st.1.length tv)) (0, [oneI])) (0, [outI]) = s3; rw [hr, e1, e2]; exact e3)
  rw [HE.out]
  have E1 := Lib.hid e1
  have E3 := Lib.hid e3
  have HR := Lib.hid hr
  have S := Lib.hid hst
  have S1 := Lib.hid hs1
  have RL := Lib.hid hrl
  have HV := Lib.hid hv
  have E2 := Lib.hid e2
  have S2 := Lib.hid hs2
  have bb := (((Below.refl w.heap.size w).alloc (Nat.le_refl _) (.cells #[.int .i64 tv] 3)).alloc (by simp) (.cells #[.int .i64 sz] 3)).alloc (by simp; omega) (.cells #[.int .u8 3, .int .i64 who, .int .u64 v] 55)
  have B0 := Lib.hid (H.below bb)
  have K0 := Lib.hid ((KB.refl w).below bb)
  have h5 := hp_alloc (hp_alloc (heap_alloc_new w (.cells #[.int .i64 tv] 3)) (.cells #[.int .i64 sz] 3)) (.cells #[.int .u8 3, .int .i64 who, .int .u64 v] 55)
  have h6 : (((w.alloc (.cells #[.int .i64 tv] 3)).alloc (.cells #[.int .i64 sz] 3)).alloc (.cells #[.int .u8 3, .int .i64 who, .int .u64 v] 55)).heap[w.heap.size + 1]? = some (.cells #[.int .i64 sz] 3 (0, 0)) := hp_alloc ((congrArg _ (by simp)).trans (heap_alloc_new (w.alloc (.cells #[.int .i64 tv] 3)) _)) _
  have h7 : (((w.alloc (.cells #[.int .i64 tv] 3)).alloc (.cells #[.int .i64 sz] 3)).alloc (.cells #[.int .u8 3, .int .i64 who, .int .u64 v] 55)).heap[w.heap.size + 1 + 1]? = some (.cells #[.int .u8 3, .int .i64 who, .int .u64 v] 55 (0, 0)) := (congrArg _ (by simp)).trans (heap_alloc_new ((w.alloc (.cells #[.int .i64 tv] 3)).alloc (.cells #[.int .i64 sz] 3)) _)
  have H5 := Lib.hid h5
  have H6 := Lib.hid h6
  have H7 := Lib.hid h7
  clear e1 e3 hr hst hs1 hrl hv bb h5 h6 h7 H e2 hs2
  go_enter Try.func22, Try.ntmps22
  go_upto_region 2 with fail
  generalize World.alloc _ _ = w0 at B0 K0 H5 H6 H7 ⊢
  obtain ⟨b5, hb5⟩ : ∃ b, w.heap.size = b := ⟨_, rfl⟩
  obtain ⟨b6, hb6⟩ : ∃ b, w.heap.size + 1 = b := ⟨_, rfl⟩
  obtain ⟨b7, hb7⟩ : ∃ b, w.heap.size + 1 + 1 = b := ⟨_, rfl⟩
  rw [hb7] at H7
  rw [hb6] at H6
  rw [hb5] at H5
  try rw [hb7]
  try rw [hb6]
  try rw [hb5]
  clear hb5 hb6 hb7
  have y0 : w0.cell? ⟨b7, 0, none⟩ = some (.int .u8 3) := hp_cell H7.out 0
  have y2 : w0.cell? ⟨b7, 2, none⟩ = some (.int .u64 v) := hp_cell H7.out 2
  have yl := hp_lt H7.out
  go_upto_region 23 with (go_at_call 44; refine (bAdd W w0 gb st B0.out (by have := S.out.1; omega) r (by have := RL.out; omega) 49 #[.pointer (some ⟨b5, 0, none⟩)] en_cl3 (fun _ => by have hz := cl_3 st.1.length tv sz 3 who v HV.out b5 b6 b7 w0 H5.out (by rw [HR.out]; exact RL.out); rw [HR.out] at hz; exact hz)).mono ?_; rintro e wb ⟨rfl, hB, hK⟩; rw [E1.out] at hB; have Bb := Lib.hid hB; have Kb := Lib.hid (K0.out.trans hK); clear hB hK)
  go_upto_region 25 with (go_at_call 23; have hbl := (Below.refl wb.heap.size wb).alloc (Nat.le_refl _) (.cells (insC [oneI]).toArray 64); refine (bIns W (wb.alloc (.cells (insC [oneI]).toArray 64)) gb s1 (Bb.out.below hbl) S1.out [oneI] (by simp) wb.heap.size 1 (inss_made (heap_alloc_new wb _) (by decide) (by simp))).mono ?_; rintro e wc ⟨rfl, hB, hK⟩; rw [E2.out] at hB; have Bc := Lib.hid hB; have Kc := Lib.hid ((Kb.out.below hbl).trans hK); clear hB hK hbl)
  go_wp2_with (go_at_call 23; have hbl := (Below.refl wc.heap.size wc).alloc (Nat.le_refl _) (.cells (insC [outI]).toArray 64); refine (bIns W (wc.alloc (.cells (insC [outI]).toArray 64)) gb s2 (Bc.out.below hbl) S2.out [outI] (by simp) wc.heap.size 1 (inss_made (heap_alloc_new wc _) (by decide) (by simp))).mono ?_; rintro e wd ⟨rfl, hB, hK⟩; rw [E3.out] at hB; have Bd0 := Lib.hid hB; have Kd := Lib.hid ((Kc.out.below hbl).trans hK); clear hB hK hbl)
  go_end0
  exact ⟨rfl, Bd0.out, Kd.out⟩
set_option maxRecDepth 100000 in
set_option maxHeartbeats 16000000 in
theorem bCall_4 (W w : World) (gb : Nat) (st : List Ins3 × Int) (H : Bd W w gb st) (hst : StOk st) (tv sz who v : Int) (hv : W64 v) :
    Calls Try.prog 22 #[.pointer (some ⟨gb, 0, none⟩), .int .i64 tv, .int .i64 sz, .agg #[.int .u8 4, .int .i64 who, .int .u64 v]] w fun e w' => e = .returned (.tuple #[]) ∧ Bd W w' gb (callF tv sz st (⟨4, who, v⟩ : Cl)) ∧ KB w w' := by
  obtain ⟨r, hr⟩ : ∃ r, upF st.1.length tv = r := ⟨_, rfl⟩
  have hrl : r.2.length ≤ 26 := by rw [← hr]; exact blkC_len st.1.length tv sz (⟨4, who, v⟩ : Cl)
  obtain ⟨s1, e1⟩ : ∃ s, adF st r = s := ⟨_, rfl⟩
  have hs1 : StOk s1 := by rw [← e1]; exact hst.ad _ hrl
  obtain ⟨s2, e2⟩ : ∃ s, adF s1 (0, [oneI]) = s := ⟨_, rfl⟩
  have hs2 : StOk s2 := by rw [← e2]; exact hs1.ad _ (by decide)
  obtain ⟨s3, e3⟩ : ∃ s, adF s2 (0, [outI]) = s := ⟨_, rfl⟩
  have HE := Lib.hid (show callF tv sz st (⟨4, who, v⟩ : Cl) = s3 from by unfold callF call2; rw [call1_n rfl]; show adF (adF (adF st (upF st.1.length tv)) (0, [oneI])) (0, [outI]) = s3; rw [hr, e1, e2]; exact e3)
  rw [HE.out]
  have E1 := Lib.hid e1
  have E3 := Lib.hid e3
  have HR := Lib.hid hr
  have S := Lib.hid hst
  have S1 := Lib.hid hs1
  have RL := Lib.hid hrl
  have HV := Lib.hid hv
  have E2 := Lib.hid e2
  have S2 := Lib.hid hs2
  have bb := (((Below.refl w.heap.size w).alloc (Nat.le_refl _) (.cells #[.int .i64 tv] 3)).alloc (by simp) (.cells #[.int .i64 sz] 3)).alloc (by simp; omega) (.cells #[.int .u8 4, .int .i64 who, .int .u64 v] 55)
  have B0 := Lib.hid (H.below bb)
  have K0 := Lib.hid ((KB.refl w).below bb)
  have h5 := hp_alloc (hp_alloc (heap_alloc_new w (.cells #[.int .i64 tv] 3)) (.cells #[.int .i64 sz] 3)) (.cells #[.int .u8 4, .int .i64 who, .int .u64 v] 55)
  have h6 : (((w.alloc (.cells #[.int .i64 tv] 3)).alloc (.cells #[.int .i64 sz] 3)).alloc (.cells #[.int .u8 4, .int .i64 who, .int .u64 v] 55)).heap[w.heap.size + 1]? = some (.cells #[.int .i64 sz] 3 (0, 0)) := hp_alloc ((congrArg _ (by simp)).trans (heap_alloc_new (w.alloc (.cells #[.int .i64 tv] 3)) _)) _
  have h7 : (((w.alloc (.cells #[.int .i64 tv] 3)).alloc (.cells #[.int .i64 sz] 3)).alloc (.cells #[.int .u8 4, .int .i64 who, .int .u64 v] 55)).heap[w.heap.size + 1 + 1]? = some (.cells #[.int .u8 4, .int .i64 who, .int .u64 v] 55 (0, 0)) := (congrArg _ (by simp)).trans (heap_alloc_new ((w.alloc (.cells #[.int .i64 tv] 3)).alloc (.cells #[.int .i64 sz] 3)) _)
  have H5 := Lib.hid h5
  have H6 := Lib.hid h6
  have H7 := Lib.hid h7
  clear e1 e3 hr hst hs1 hrl hv bb h5 h6 h7 H e2 hs2
  go_enter Try.func22, Try.ntmps22
  go_upto_region 2 with fail
  generalize World.alloc _ _ = w0 at B0 K0 H5 H6 H7 ⊢
  obtain ⟨b5, hb5⟩ : ∃ b, w.heap.size = b := ⟨_, rfl⟩
  obtain ⟨b6, hb6⟩ : ∃ b, w.heap.size + 1 = b := ⟨_, rfl⟩
  obtain ⟨b7, hb7⟩ : ∃ b, w.heap.size + 1 + 1 = b := ⟨_, rfl⟩
  rw [hb7] at H7
  rw [hb6] at H6
  rw [hb5] at H5
  try rw [hb7]
  try rw [hb6]
  try rw [hb5]
  clear hb5 hb6 hb7
  have y0 : w0.cell? ⟨b7, 0, none⟩ = some (.int .u8 4) := hp_cell H7.out 0
  have y2 : w0.cell? ⟨b7, 2, none⟩ = some (.int .u64 v) := hp_cell H7.out 2
  have yl := hp_lt H7.out
  go_upto_region 23 with (go_at_call 44; refine (bAdd W w0 gb st B0.out (by have := S.out.1; omega) r (by have := RL.out; omega) 51 #[.pointer (some ⟨b5, 0, none⟩)] en_cl4 (fun _ => by have hz := cl_4 st.1.length tv sz 4 who v HV.out b5 b6 b7 w0 H5.out (by rw [HR.out]; exact RL.out); rw [HR.out] at hz; exact hz)).mono ?_; rintro e wb ⟨rfl, hB, hK⟩; rw [E1.out] at hB; have Bb := Lib.hid hB; have Kb := Lib.hid (K0.out.trans hK); clear hB hK)
  go_upto_region 25 with (go_at_call 23; have hbl := (Below.refl wb.heap.size wb).alloc (Nat.le_refl _) (.cells (insC [oneI]).toArray 64); refine (bIns W (wb.alloc (.cells (insC [oneI]).toArray 64)) gb s1 (Bb.out.below hbl) S1.out [oneI] (by simp) wb.heap.size 1 (inss_made (heap_alloc_new wb _) (by decide) (by simp))).mono ?_; rintro e wc ⟨rfl, hB, hK⟩; rw [E2.out] at hB; have Bc := Lib.hid hB; have Kc := Lib.hid ((Kb.out.below hbl).trans hK); clear hB hK hbl)
  go_wp2_with (go_at_call 23; have hbl := (Below.refl wc.heap.size wc).alloc (Nat.le_refl _) (.cells (insC [outI]).toArray 64); refine (bIns W (wc.alloc (.cells (insC [outI]).toArray 64)) gb s2 (Bc.out.below hbl) S2.out [outI] (by simp) wc.heap.size 1 (inss_made (heap_alloc_new wc _) (by decide) (by simp))).mono ?_; rintro e wd ⟨rfl, hB, hK⟩; rw [E3.out] at hB; have Bd0 := Lib.hid hB; have Kd := Lib.hid ((Kc.out.below hbl).trans hK); clear hB hK hbl)
  go_end0
  exact ⟨rfl, Bd0.out, Kd.out⟩
set_option maxRecDepth 100000 in
set_option maxHeartbeats 16000000 in
theorem bCall_5 (W w : World) (gb : Nat) (st : List Ins3 × Int) (H : Bd W w gb st) (hst : StOk st) (tv sz who v : Int) (hv : W64 v) :
    Calls Try.prog 22 #[.pointer (some ⟨gb, 0, none⟩), .int .i64 tv, .int .i64 sz, .agg #[.int .u8 5, .int .i64 who, .int .u64 v]] w fun e w' => e = .returned (.tuple #[]) ∧ Bd W w' gb (callF tv sz st (⟨5, who, v⟩ : Cl)) ∧ KB w w' := by
  obtain ⟨r, hr⟩ : ∃ r, enF st.1.length tv sz v = r := ⟨_, rfl⟩
  have hrl : r.2.length ≤ 26 := by rw [← hr]; exact blkC_len st.1.length tv sz (⟨5, who, v⟩ : Cl)
  obtain ⟨s1, e1⟩ : ∃ s, adF st r = s := ⟨_, rfl⟩
  have hs1 : StOk s1 := by rw [← e1]; exact hst.ad _ hrl
  obtain ⟨s2, e2⟩ : ∃ s, adF s1 (0, [oneI]) = s := ⟨_, rfl⟩
  have hs2 : StOk s2 := by rw [← e2]; exact hs1.ad _ (by decide)
  obtain ⟨s3, e3⟩ : ∃ s, adF s2 (0, [outI]) = s := ⟨_, rfl⟩
  have HE := Lib.hid (show callF tv sz st (⟨5, who, v⟩ : Cl) = s3 from by unfold callF call2; rw [call1_n rfl]; show adF (adF (adF st (enF st.1.length tv sz v)) (0, [oneI])) (0, [outI]) = s3; rw [hr, e1, e2]; exact e3)
  rw [HE.out]
  have E1 := Lib.hid e1
  have E3 := Lib.hid e3
  have HR := Lib.hid hr
  have S := Lib.hid hst
  have S1 := Lib.hid hs1
  have RL := Lib.hid hrl
  have HV := Lib.hid hv
  have E2 := Lib.hid e2
  have S2 := Lib.hid hs2
  have bb := (((Below.refl w.heap.size w).alloc (Nat.le_refl _) (.cells #[.int .i64 tv] 3)).alloc (by simp) (.cells #[.int .i64 sz] 3)).alloc (by simp; omega) (.cells #[.int .u8 5, .int .i64 who, .int .u64 v] 55)
  have B0 := Lib.hid (H.below bb)
  have K0 := Lib.hid ((KB.refl w).below bb)
  have h5 := hp_alloc (hp_alloc (heap_alloc_new w (.cells #[.int .i64 tv] 3)) (.cells #[.int .i64 sz] 3)) (.cells #[.int .u8 5, .int .i64 who, .int .u64 v] 55)
  have h6 : (((w.alloc (.cells #[.int .i64 tv] 3)).alloc (.cells #[.int .i64 sz] 3)).alloc (.cells #[.int .u8 5, .int .i64 who, .int .u64 v] 55)).heap[w.heap.size + 1]? = some (.cells #[.int .i64 sz] 3 (0, 0)) := hp_alloc ((congrArg _ (by simp)).trans (heap_alloc_new (w.alloc (.cells #[.int .i64 tv] 3)) _)) _
  have h7 : (((w.alloc (.cells #[.int .i64 tv] 3)).alloc (.cells #[.int .i64 sz] 3)).alloc (.cells #[.int .u8 5, .int .i64 who, .int .u64 v] 55)).heap[w.heap.size + 1 + 1]? = some (.cells #[.int .u8 5, .int .i64 who, .int .u64 v] 55 (0, 0)) := (congrArg _ (by simp)).trans (heap_alloc_new ((w.alloc (.cells #[.int .i64 tv] 3)).alloc (.cells #[.int .i64 sz] 3)) _)
  have H5 := Lib.hid h5
  have H6 := Lib.hid h6
  have H7 := Lib.hid h7
  clear e1 e3 hr hst hs1 hrl hv bb h5 h6 h7 H e2 hs2
  go_enter Try.func22, Try.ntmps22
  go_upto_region 2 with fail
  generalize World.alloc _ _ = w0 at B0 K0 H5 H6 H7 ⊢
  obtain ⟨b5, hb5⟩ : ∃ b, w.heap.size = b := ⟨_, rfl⟩
  obtain ⟨b6, hb6⟩ : ∃ b, w.heap.size + 1 = b := ⟨_, rfl⟩
  obtain ⟨b7, hb7⟩ : ∃ b, w.heap.size + 1 + 1 = b := ⟨_, rfl⟩
  rw [hb7] at H7
  rw [hb6] at H6
  rw [hb5] at H5
  try rw [hb7]
  try rw [hb6]
  try rw [hb5]
  clear hb5 hb6 hb7
  have y0 : w0.cell? ⟨b7, 0, none⟩ = some (.int .u8 5) := hp_cell H7.out 0
  have y2 : w0.cell? ⟨b7, 2, none⟩ = some (.int .u64 v) := hp_cell H7.out 2
  have yl := hp_lt H7.out
  go_upto_region 23 with (go_at_call 44; refine (bAdd W w0 gb st B0.out (by have := S.out.1; omega) r (by have := RL.out; omega) 53 #[.pointer (some ⟨b5, 0, none⟩), .pointer (some ⟨b6, 0, none⟩), .pointer (some ⟨b7, 0, none⟩)] en_cl5 (fun _ => by have hz := cl_5 st.1.length tv sz 5 who v HV.out b5 b6 b7 w0 H5.out H6.out H7.out (by rw [HR.out]; exact RL.out); rw [HR.out] at hz; exact hz)).mono ?_; rintro e wb ⟨rfl, hB, hK⟩; rw [E1.out] at hB; have Bb := Lib.hid hB; have Kb := Lib.hid (K0.out.trans hK); clear hB hK)
  go_upto_region 25 with (go_at_call 23; have hbl := (Below.refl wb.heap.size wb).alloc (Nat.le_refl _) (.cells (insC [oneI]).toArray 64); refine (bIns W (wb.alloc (.cells (insC [oneI]).toArray 64)) gb s1 (Bb.out.below hbl) S1.out [oneI] (by simp) wb.heap.size 1 (inss_made (heap_alloc_new wb _) (by decide) (by simp))).mono ?_; rintro e wc ⟨rfl, hB, hK⟩; rw [E2.out] at hB; have Bc := Lib.hid hB; have Kc := Lib.hid ((Kb.out.below hbl).trans hK); clear hB hK hbl)
  go_wp2_with (go_at_call 23; have hbl := (Below.refl wc.heap.size wc).alloc (Nat.le_refl _) (.cells (insC [outI]).toArray 64); refine (bIns W (wc.alloc (.cells (insC [outI]).toArray 64)) gb s2 (Bc.out.below hbl) S2.out [outI] (by simp) wc.heap.size 1 (inss_made (heap_alloc_new wc _) (by decide) (by simp))).mono ?_; rintro e wd ⟨rfl, hB, hK⟩; rw [E3.out] at hB; have Bd0 := Lib.hid hB; have Kd := Lib.hid ((Kc.out.below hbl).trans hK); clear hB hK hbl)
  go_end0
  exact ⟨rfl, Bd0.out, Kd.out⟩
set_option maxRecDepth 100000 in
set_option maxHeartbeats 16000000 in
theorem bCall_6 (W w : World) (gb : Nat) (st : List Ins3 × Int) (H : Bd W w gb st) (hst : StOk st) (tv sz who v : Int) (hv : W64 v) :
    Calls Try.prog 22 #[.pointer (some ⟨gb, 0, none⟩), .int .i64 tv, .int .i64 sz, .agg #[.int .u8 6, .int .i64 who, .int .u64 v]] w fun e w' => e = .returned (.tuple #[]) ∧ Bd W w' gb (callF tv sz st (⟨6, who, v⟩ : Cl)) ∧ KB w w' := by
  obtain ⟨r, hr⟩ : ∃ r, taF st.1.length tv sz = r := ⟨_, rfl⟩
  have hrl : r.2.length ≤ 26 := by rw [← hr]; exact blkC_len st.1.length tv sz (⟨6, who, v⟩ : Cl)
  obtain ⟨s1, e1⟩ : ∃ s, adF st r = s := ⟨_, rfl⟩
  have hs1 : StOk s1 := by rw [← e1]; exact hst.ad _ hrl
  obtain ⟨s3, e3⟩ : ∃ s, adF s1 (0, [outI]) = s := ⟨_, rfl⟩
  have HE := Lib.hid (show callF tv sz st (⟨6, who, v⟩ : Cl) = s3 from by unfold callF call2; rw [call1_n rfl]; show adF (adF st (taF st.1.length tv sz)) (0, [outI]) = s3; rw [hr, e1]; exact e3)
  rw [HE.out]
  have E1 := Lib.hid e1
  have E3 := Lib.hid e3
  have HR := Lib.hid hr
  have S := Lib.hid hst
  have S1 := Lib.hid hs1
  have RL := Lib.hid hrl
  have HV := Lib.hid hv
  have bb := (((Below.refl w.heap.size w).alloc (Nat.le_refl _) (.cells #[.int .i64 tv] 3)).alloc (by simp) (.cells #[.int .i64 sz] 3)).alloc (by simp; omega) (.cells #[.int .u8 6, .int .i64 who, .int .u64 v] 55)
  have B0 := Lib.hid (H.below bb)
  have K0 := Lib.hid ((KB.refl w).below bb)
  have h5 := hp_alloc (hp_alloc (heap_alloc_new w (.cells #[.int .i64 tv] 3)) (.cells #[.int .i64 sz] 3)) (.cells #[.int .u8 6, .int .i64 who, .int .u64 v] 55)
  have h6 : (((w.alloc (.cells #[.int .i64 tv] 3)).alloc (.cells #[.int .i64 sz] 3)).alloc (.cells #[.int .u8 6, .int .i64 who, .int .u64 v] 55)).heap[w.heap.size + 1]? = some (.cells #[.int .i64 sz] 3 (0, 0)) := hp_alloc ((congrArg _ (by simp)).trans (heap_alloc_new (w.alloc (.cells #[.int .i64 tv] 3)) _)) _
  have h7 : (((w.alloc (.cells #[.int .i64 tv] 3)).alloc (.cells #[.int .i64 sz] 3)).alloc (.cells #[.int .u8 6, .int .i64 who, .int .u64 v] 55)).heap[w.heap.size + 1 + 1]? = some (.cells #[.int .u8 6, .int .i64 who, .int .u64 v] 55 (0, 0)) := (congrArg _ (by simp)).trans (heap_alloc_new ((w.alloc (.cells #[.int .i64 tv] 3)).alloc (.cells #[.int .i64 sz] 3)) _)
  have H5 := Lib.hid h5
  have H6 := Lib.hid h6
  have H7 := Lib.hid h7
  clear e1 e3 hr hst hs1 hrl hv bb h5 h6 h7 H
  go_enter Try.func22, Try.ntmps22
  go_upto_region 2 with fail
  generalize World.alloc _ _ = w0 at B0 K0 H5 H6 H7 ⊢
  obtain ⟨b5, hb5⟩ : ∃ b, w.heap.size = b := ⟨_, rfl⟩
  obtain ⟨b6, hb6⟩ : ∃ b, w.heap.size + 1 = b := ⟨_, rfl⟩
  obtain ⟨b7, hb7⟩ : ∃ b, w.heap.size + 1 + 1 = b := ⟨_, rfl⟩
  rw [hb7] at H7
  rw [hb6] at H6
  rw [hb5] at H5
  try rw [hb7]
  try rw [hb6]
  try rw [hb5]
  clear hb5 hb6 hb7
  have y0 : w0.cell? ⟨b7, 0, none⟩ = some (.int .u8 6) := hp_cell H7.out 0
  have y2 : w0.cell? ⟨b7, 2, none⟩ = some (.int .u64 v) := hp_cell H7.out 2
  have yl := hp_lt H7.out
  go_upto_region 23 with (go_at_call 44; refine (bAdd W w0 gb st B0.out (by have := S.out.1; omega) r (by have := RL.out; omega) 55 #[.pointer (some ⟨b5, 0, none⟩), .pointer (some ⟨b6, 0, none⟩)] en_cl6 (fun _ => by have hz := cl_6 st.1.length tv sz 6 who v HV.out b5 b6 b7 w0 H5.out H6.out (by rw [HR.out]; exact RL.out); rw [HR.out] at hz; exact hz)).mono ?_; rintro e wb ⟨rfl, hB, hK⟩; rw [E1.out] at hB; have Bb := Lib.hid hB; have Kb := Lib.hid (K0.out.trans hK); clear hB hK)
  go_wp2_with (go_at_call 23; have hbl := (Below.refl wb.heap.size wb).alloc (Nat.le_refl _) (.cells (insC [outI]).toArray 64); refine (bIns W (wb.alloc (.cells (insC [outI]).toArray 64)) gb s1 (Bb.out.below hbl) S1.out [outI] (by simp) wb.heap.size 1 (inss_made (heap_alloc_new wb _) (by decide) (by simp))).mono ?_; rintro e wd ⟨rfl, hB, hK⟩; rw [E3.out] at hB; have Bd0 := Lib.hid hB; have Kd := Lib.hid ((Kb.out.below hbl).trans hK); clear hB hK hbl)
  go_end0
  exact ⟨rfl, Bd0.out, Kd.out⟩
set_option maxRecDepth 100000 in
set_option maxHeartbeats 16000000 in
theorem bCall_7 (W w : World) (gb : Nat) (st : List Ins3 × Int) (H : Bd W w gb st) (hst : StOk st) (tv sz who v : Int) (hv : W64 v) :
    Calls Try.prog 22 #[.pointer (some ⟨gb, 0, none⟩), .int .i64 tv, .int .i64 sz, .agg #[.int .u8 7, .int .i64 who, .int .u64 v]] w fun e w' => e = .returned (.tuple #[]) ∧ Bd W w' gb (callF tv sz st (⟨7, who, v⟩ : Cl)) ∧ KB w w' := by
  obtain ⟨r, hr⟩ : ∃ r, arF st.1.length tv sz = r := ⟨_, rfl⟩
  have hrl : r.2.length ≤ 26 := by rw [← hr]; exact blkC_len st.1.length tv sz (⟨7, who, v⟩ : Cl)
  obtain ⟨s1, e1⟩ : ∃ s, adF st r = s := ⟨_, rfl⟩
  have hs1 : StOk s1 := by rw [← e1]; exact hst.ad _ hrl
  obtain ⟨s3, e3⟩ : ∃ s, adF s1 (0, [outI]) = s := ⟨_, rfl⟩
  have HE := Lib.hid (show callF tv sz st (⟨7, who, v⟩ : Cl) = s3 from by unfold callF call2; rw [call1_n rfl]; show adF (adF st (arF st.1.length tv sz)) (0, [outI]) = s3; rw [hr, e1]; exact e3)
  rw [HE.out]
  have E1 := Lib.hid e1
  have E3 := Lib.hid e3
  have HR := Lib.hid hr
  have S := Lib.hid hst
  have S1 := Lib.hid hs1
  have RL := Lib.hid hrl
  have HV := Lib.hid hv
  have bb := (((Below.refl w.heap.size w).alloc (Nat.le_refl _) (.cells #[.int .i64 tv] 3)).alloc (by simp) (.cells #[.int .i64 sz] 3)).alloc (by simp; omega) (.cells #[.int .u8 7, .int .i64 who, .int .u64 v] 55)
  have B0 := Lib.hid (H.below bb)
  have K0 := Lib.hid ((KB.refl w).below bb)
  have h5 := hp_alloc (hp_alloc (heap_alloc_new w (.cells #[.int .i64 tv] 3)) (.cells #[.int .i64 sz] 3)) (.cells #[.int .u8 7, .int .i64 who, .int .u64 v] 55)
  have h6 : (((w.alloc (.cells #[.int .i64 tv] 3)).alloc (.cells #[.int .i64 sz] 3)).alloc (.cells #[.int .u8 7, .int .i64 who, .int .u64 v] 55)).heap[w.heap.size + 1]? = some (.cells #[.int .i64 sz] 3 (0, 0)) := hp_alloc ((congrArg _ (by simp)).trans (heap_alloc_new (w.alloc (.cells #[.int .i64 tv] 3)) _)) _
  have h7 : (((w.alloc (.cells #[.int .i64 tv] 3)).alloc (.cells #[.int .i64 sz] 3)).alloc (.cells #[.int .u8 7, .int .i64 who, .int .u64 v] 55)).heap[w.heap.size + 1 + 1]? = some (.cells #[.int .u8 7, .int .i64 who, .int .u64 v] 55 (0, 0)) := (congrArg _ (by simp)).trans (heap_alloc_new ((w.alloc (.cells #[.int .i64 tv] 3)).alloc (.cells #[.int .i64 sz] 3)) _)
  have H5 := Lib.hid h5
  have H6 := Lib.hid h6
  have H7 := Lib.hid h7
  clear e1 e3 hr hst hs1 hrl hv bb h5 h6 h7 H
  go_enter Try.func22, Try.ntmps22
  go_upto_region 2 with fail
  generalize World.alloc _ _ = w0 at B0 K0 H5 H6 H7 ⊢
  obtain ⟨b5, hb5⟩ : ∃ b, w.heap.size = b := ⟨_, rfl⟩
  obtain ⟨b6, hb6⟩ : ∃ b, w.heap.size + 1 = b := ⟨_, rfl⟩
  obtain ⟨b7, hb7⟩ : ∃ b, w.heap.size + 1 + 1 = b := ⟨_, rfl⟩
  rw [hb7] at H7
  rw [hb6] at H6
  rw [hb5] at H5
  try rw [hb7]
  try rw [hb6]
  try rw [hb5]
  clear hb5 hb6 hb7
  have y0 : w0.cell? ⟨b7, 0, none⟩ = some (.int .u8 7) := hp_cell H7.out 0
  have y2 : w0.cell? ⟨b7, 2, none⟩ = some (.int .u64 v) := hp_cell H7.out 2
  have yl := hp_lt H7.out
  go_upto_region 23 with (go_at_call 44; refine (bAdd W w0 gb st B0.out (by have := S.out.1; omega) r (by have := RL.out; omega) 57 #[.pointer (some ⟨b5, 0, none⟩), .pointer (some ⟨b6, 0, none⟩)] en_cl7 (fun _ => by have hz := cl_7 st.1.length tv sz 7 who v HV.out b5 b6 b7 w0 H5.out H6.out (by rw [HR.out]; exact RL.out); rw [HR.out] at hz; exact hz)).mono ?_; rintro e wb ⟨rfl, hB, hK⟩; rw [E1.out] at hB; have Bb := Lib.hid hB; have Kb := Lib.hid (K0.out.trans hK); clear hB hK)
  go_wp2_with (go_at_call 23; have hbl := (Below.refl wb.heap.size wb).alloc (Nat.le_refl _) (.cells (insC [outI]).toArray 64); refine (bIns W (wb.alloc (.cells (insC [outI]).toArray 64)) gb s1 (Bb.out.below hbl) S1.out [outI] (by simp) wb.heap.size 1 (inss_made (heap_alloc_new wb _) (by decide) (by simp))).mono ?_; rintro e wd ⟨rfl, hB, hK⟩; rw [E3.out] at hB; have Bd0 := Lib.hid hB; have Kd := Lib.hid ((Kb.out.below hbl).trans hK); clear hB hK hbl)
  go_end0
  exact ⟨rfl, Bd0.out, Kd.out⟩
set_option maxRecDepth 100000 in
set_option maxHeartbeats 16000000 in
theorem bCall_8 (W w : World) (gb : Nat) (st : List Ins3 × Int) (H : Bd W w gb st) (hst : StOk st) (tv sz who v : Int) (hv : W64 v) :
    Calls Try.prog 22 #[.pointer (some ⟨gb, 0, none⟩), .int .i64 tv, .int .i64 sz, .agg #[.int .u8 8, .int .i64 who, .int .u64 v]] w fun e w' => e = .returned (.tuple #[]) ∧ Bd W w' gb (callF tv sz st (⟨8, who, v⟩ : Cl)) ∧ KB w w' := by
  obtain ⟨s0, e0⟩ : ∃ s, adF st (0, [pushI' v, setI]) = s := ⟨_, rfl⟩
  have hs0 : StOk s0 := by rw [← e0]; exact hst.ad _ (show (2 : Nat) ≤ 26 by decide)
  obtain ⟨r, hr⟩ : ∃ r, leF s0.1.length tv 0 = r := ⟨_, rfl⟩
  have hrl : r.2.length ≤ 26 := by rw [← hr]; exact blkC_len s0.1.length tv sz (⟨8, who, v⟩ : Cl)
  obtain ⟨s1, e1⟩ : ∃ s, adF s0 r = s := ⟨_, rfl⟩
  have hs1 : StOk s1 := by rw [← e1]; exact hs0.ad _ hrl
  obtain ⟨s2, e2⟩ : ∃ s, adF s1 (0, [oneI]) = s := ⟨_, rfl⟩
  have hs2 : StOk s2 := by rw [← e2]; exact hs1.ad _ (by decide)
  obtain ⟨s3, e3⟩ : ∃ s, adF s2 (0, [outI]) = s := ⟨_, rfl⟩
  have HE := Lib.hid (show callF tv sz st (⟨8, who, v⟩ : Cl) = s3 from by unfold callF call2; rw [call1_8 rfl]; dsimp only; rw [e0, hr, e1]; exact (congrArg (fun x => adF x (0, [outI])) e2).trans e3)
  rw [HE.out]
  have E1 := Lib.hid e1
  have E3 := Lib.hid e3
  have HR := Lib.hid hr
  have S := Lib.hid hst
  have S1 := Lib.hid hs1
  have RL := Lib.hid hrl
  have HV := Lib.hid hv
  have E0 := Lib.hid e0
  have S0 := Lib.hid hs0
  have E2 := Lib.hid e2
  have S2 := Lib.hid hs2
  have bb := (((Below.refl w.heap.size w).alloc (Nat.le_refl _) (.cells #[.int .i64 tv] 3)).alloc (by simp) (.cells #[.int .i64 sz] 3)).alloc (by simp; omega) (.cells #[.int .u8 8, .int .i64 who, .int .u64 v] 55)
  have B0 := Lib.hid (H.below bb)
  have K0 := Lib.hid ((KB.refl w).below bb)
  have h5 := hp_alloc (hp_alloc (heap_alloc_new w (.cells #[.int .i64 tv] 3)) (.cells #[.int .i64 sz] 3)) (.cells #[.int .u8 8, .int .i64 who, .int .u64 v] 55)
  have h6 : (((w.alloc (.cells #[.int .i64 tv] 3)).alloc (.cells #[.int .i64 sz] 3)).alloc (.cells #[.int .u8 8, .int .i64 who, .int .u64 v] 55)).heap[w.heap.size + 1]? = some (.cells #[.int .i64 sz] 3 (0, 0)) := hp_alloc ((congrArg _ (by simp)).trans (heap_alloc_new (w.alloc (.cells #[.int .i64 tv] 3)) _)) _
  have h7 : (((w.alloc (.cells #[.int .i64 tv] 3)).alloc (.cells #[.int .i64 sz] 3)).alloc (.cells #[.int .u8 8, .int .i64 who, .int .u64 v] 55)).heap[w.heap.size + 1 + 1]? = some (.cells #[.int .u8 8, .int .i64 who, .int .u64 v] 55 (0, 0)) := (congrArg _ (by simp)).trans (heap_alloc_new ((w.alloc (.cells #[.int .i64 tv] 3)).alloc (.cells #[.int .i64 sz] 3)) _)
  have H5 := Lib.hid h5
  have H6 := Lib.hid h6
  have H7 := Lib.hid h7
  clear e1 e3 hr hst hs1 hrl hv bb h5 h6 h7 H e0 hs0 e2 hs2
  go_enter Try.func22, Try.ntmps22
  go_upto_region 2 with fail
  generalize World.alloc _ _ = w0 at B0 K0 H5 H6 H7 ⊢
  obtain ⟨b5, hb5⟩ : ∃ b, w.heap.size = b := ⟨_, rfl⟩
  obtain ⟨b6, hb6⟩ : ∃ b, w.heap.size + 1 = b := ⟨_, rfl⟩
  obtain ⟨b7, hb7⟩ : ∃ b, w.heap.size + 1 + 1 = b := ⟨_, rfl⟩
  rw [hb7] at H7
  rw [hb6] at H6
  rw [hb5] at H5
  try rw [hb7]
  try rw [hb6]
  try rw [hb5]
  clear hb5 hb6 hb7
  have y0 : w0.cell? ⟨b7, 0, none⟩ = some (.int .u8 8) := hp_cell H7.out 0
  have y2 : w0.cell? ⟨b7, 2, none⟩ = some (.int .u64 v) := hp_cell H7.out 2
  have yl := hp_lt H7.out
  go_upto_region 22 with (go_at_call 23; have hbl := (Below.refl w0.heap.size w0).alloc (Nat.le_refl _) (.cells (insC [pushI' v, setI]).toArray 64); refine (bIns W (w0.alloc (.cells (insC [pushI' v, setI]).toArray 64)) gb st (B0.out.below hbl) S.out [pushI' v, setI] (by simp) w0.heap.size 2 (inss_made (heap_alloc_new w0 _) (List.forall_mem_cons.2 ⟨ok_mk (by decide) ⟨by decide, by decide⟩ HV.out, List.forall_mem_cons.2 ⟨by decide, fun x hx => (List.not_mem_nil hx).elim⟩⟩) (by simp))).mono ?_; rintro e wa ⟨rfl, hB, hK⟩; rw [E0.out] at hB; have Ba := Lib.hid hB; have Ka := Lib.hid ((K0.out.below hbl).trans hK); have KBa := Lib.hid (((KB.refl w0).below hbl).trans hK); clear hB hK hbl)
  go_upto_region 23 with (go_at_call 44; refine (bAdd W wa gb s0 Ba.out (by have := S0.out.1; omega) r (by have := RL.out; omega) 59 #[.pointer (some ⟨b5, 0, none⟩)] en_cl8 (fun _ => by have hz := cl_8 s0.1.length tv sz 8 who v HV.out b5 b6 b7 wa ((KBa.out.2 _ _ _ H5.out (by decide) (by decide))) (by rw [HR.out]; exact RL.out); rw [HR.out] at hz; exact hz)).mono ?_; rintro e wb ⟨rfl, hB, hK⟩; rw [E1.out] at hB; have Bb := Lib.hid hB; have Kb := Lib.hid (Ka.out.trans hK); clear hB hK)
  go_upto_region 25 with (go_at_call 23; have hbl := (Below.refl wb.heap.size wb).alloc (Nat.le_refl _) (.cells (insC [oneI]).toArray 64); refine (bIns W (wb.alloc (.cells (insC [oneI]).toArray 64)) gb s1 (Bb.out.below hbl) S1.out [oneI] (by simp) wb.heap.size 1 (inss_made (heap_alloc_new wb _) (by decide) (by simp))).mono ?_; rintro e wc ⟨rfl, hB, hK⟩; rw [E2.out] at hB; have Bc := Lib.hid hB; have Kc := Lib.hid ((Kb.out.below hbl).trans hK); clear hB hK hbl)
  go_wp2_with (go_at_call 23; have hbl := (Below.refl wc.heap.size wc).alloc (Nat.le_refl _) (.cells (insC [outI]).toArray 64); refine (bIns W (wc.alloc (.cells (insC [outI]).toArray 64)) gb s2 (Bc.out.below hbl) S2.out [outI] (by simp) wc.heap.size 1 (inss_made (heap_alloc_new wc _) (by decide) (by simp))).mono ?_; rintro e wd ⟨rfl, hB, hK⟩; rw [E3.out] at hB; have Bd0 := Lib.hid hB; have Kd := Lib.hid ((Kc.out.below hbl).trans hK); clear hB hK hbl)
  go_end0
  exact ⟨rfl, Bd0.out, Kd.out⟩
theorem bCall (W w : World) (gb : Nat) (st : List Ins3 × Int) (H : Bd W w gb st) (hst : StOk st) (tv sz : Int) (c : Cl) (hk : 1 ≤ c.k ∧ c.k ≤ 8) (hv : W64 c.v) :
    Calls Try.prog 22 #[.pointer (some ⟨gb, 0, none⟩), .int .i64 tv, .int .i64 sz, .agg #[.int .u8 c.k, .int .i64 c.who, .int .u64 c.v]] w fun e w' => e = .returned (.tuple #[]) ∧ Bd W w' gb (callF tv sz st c) ∧ KB w w' := by
  obtain ⟨k, who, v⟩ := c
  dsimp only at hk hv ⊢
  rcases (show k = 1 ∨ k = 2 ∨ k = 3 ∨ k = 4 ∨ k = 5 ∨ k = 6 ∨ k = 7 ∨ k = 8 by omega) with rfl | rfl | rfl | rfl | rfl | rfl | rfl | rfl
  · exact bCall_1 W w gb st H hst tv sz who v hv
  · exact bCall_2 W w gb st H hst tv sz who v hv
  · exact bCall_3 W w gb st H hst tv sz who v hv
  · exact bCall_4 W w gb st H hst tv sz who v hv
  · exact bCall_5 W w gb st H hst tv sz who v hv
  · exact bCall_6 W w gb st H hst tv sz who v hv
  · exact bCall_7 W w gb st H hst tv sz who v hv
  · exact bCall_8 W w gb st H hst tv sz who v hv
end Go.Proofs.Ytmmfadakhnagpaa
