
/-
  rowlockref24.block.
-/
import Derived.Test.YtmmfadakhnagpaaCl5
import Derived.Deep.CutBlock
import Derived.RegionTactic
import Derived.BigRegion
import Derived.Handy
namespace Go.Proofs.Ytmmfadakhnagpaa
open Go.RowKit Go.ChangeShapes Go.WideShapes
set_option linter.unusedSimpArgs false
set_option linter.unusedVariables false

theorem blkA_pos {l : List Ins3} {a : Int} (h : (blkA l a).1 = 0) (hl : l.length ≠ 0) : (blkA l a).2.length ≠ 0 := by
  unfold blkA at h ⊢
  split at h
  · cases h
  · rename_i h1; rw [if_neg h1]; simpa using hl
theorem blkR_pos {l : List Ins3} {a : Int} (h : (blkR l a).1 = 0) (hl : l.length ≠ 0) : (blkR l a).2.length ≠ 0 := by
  unfold blkR at h ⊢
  split at h
  · cases h
  · rename_i h1; rw [if_neg h1]; exact hl
theorem leF_pos {a tv lc : Int} (h : (leF a tv lc).1 = 0) : (leF a tv lc).2.length ≠ 0 := by
  unfold leF at h ⊢
  cases hb : baB a tv <;> cases hw : wthB lc 0 3 <;> rw [hb, hw] at h <;> first | (exact absurd (show (2 : Int) = 0 from h) (by decide)) | (exact absurd (show (3 : Int) = 0 from h) (by decide)) | exact blkR_pos h (by simp [leaveL])
theorem blkC_pos {a tv sz : Int} {c : Cl} (h : (blkC a tv sz c).1 = 0) : (blkC a tv sz c).2.length ≠ 0 := by
  unfold blkC at h ⊢
  cases h1 : (c.k == 1)
  cases h2 : (c.k == 2)
  cases h3 : (c.k == 3)
  cases h4 : (c.k == 4)
  cases h5 : (c.k == 5)
  cases h6 : (c.k == 6)
  cases h7 : (c.k == 7)
  all_goals (try rw [h1] at h); (try rw [h2] at h); (try rw [h3] at h); (try rw [h4] at h); (try rw [h5] at h); (try rw [h6] at h); (try rw [h7] at h)
  all_goals dsimp only [cond_true, cond_false] at h ⊢
  · exact leF_pos h
  · unfold arF at h ⊢
    cases hb : baB a tv <;> cases hw : wthB sz 1 4 <;> rw [hb, hw] at h <;> first | (exact absurd (show (2 : Int) = 0 from h) (by decide)) | (exact absurd (show (3 : Int) = 0 from h) (by decide)) | exact blkR_pos h (by simp [arriveL])
  · unfold taF at h ⊢
    cases hb : quB a tv sz <;> rw [hb] at h <;> first | (exact absurd (show (2 : Int) = 0 from h) (by decide)) | (exact absurd (show (3 : Int) = 0 from h) (by decide)) | exact blkR_pos h (by simp [takeL])
  · unfold enF at h ⊢
    cases hb : quB a tv sz <;> cases hw : rightB c.v <;> rw [hb] at h <;> (try rw [hw] at h) <;> first | (exact absurd (show (2 : Int) = 0 from h) (by decide)) | (exact absurd (show (3 : Int) = 0 from h) (by decide)) | exact blkR_pos h (by simp [enterL])
  · unfold upF at h ⊢
    cases hb : mayL a tv 0 <;> rw [hb] at h <;> first | (exact absurd (show (2 : Int) = 0 from h) (by decide)) | exact blkA_pos h (by simp [upR])
  · unfold dnF at h ⊢
    cases hb : mayL a tv 0 <;> rw [hb] at h <;> first | (exact absurd (show (2 : Int) = 0 from h) (by decide)) | exact blkA_pos h (by simp [downR])
  · unfold unF at h ⊢
    cases hb : mayL a tv c.who <;> rw [hb] at h <;> first | (exact absurd (show (2 : Int) = 0 from h) (by decide)) | exact blkA_pos h (by simp [unlockR])
  · unfold loF at h ⊢
    cases hb : mayL a tv c.who <;> rw [hb] at h <;> first | (exact absurd (show (2 : Int) = 0 from h) (by decide)) | exact blkA_pos h (by simp [lockR])
theorem blkRf_pos {a tv sz : Int} {c : Cl} (hk : 1 ≤ c.k ∧ c.k ≤ 8) (h : (blkRf a sz tv c).1 = 0) : (blkRf a sz tv c).2.length ≠ 0 := by
  cases h8 : (c.k == 8)
  · rw [blkRf_n hk h8] at h ⊢
    exact blkC_pos h
  · rw [blkRf_8 h8] at h ⊢
    split at h
    · cases h
    · rename_i h1
      rw [if_neg h1]
      split at h
      · rename_i h2; rw [if_pos h2]; simp
      · rename_i h2; exact absurd h h2
theorem blkRf_len (a tv sz : Int) (c : Cl) (hk : 1 ≤ c.k ∧ c.k ≤ 8) : (blkRf a sz tv c).2.length ≤ 40 := by
  cases h8 : (c.k == 8)
  · rw [blkRf_n hk h8]
    have := blkC_len a tv sz c
    omega
  · rw [blkRf_8 h8]
    split
    · exact Nat.zero_le _
    · split
      · have := leF_len (a + 2) tv 0
        have h3 : (leF (a + 2) tv 0).2.length ≤ 26 := by
          have := blkC_len (a + 2) tv sz ⟨8, 0, 0⟩
          exact this
        simp
        omega
      · exact Nat.zero_le _
set_option maxHeartbeats 8000000 in
theorem rblk_1 (at' sz tv who v : Int) (hv : W64 v) (W : World) : Calls Try.prog 27 #[.int .i64 at', .int .i64 sz, .int .i64 tv, .agg #[.int .u8 1, .int .i64 who, .int .u64 v]] W (FPost W (blkRf at' sz tv ⟨1, who, v⟩)) := by
  have hc := ref_lock at' tv who
  have HC := Lib.hid hc
  have E : blkRf at' sz tv ⟨1, who, v⟩ = loF at' tv who := rfl
  rw [E]
  obtain ⟨r, hr⟩ : ∃ r, loF at' tv who = r := ⟨_, rfl⟩
  rw [hr] at HC ⊢
  have hb := (Below.refl W.heap.size W).alloc (Nat.le_refl _) (.cells #[.int .u8 1, .int .i64 who, .int .u64 v] 55)
  have HB := Lib.hid hb
  clear hb hc hr E hv
  go_enter Try.func27, Try.ntmps27
  go_wp2_with (go_at_call 63; refine (HC.out _).mono ?_; rintro e w1 ⟨A, c, rfl, hn, hb⟩; have HN := Lib.hid hn; have HB1 := Lib.hid hb; clear hn hb)
  go_ret2
  exact ⟨A, c, rfl, nrow_base HN.out HB.out.size, HB.out.trans (HB1.out.mono HB.out.size)⟩
set_option maxHeartbeats 8000000 in
theorem rblk_2 (at' sz tv who v : Int) (hv : W64 v) (W : World) : Calls Try.prog 27 #[.int .i64 at', .int .i64 sz, .int .i64 tv, .agg #[.int .u8 2, .int .i64 who, .int .u64 v]] W (FPost W (blkRf at' sz tv ⟨2, who, v⟩)) := by
  have hc := ref_unlock at' tv who
  have HC := Lib.hid hc
  have E : blkRf at' sz tv ⟨2, who, v⟩ = unF at' tv who := rfl
  rw [E]
  obtain ⟨r, hr⟩ : ∃ r, unF at' tv who = r := ⟨_, rfl⟩
  rw [hr] at HC ⊢
  have hb := (Below.refl W.heap.size W).alloc (Nat.le_refl _) (.cells #[.int .u8 2, .int .i64 who, .int .u64 v] 55)
  have HB := Lib.hid hb
  clear hb hc hr E hv
  go_enter Try.func27, Try.ntmps27
  go_wp2_with (go_at_call 64; refine (HC.out _).mono ?_; rintro e w1 ⟨A, c, rfl, hn, hb⟩; have HN := Lib.hid hn; have HB1 := Lib.hid hb; clear hn hb)
  go_ret2
  exact ⟨A, c, rfl, nrow_base HN.out HB.out.size, HB.out.trans (HB1.out.mono HB.out.size)⟩
set_option maxHeartbeats 8000000 in
theorem rblk_3 (at' sz tv who v : Int) (hv : W64 v) (W : World) : Calls Try.prog 27 #[.int .i64 at', .int .i64 sz, .int .i64 tv, .agg #[.int .u8 3, .int .i64 who, .int .u64 v]] W (FPost W (blkRf at' sz tv ⟨3, who, v⟩)) := by
  have hc := ref_down at' tv
  have HC := Lib.hid hc
  have E : blkRf at' sz tv ⟨3, who, v⟩ = dnF at' tv := rfl
  rw [E]
  obtain ⟨r, hr⟩ : ∃ r, dnF at' tv = r := ⟨_, rfl⟩
  rw [hr] at HC ⊢
  have hb := (Below.refl W.heap.size W).alloc (Nat.le_refl _) (.cells #[.int .u8 3, .int .i64 who, .int .u64 v] 55)
  have HB := Lib.hid hb
  clear hb hc hr E hv
  go_enter Try.func27, Try.ntmps27
  go_wp2_with (go_at_call 65; refine (HC.out _).mono ?_; rintro e w1 ⟨A, c, rfl, hn, hb⟩; have HN := Lib.hid hn; have HB1 := Lib.hid hb; clear hn hb)
  go_ret2
  exact ⟨A, c, rfl, nrow_base HN.out HB.out.size, HB.out.trans (HB1.out.mono HB.out.size)⟩
set_option maxHeartbeats 8000000 in
theorem rblk_4 (at' sz tv who v : Int) (hv : W64 v) (W : World) : Calls Try.prog 27 #[.int .i64 at', .int .i64 sz, .int .i64 tv, .agg #[.int .u8 4, .int .i64 who, .int .u64 v]] W (FPost W (blkRf at' sz tv ⟨4, who, v⟩)) := by
  have hc := ref_up at' tv
  have HC := Lib.hid hc
  have E : blkRf at' sz tv ⟨4, who, v⟩ = upF at' tv := rfl
  rw [E]
  obtain ⟨r, hr⟩ : ∃ r, upF at' tv = r := ⟨_, rfl⟩
  rw [hr] at HC ⊢
  have hb := (Below.refl W.heap.size W).alloc (Nat.le_refl _) (.cells #[.int .u8 4, .int .i64 who, .int .u64 v] 55)
  have HB := Lib.hid hb
  clear hb hc hr E hv
  go_enter Try.func27, Try.ntmps27
  go_wp2_with (go_at_call 66; refine (HC.out _).mono ?_; rintro e w1 ⟨A, c, rfl, hn, hb⟩; have HN := Lib.hid hn; have HB1 := Lib.hid hb; clear hn hb)
  go_ret2
  exact ⟨A, c, rfl, nrow_base HN.out HB.out.size, HB.out.trans (HB1.out.mono HB.out.size)⟩
set_option maxHeartbeats 8000000 in
theorem rblk_5 (at' sz tv who v : Int) (hv : W64 v) (W : World) : Calls Try.prog 27 #[.int .i64 at', .int .i64 sz, .int .i64 tv, .agg #[.int .u8 5, .int .i64 who, .int .u64 v]] W (FPost W (blkRf at' sz tv ⟨5, who, v⟩)) := by
  have hc := ref_enter at' tv sz v hv
  have HC := Lib.hid (fun w => by have h := hc w; rw [← enter_eq] at h; exact h)
  have E : blkRf at' sz tv ⟨5, who, v⟩ = enF at' tv sz v := rfl
  rw [E]
  obtain ⟨r, hr⟩ : ∃ r, enF at' tv sz v = r := ⟨_, rfl⟩
  rw [hr] at HC ⊢
  have hb := (Below.refl W.heap.size W).alloc (Nat.le_refl _) (.cells #[.int .u8 5, .int .i64 who, .int .u64 v] 55)
  have HB := Lib.hid hb
  clear hb hc hr E hv
  go_enter Try.func27, Try.ntmps27
  go_wp2_with (go_at_call 67; refine (HC.out _).mono ?_; rintro e w1 ⟨A, c, rfl, hn, hb⟩; have HN := Lib.hid hn; have HB1 := Lib.hid hb; clear hn hb)
  go_ret2
  exact ⟨A, c, rfl, nrow_base HN.out HB.out.size, HB.out.trans (HB1.out.mono HB.out.size)⟩
set_option maxHeartbeats 8000000 in
theorem rblk_6 (at' sz tv who v : Int) (hv : W64 v) (W : World) : Calls Try.prog 27 #[.int .i64 at', .int .i64 sz, .int .i64 tv, .agg #[.int .u8 6, .int .i64 who, .int .u64 v]] W (FPost W (blkRf at' sz tv ⟨6, who, v⟩)) := by
  have hc := ref_take at' tv sz
  have HC := Lib.hid (fun w => by have h := hc w; rw [← take_eq] at h; exact h)
  have E : blkRf at' sz tv ⟨6, who, v⟩ = taF at' tv sz := rfl
  rw [E]
  obtain ⟨r, hr⟩ : ∃ r, taF at' tv sz = r := ⟨_, rfl⟩
  rw [hr] at HC ⊢
  have hb := (Below.refl W.heap.size W).alloc (Nat.le_refl _) (.cells #[.int .u8 6, .int .i64 who, .int .u64 v] 55)
  have HB := Lib.hid hb
  clear hb hc hr E hv
  go_enter Try.func27, Try.ntmps27
  go_wp2_with (go_at_call 68; refine (HC.out _).mono ?_; rintro e w1 ⟨A, c, rfl, hn, hb⟩; have HN := Lib.hid hn; have HB1 := Lib.hid hb; clear hn hb)
  go_ret2
  exact ⟨A, c, rfl, nrow_base HN.out HB.out.size, HB.out.trans (HB1.out.mono HB.out.size)⟩
set_option maxHeartbeats 8000000 in
theorem rblk_7 (at' sz tv who v : Int) (hv : W64 v) (W : World) : Calls Try.prog 27 #[.int .i64 at', .int .i64 sz, .int .i64 tv, .agg #[.int .u8 7, .int .i64 who, .int .u64 v]] W (FPost W (blkRf at' sz tv ⟨7, who, v⟩)) := by
  have hc := ref_arrive at' tv sz
  have HC := Lib.hid (fun w => by have h := hc w; rw [← arrive_eq] at h; exact h)
  have E : blkRf at' sz tv ⟨7, who, v⟩ = arF at' tv sz := rfl
  rw [E]
  obtain ⟨r, hr⟩ : ∃ r, arF at' tv sz = r := ⟨_, rfl⟩
  rw [hr] at HC ⊢
  have hb := (Below.refl W.heap.size W).alloc (Nat.le_refl _) (.cells #[.int .u8 7, .int .i64 who, .int .u64 v] 55)
  have HB := Lib.hid hb
  clear hb hc hr E hv
  go_enter Try.func27, Try.ntmps27
  go_wp2_with (go_at_call 69; refine (HC.out _).mono ?_; rintro e w1 ⟨A, c, rfl, hn, hb⟩; have HN := Lib.hid hn; have HB1 := Lib.hid hb; clear hn hb)
  go_ret2
  exact ⟨A, c, rfl, nrow_base HN.out HB.out.size, HB.out.trans (HB1.out.mono HB.out.size)⟩
set_option maxRecDepth 20000 in
set_option maxHeartbeats 16000000 in
theorem rblk_8 (at' sz tv who v : Int) (hv : W64 v) (hat : 0 ≤ at' ∧ at' ≤ 100) (W : World) : Calls Try.prog 27 #[.int .i64 at', .int .i64 sz, .int .i64 tv, .agg #[.int .u8 8, .int .i64 who, .int .u64 v]] W (FPost W (blkRf at' sz tv ⟨8, who, v⟩)) := by
  have e2 : wrap64 (at' + 2) = at' + 2 := by unfold wrap64; omega
  obtain ⟨a2, ha2⟩ : ∃ a, at' + 2 = a := ⟨_, rfl⟩
  have HC := Lib.hid (fun w => by have h := ref_leave a2 tv 0 w; rw [← leave_eq] at h; exact h)
  have HPOS := Lib.hid (fun h => leF_pos (a := a2) (tv := tv) (lc := 0) h)
  have HLEN := Lib.hid (show (leF a2 tv 0).2.length ≤ 26 from blkC_len a2 tv sz ⟨8, 0, 0⟩)
  obtain ⟨r, hr⟩ : ∃ r, leF a2 tv 0 = r := ⟨_, rfl⟩
  have E : blkRf at' sz tv ⟨8, who, v⟩ = if at' > 62 then (4, []) else if r.1 = 0 then (0, [pushI' v, setI] ++ r.2) else (r.1, []) := by rw [blkRf_8 rfl, ha2, hr]
  rw [E]
  rw [hr] at HC HPOS HLEN
  have e2' : wrap64 (at' + 2) = a2 := by rw [e2, ha2]
  have hb := (Below.refl W.heap.size W).alloc (Nat.le_refl _) (.cells #[.int .u8 8, .int .i64 who, .int .u64 v] 55)
  have HB := Lib.hid hb
  have HX := Lib.hid (heap_alloc_new W (.cells #[.int .u8 8, .int .i64 who, .int .u64 v] 55))
  have OKS := Lib.hid (show ∀ x ∈ [pushI' v, setI], x.ok from List.forall_mem_cons.2 ⟨ok_mk (by decide) ⟨by decide, by decide⟩ hv, List.forall_mem_cons.2 ⟨by decide, fun x hx => (List.not_mem_nil hx).elim⟩⟩)
  clear e2 ha2 hr E hb hv hat
  obtain ⟨P, hP⟩ : ∃ P, (if at' > 62 then ((4 : Int), ([] : List Ins3)) else if r.1 = 0 then (0, [pushI' v, setI] ++ r.2) else (r.1, [])) = P := ⟨_, rfl⟩
  rw [hP]
  have HP := Lib.hid hP
  clear hP
  obtain ⟨re, rl⟩ := r
  go_enter Try.func27, Try.ntmps27
  go_upto_region 1 with fail
  generalize World.alloc _ _ = w0 at HB HX ⊢
  obtain ⟨b7, hb7⟩ : ∃ b, W.heap.size = b := ⟨_, rfl⟩
  rw [hb7] at HX
  try rw [hb7]
  have HW := Lib.hid hb7
  clear hb7
  have y0 : w0.cell? ⟨b7, 0, none⟩ = some (.int .u8 8) := hp_cell HX.out 0
  have y2 : w0.cell? ⟨b7, 2, none⟩ = some (.int .u64 v) := hp_cell HX.out 2
  have yl := hp_lt HX.out
  go_upto_region 16 with fail
  have z2 : w0.drew.cell? ⟨b7, 2, none⟩ = some (.int .u64 v) := hp_cell (hp_dw HX.out) 2
  have HBd := Lib.hid (HB.out.drew)
  clear y0 y2
  go_region_with (go_at_call 29; refine (refO_any _ _ _).mono ?_; rintro e w1 ⟨rfl, hb⟩; have HX1 := Lib.hid (hp_below (hp_dw HX.out) hb); have HB1 := Lib.hid (HBd.out.trans (hb.mono HBd.out.size)); have z3 : w1.cell? ⟨b7, 2, none⟩ = some (.int .u64 v) := hp_cell HX1.out 2; have zl := hp_lt HX1.out; clear hb z2 yl)
  all_goals
    clear z3 zl HX1 HX HBd HB
    go_upto_region 17 with fail
    have R1 := Lib.hid (show RI W (w1.alloc (.cells (insC [pushI' v, setI]).toArray 64)) (some ⟨w1.heap.size, 0, none⟩) 2 [pushI' v, setI] from ⟨nrow_made w1 W.heap.size [pushI' v, setI] OKS.out HB1.out.size (by simp), HB1.out.alloc HB1.out.size _⟩)
    change Code.wp _ _ _ _ (w1.alloc (.cells (insC [pushI' v, setI]).toArray 64))
    generalize World.alloc _ _ = wA at R1 ⊢
    obtain ⟨g0, hg0⟩ : ∃ g, w1.heap.size = g := ⟨_, rfl⟩
    rw [hg0] at R1 ⊢
    clear hg0 HB1
    by_cases h62 : at' > 62
    · have t1 : decide (at' > 62) = true := decide_eq_true h62
      have t2 : decide (62 < at') = true := t1
      have EE := Lib.hid (show P = (4, []) by rw [← HP.out, if_pos h62])
      clear h62 HP
      go_wp2_with fail
      go_ret2
      rw [EE.out]
      exact ⟨none, 0, rfl, nrow_nil _ _, R1.out.bl⟩
    · have t1 : decide (at' > 62) = false := decide_eq_false h62
      have t2 : decide (62 < at') = false := t1
      by_cases h0 : re = 0
      · have EE := Lib.hid (show P = (0, [pushI' v, setI] ++ rl) by rw [← HP.out, if_neg h62, if_pos h0])
        subst h0
        have HPO := Lib.hid (HPOS.out rfl)
        obtain ⟨p, hp⟩ : ∃ p, [pushI' v, setI] ++ rl = p := ⟨_, rfl⟩
        rw [hp] at EE
        have HPP := Lib.hid hp
        clear h62 HP hp
        go_upto_region 20 with (go_at_call 70; refine (HC.out _).mono ?_; rintro e w3 ⟨A, c, rfl, hn, hb⟩; have N3 := Lib.hid hn; have R3 := Lib.hid (R1.out.below hb); clear hn hb)
        obtain ⟨g, rfl⟩ := nrow_g N3.out HPO.out
        have V3 := Lib.hid (inss_cells (nrow_inss N3.out (by have := HLEN.out; omega)).1)
        have OK3 := Lib.hid N3.out.2
        go_wp2_with (at_builtin; refine append_inss rfl (.tmp 90) (.tmp 91) rfl W.heap.size (.slice (some ⟨g0, 0, none⟩) 2 2) [pushI' v, setI] rfl R3.out.row.1 R3.out.row.2 ⟨g, 0, none⟩ rl.length c rl rfl rfl V3.out OK3.out (by have := HLEN.out; simp; omega) R3.out.bl.size p HPP.out ?_; intro A4 c4 w4 hr hg; have R4 := Lib.hid (R3.out.more hr hg); clear hr hg)
        go_ret2
        rw [EE.out]
        exact ⟨A4, c4, rfl, R4.out.row, R4.out.bl⟩
      · have EE := Lib.hid (show P = (re, []) by rw [← HP.out, if_neg h62, if_neg h0])
        have z1 : (re == 0) = false := by simpa using h0
        clear h62 HP h0
        go_wp2_with (go_at_call 70; refine (HC.out _).mono ?_; rintro e w3 ⟨A, c, rfl, hn, hb⟩; have R3 := Lib.hid (R1.out.below hb); clear hn hb)
        go_ret2
        rw [EE.out]
        exact ⟨none, 0, rfl, nrow_nil _ _, R3.out.bl⟩
theorem rblk (at' sz tv : Int) (c : Cl) (hk : 1 ≤ c.k ∧ c.k ≤ 8) (hv : W64 c.v) (hat : 0 ≤ at' ∧ at' ≤ 100) (W : World) : Calls Try.prog 27 #[.int .i64 at', .int .i64 sz, .int .i64 tv, .agg #[.int .u8 c.k, .int .i64 c.who, .int .u64 c.v]] W (FPost W (blkRf at' sz tv c)) := by
  obtain ⟨k, who, v⟩ := c
  dsimp only at hk hv ⊢
  rcases (show k = 1 ∨ k = 2 ∨ k = 3 ∨ k = 4 ∨ k = 5 ∨ k = 6 ∨ k = 7 ∨ k = 8 by omega) with rfl | rfl | rfl | rfl | rfl | rfl | rfl | rfl
  · exact rblk_1 at' sz tv who v hv W
  · exact rblk_2 at' sz tv who v hv W
  · exact rblk_3 at' sz tv who v hv W
  · exact rblk_4 at' sz tv who v hv W
  · exact rblk_5 at' sz tv who v hv W
  · exact rblk_6 at' sz tv who v hv W
  · exact rblk_7 at' sz tv who v hv W
  · exact rblk_8 at' sz tv who v hv hat W
end Go.Proofs.Ytmmfadakhnagpaa
