
/-
  calls: the builder: ins, the closures, call.
-/
import Derived.Test.YtmmfadakhnagpaaCl1
import Derived.Deep.CutBlock
import Derived.Handy
namespace Go.Proofs.Ytmmfadakhnagpaa
open Go.RowKit Go.ChangeShapes Go.WideShapes
set_option linter.unusedSimpArgs false
set_option linter.unusedVariables false

theorem blkR_len' {n : Nat} {l : List Ins3} {at' : Int} (h : l.length ≤ n) : (blkR l at').2.length ≤ n := by
  unfold blkR
  split
  · exact Nat.zero_le _
  · exact h
theorem blkA_len' {n : Nat} {l : List Ins3} {at' : Int} (h : l.length ≤ n) : (blkA l at').2.length ≤ n := by
  unfold blkA
  split
  · exact Nat.zero_le _
  · rw [List.length_map]; exact h
theorem blkC_len (at' tv sz : Int) (c : Cl) : (blkC at' tv sz c).2.length ≤ 26 := by
  have h1 : (loF at' tv c.who).2.length ≤ 26 := by unfold loF; cases mayL at' tv c.who <;> first | exact Nat.zero_le _ | exact blkA_len' (by show _ ≤ _; simp [lockR])
  have h2 : (unF at' tv c.who).2.length ≤ 26 := by unfold unF; cases mayL at' tv c.who <;> first | exact Nat.zero_le _ | exact blkA_len' (by show _ ≤ _; simp [unlockR])
  have h3 : (dnF at' tv).2.length ≤ 26 := by unfold dnF; cases mayL at' tv 0 <;> first | exact Nat.zero_le _ | exact blkA_len' (by show _ ≤ _; simp [downR])
  have h4 : (upF at' tv).2.length ≤ 26 := by unfold upF; cases mayL at' tv 0 <;> first | exact Nat.zero_le _ | exact blkA_len' (by show _ ≤ _; simp [upR])
  have h5 : (enF at' tv sz c.v).2.length ≤ 26 := by unfold enF; cases quB at' tv sz <;> cases rightB c.v <;> first | exact Nat.zero_le _ | exact blkR_len' (by show _ ≤ _; simp [enterL])
  have h6 : (taF at' tv sz).2.length ≤ 26 := by unfold taF; cases quB at' tv sz <;> first | exact Nat.zero_le _ | exact blkR_len' (by show _ ≤ _; simp [takeL])
  have h7 : (arF at' tv sz).2.length ≤ 26 := by unfold arF; cases baB at' tv <;> cases wthB sz 1 4 <;> first | exact Nat.zero_le _ | exact blkR_len' (by show _ ≤ _; simp [arriveL])
  have h8 : (leF at' tv 0).2.length ≤ 26 := by unfold leF; cases baB at' tv <;> cases wthB 0 0 3 <;> first | exact Nat.zero_le _ | exact blkR_len' (by show _ ≤ _; simp [leaveL])
  unfold blkC
  cases (c.k == 1) <;> cases (c.k == 2) <;> cases (c.k == 3) <;> cases (c.k == 4) <;> cases (c.k == 5) <;> cases (c.k == 6) <;> cases (c.k == 7) <;> first | exact h1 | exact h2 | exact h3 | exact h4 | exact h5 | exact h6 | exact h7 | exact h8
/-- A builder's state stays small. -/
def StOk (st : List Ins3 × Int) : Prop := st.1.length ≤ 90 ∧ (st.2 = 0 → st.1.length ≤ 64)
theorem StOk.ad {st : List Ins3 × Int} (h : StOk st) (r : Int × List Ins3) (hr : r.2.length ≤ 26) : StOk (adF st r) := by
  unfold adF
  by_cases h0 : st.2 = 0
  · rw [if_pos h0]
    have := h.2 h0
    refine ⟨by dsimp only; rw [List.length_append]; omega, fun h2 => ?_⟩
    dsimp only at h2 ⊢
    by_cases h3 : r.1 = 0 ∧ (st.1 ++ r.2).length > 64
    · rw [if_pos h3] at h2; exact absurd h2 (by decide)
    · rw [if_neg h3] at h2
      have h4 : ¬ (st.1 ++ r.2).length > 64 := fun h => h3 ⟨h2, h⟩
      omega
  · rw [if_neg h0]; exact h
set_option maxHeartbeats 4000000 in
theorem ins1_any (n : Int) (b g c : Nat) (m : List Ins3) (w : World) (hb : w.heap[b]? = some (.cells #[.slice (some ⟨g, 0, none⟩) m.length c] 25 (0, 0))) (hi : InssAt w (some ⟨g, 0, none⟩) m) : Calls Try.prog 61 #[.int .i64 n, .pointer (some ⟨b, 0, none⟩)] w (MPost w (0, m)) := by
  have x0 : w.cell? ⟨b, 0, none⟩ = some (.slice (some ⟨g, 0, none⟩) m.length c) := hp_cell hb 0
  have xl := hp_lt hb
  have HI := Lib.hid hi
  clear hb hi
  go_enter Try.func61, Try.ntmps61
  go_wp2_with fail
  go_ret2
  exact ⟨_, _, rfl, .inr ⟨g, rfl, HI.out⟩, Below.refl _ _⟩
theorem en_ins1 (args : Array Value) (w : World) : (callFunc 61 args).run Try.prog w = .ok (.enter 61 args) w := by kernel_rfl
set_option maxRecDepth 100000 in
set_option maxHeartbeats 4000000 in
theorem bIns (W w : World) (gb : Nat) (st : List Ins3 × Int) (H : Bd W w gb st) (hst : StOk st) (m : List Ins3) (hm : m.length ≤ 26) (g c : Nat) (hi : InssAt w (some ⟨g, 0, none⟩) m) :
    Calls Try.prog 23 #[.pointer (some ⟨gb, 0, none⟩), .slice (some ⟨g, 0, none⟩) m.length c] w fun e w' => e = .returned (.tuple #[]) ∧ Bd W w' gb (adF st (0, m)) ∧ KB w w' := by
  have hb := (Below.refl w.heap.size w).alloc (Nat.le_refl _) (.cells #[.slice (some ⟨g, 0, none⟩) m.length c] 25)
  have HA := Lib.hid (bAdd W (w.alloc (.cells #[.slice (some ⟨g, 0, none⟩) m.length c] 25)) gb st (H.below hb) (by have := hst.1; omega) (0, m) (by dsimp only; omega) 61 #[.pointer (some ⟨w.heap.size, 0, none⟩)] en_ins1 (fun _ => ins1_any _ w.heap.size g c m _ (heap_alloc_new w _) (inss_below hi hb)))
  have HK := Lib.hid ((KB.refl w).below hb)
  clear H hst hm hi hb
  go_enter Try.func23, Try.ntmps23
  go_wp2_with (go_at_call 44; refine HA.out.mono ?_; rintro e w1 ⟨rfl, hB, hK⟩; have HB := Lib.hid hB; have HK1 := Lib.hid hK; clear hB hK)
  go_end0
  exact ⟨rfl, HB.out, HK.out.trans HK1.out⟩
set_option maxHeartbeats 4000000 in
theorem cl_1 (at' tv sz k who v : Int) (hv : W64 v) (b5 b6 b7 : Nat) (w : World) (h5 : w.heap[b5]? = some (.cells #[.int .i64 tv] 3 (0, 0))) (h7 : w.heap[b7]? = some (.cells #[.int .u8 k, .int .i64 who, .int .u64 v] 55 (0, 0))) (hl : (loF at' tv who).2.length ≤ 26) : Calls Try.prog 45 #[.int .i64 at', .pointer (some ⟨b5, 0, none⟩), .pointer (some ⟨b7, 0, none⟩)] w (MPost w (loF at' tv who)) := by
  have HC := Lib.hid (l_lock at' tv who)
  obtain ⟨r, hr⟩ : ∃ r, loF at' tv who = r := ⟨_, rfl⟩
  rw [hr] at HC hl ⊢
  have HL := Lib.hid hl
  have x5 : w.cell? ⟨b5, 0, none⟩ = some (.int .i64 tv) := hp_cell h5 0
  have xl5 := hp_lt h5
  have y0 : w.cell? ⟨b7, 0, none⟩ = some (.int .u8 k) := hp_cell h7 0
  have y1 : w.cell? ⟨b7, 1, none⟩ = some (.int .i64 who) := hp_cell h7 1
  have y2 : w.cell? ⟨b7, 2, none⟩ = some (.int .u64 v) := hp_cell h7 2
  have yl := hp_lt h7
  clear h5 h7 hl hr hv
  go_enter Try.func45, Try.ntmps45
  go_wp2_with (go_at_call 46; refine (HC.out _).mono ?_; rintro e w1 ⟨A, c, rfl, hn, hb⟩; have HN := Lib.hid hn; have HB := Lib.hid hb; clear hn hb)
  go_ret2
  exact MPost.of ⟨A, c, rfl, HN.out, HB.out⟩ (by have := HL.out; omega)
theorem en_cl1 (args : Array Value) (w : World) : (callFunc 45 args).run Try.prog w = .ok (.enter 45 args) w := by kernel_rfl
set_option maxHeartbeats 4000000 in
theorem cl_2 (at' tv sz k who v : Int) (hv : W64 v) (b5 b6 b7 : Nat) (w : World) (h5 : w.heap[b5]? = some (.cells #[.int .i64 tv] 3 (0, 0))) (h7 : w.heap[b7]? = some (.cells #[.int .u8 k, .int .i64 who, .int .u64 v] 55 (0, 0))) (hl : (unF at' tv who).2.length ≤ 26) : Calls Try.prog 47 #[.int .i64 at', .pointer (some ⟨b5, 0, none⟩), .pointer (some ⟨b7, 0, none⟩)] w (MPost w (unF at' tv who)) := by
  have HC := Lib.hid (l_unlock at' tv who)
  obtain ⟨r, hr⟩ : ∃ r, unF at' tv who = r := ⟨_, rfl⟩
  rw [hr] at HC hl ⊢
  have HL := Lib.hid hl
  have x5 : w.cell? ⟨b5, 0, none⟩ = some (.int .i64 tv) := hp_cell h5 0
  have xl5 := hp_lt h5
  have y0 : w.cell? ⟨b7, 0, none⟩ = some (.int .u8 k) := hp_cell h7 0
  have y1 : w.cell? ⟨b7, 1, none⟩ = some (.int .i64 who) := hp_cell h7 1
  have y2 : w.cell? ⟨b7, 2, none⟩ = some (.int .u64 v) := hp_cell h7 2
  have yl := hp_lt h7
  clear h5 h7 hl hr hv
  go_enter Try.func47, Try.ntmps47
  go_wp2_with (go_at_call 48; refine (HC.out _).mono ?_; rintro e w1 ⟨A, c, rfl, hn, hb⟩; have HN := Lib.hid hn; have HB := Lib.hid hb; clear hn hb)
  go_ret2
  exact MPost.of ⟨A, c, rfl, HN.out, HB.out⟩ (by have := HL.out; omega)
theorem en_cl2 (args : Array Value) (w : World) : (callFunc 47 args).run Try.prog w = .ok (.enter 47 args) w := by kernel_rfl
set_option maxHeartbeats 4000000 in
theorem cl_3 (at' tv sz k who v : Int) (hv : W64 v) (b5 b6 b7 : Nat) (w : World) (h5 : w.heap[b5]? = some (.cells #[.int .i64 tv] 3 (0, 0))) (hl : (dnF at' tv).2.length ≤ 26) : Calls Try.prog 49 #[.int .i64 at', .pointer (some ⟨b5, 0, none⟩)] w (MPost w (dnF at' tv)) := by
  have HC := Lib.hid (l_down at' tv)
  obtain ⟨r, hr⟩ : ∃ r, dnF at' tv = r := ⟨_, rfl⟩
  rw [hr] at HC hl ⊢
  have HL := Lib.hid hl
  have x5 : w.cell? ⟨b5, 0, none⟩ = some (.int .i64 tv) := hp_cell h5 0
  have xl5 := hp_lt h5
  clear h5 hl hr hv
  go_enter Try.func49, Try.ntmps49
  go_wp2_with (go_at_call 50; refine (HC.out _).mono ?_; rintro e w1 ⟨A, c, rfl, hn, hb⟩; have HN := Lib.hid hn; have HB := Lib.hid hb; clear hn hb)
  go_ret2
  exact MPost.of ⟨A, c, rfl, HN.out, HB.out⟩ (by have := HL.out; omega)
theorem en_cl3 (args : Array Value) (w : World) : (callFunc 49 args).run Try.prog w = .ok (.enter 49 args) w := by kernel_rfl
set_option maxHeartbeats 4000000 in
theorem cl_4 (at' tv sz k who v : Int) (hv : W64 v) (b5 b6 b7 : Nat) (w : World) (h5 : w.heap[b5]? = some (.cells #[.int .i64 tv] 3 (0, 0))) (hl : (upF at' tv).2.length ≤ 26) : Calls Try.prog 51 #[.int .i64 at', .pointer (some ⟨b5, 0, none⟩)] w (MPost w (upF at' tv)) := by
  have HC := Lib.hid (l_up at' tv)
  obtain ⟨r, hr⟩ : ∃ r, upF at' tv = r := ⟨_, rfl⟩
  rw [hr] at HC hl ⊢
  have HL := Lib.hid hl
  have x5 : w.cell? ⟨b5, 0, none⟩ = some (.int .i64 tv) := hp_cell h5 0
  have xl5 := hp_lt h5
  clear h5 hl hr hv
  go_enter Try.func51, Try.ntmps51
  go_wp2_with (go_at_call 52; refine (HC.out _).mono ?_; rintro e w1 ⟨A, c, rfl, hn, hb⟩; have HN := Lib.hid hn; have HB := Lib.hid hb; clear hn hb)
  go_ret2
  exact MPost.of ⟨A, c, rfl, HN.out, HB.out⟩ (by have := HL.out; omega)
theorem en_cl4 (args : Array Value) (w : World) : (callFunc 51 args).run Try.prog w = .ok (.enter 51 args) w := by kernel_rfl
set_option maxHeartbeats 4000000 in
theorem cl_5 (at' tv sz k who v : Int) (hv : W64 v) (b5 b6 b7 : Nat) (w : World) (h5 : w.heap[b5]? = some (.cells #[.int .i64 tv] 3 (0, 0))) (h6 : w.heap[b6]? = some (.cells #[.int .i64 sz] 3 (0, 0))) (h7 : w.heap[b7]? = some (.cells #[.int .u8 k, .int .i64 who, .int .u64 v] 55 (0, 0))) (hl : (enF at' tv sz v).2.length ≤ 26) : Calls Try.prog 53 #[.int .i64 at', .pointer (some ⟨b5, 0, none⟩), .pointer (some ⟨b6, 0, none⟩), .pointer (some ⟨b7, 0, none⟩)] w (MPost w (enF at' tv sz v)) := by
  have HC := Lib.hid (enter_any at' tv sz v hv)
  obtain ⟨r, hr⟩ : ∃ r, enF at' tv sz v = r := ⟨_, rfl⟩
  rw [hr] at HC hl ⊢
  have HL := Lib.hid hl
  have x5 : w.cell? ⟨b5, 0, none⟩ = some (.int .i64 tv) := hp_cell h5 0
  have xl5 := hp_lt h5
  have x6 : w.cell? ⟨b6, 0, none⟩ = some (.int .i64 sz) := hp_cell h6 0
  have xl6 := hp_lt h6
  have y0 : w.cell? ⟨b7, 0, none⟩ = some (.int .u8 k) := hp_cell h7 0
  have y1 : w.cell? ⟨b7, 1, none⟩ = some (.int .i64 who) := hp_cell h7 1
  have y2 : w.cell? ⟨b7, 2, none⟩ = some (.int .u64 v) := hp_cell h7 2
  have yl := hp_lt h7
  clear h5 h6 h7 hl hr hv
  go_enter Try.func53, Try.ntmps53
  go_wp2_with (go_at_call 54; refine (HC.out _).mono ?_; rintro e w1 ⟨A, c, rfl, hn, hb⟩; have HN := Lib.hid hn; have HB := Lib.hid hb; clear hn hb)
  go_ret2
  exact MPost.of ⟨A, c, rfl, HN.out, HB.out⟩ (by have := HL.out; omega)
theorem en_cl5 (args : Array Value) (w : World) : (callFunc 53 args).run Try.prog w = .ok (.enter 53 args) w := by kernel_rfl
set_option maxHeartbeats 4000000 in
theorem cl_6 (at' tv sz k who v : Int) (hv : W64 v) (b5 b6 b7 : Nat) (w : World) (h5 : w.heap[b5]? = some (.cells #[.int .i64 tv] 3 (0, 0))) (h6 : w.heap[b6]? = some (.cells #[.int .i64 sz] 3 (0, 0))) (hl : (taF at' tv sz).2.length ≤ 26) : Calls Try.prog 55 #[.int .i64 at', .pointer (some ⟨b5, 0, none⟩), .pointer (some ⟨b6, 0, none⟩)] w (MPost w (taF at' tv sz)) := by
  have HC := Lib.hid (take_any at' tv sz)
  obtain ⟨r, hr⟩ : ∃ r, taF at' tv sz = r := ⟨_, rfl⟩
  rw [hr] at HC hl ⊢
  have HL := Lib.hid hl
  have x5 : w.cell? ⟨b5, 0, none⟩ = some (.int .i64 tv) := hp_cell h5 0
  have xl5 := hp_lt h5
  have x6 : w.cell? ⟨b6, 0, none⟩ = some (.int .i64 sz) := hp_cell h6 0
  have xl6 := hp_lt h6
  clear h5 h6 hl hr hv
  go_enter Try.func55, Try.ntmps55
  go_wp2_with (go_at_call 56; refine (HC.out _).mono ?_; rintro e w1 ⟨A, c, rfl, hn, hb⟩; have HN := Lib.hid hn; have HB := Lib.hid hb; clear hn hb)
  go_ret2
  exact MPost.of ⟨A, c, rfl, HN.out, HB.out⟩ (by have := HL.out; omega)
theorem en_cl6 (args : Array Value) (w : World) : (callFunc 55 args).run Try.prog w = .ok (.enter 55 args) w := by kernel_rfl
set_option maxHeartbeats 4000000 in
theorem cl_7 (at' tv sz k who v : Int) (hv : W64 v) (b5 b6 b7 : Nat) (w : World) (h5 : w.heap[b5]? = some (.cells #[.int .i64 tv] 3 (0, 0))) (h6 : w.heap[b6]? = some (.cells #[.int .i64 sz] 3 (0, 0))) (hl : (arF at' tv sz).2.length ≤ 26) : Calls Try.prog 57 #[.int .i64 at', .pointer (some ⟨b5, 0, none⟩), .pointer (some ⟨b6, 0, none⟩)] w (MPost w (arF at' tv sz)) := by
  have HC := Lib.hid (arrive_any at' tv sz)
  obtain ⟨r, hr⟩ : ∃ r, arF at' tv sz = r := ⟨_, rfl⟩
  rw [hr] at HC hl ⊢
  have HL := Lib.hid hl
  have x5 : w.cell? ⟨b5, 0, none⟩ = some (.int .i64 tv) := hp_cell h5 0
  have xl5 := hp_lt h5
  have x6 : w.cell? ⟨b6, 0, none⟩ = some (.int .i64 sz) := hp_cell h6 0
  have xl6 := hp_lt h6
  clear h5 h6 hl hr hv
  go_enter Try.func57, Try.ntmps57
  go_wp2_with (go_at_call 58; refine (HC.out _).mono ?_; rintro e w1 ⟨A, c, rfl, hn, hb⟩; have HN := Lib.hid hn; have HB := Lib.hid hb; clear hn hb)
  go_ret2
  exact MPost.of ⟨A, c, rfl, HN.out, HB.out⟩ (by have := HL.out; omega)
theorem en_cl7 (args : Array Value) (w : World) : (callFunc 57 args).run Try.prog w = .ok (.enter 57 args) w := by kernel_rfl
set_option maxHeartbeats 4000000 in
theorem cl_8 (at' tv sz k who v : Int) (hv : W64 v) (b5 b6 b7 : Nat) (w : World) (h5 : w.heap[b5]? = some (.cells #[.int .i64 tv] 3 (0, 0))) (hl : (leF at' tv 0).2.length ≤ 26) : Calls Try.prog 59 #[.int .i64 at', .pointer (some ⟨b5, 0, none⟩)] w (MPost w (leF at' tv 0)) := by
  have HC := Lib.hid (leave_any at' tv 0)
  obtain ⟨r, hr⟩ : ∃ r, leF at' tv 0 = r := ⟨_, rfl⟩
  rw [hr] at HC hl ⊢
  have HL := Lib.hid hl
  have x5 : w.cell? ⟨b5, 0, none⟩ = some (.int .i64 tv) := hp_cell h5 0
  have xl5 := hp_lt h5
  clear h5 hl hr hv
  go_enter Try.func59, Try.ntmps59
  go_wp2_with (go_at_call 60; refine (HC.out _).mono ?_; rintro e w1 ⟨A, c, rfl, hn, hb⟩; have HN := Lib.hid hn; have HB := Lib.hid hb; clear hn hb)
  go_ret2
  exact MPost.of ⟨A, c, rfl, HN.out, HB.out⟩ (by have := HL.out; omega)
theorem en_cl8 (args : Array Value) (w : World) : (callFunc 59 args).run Try.prog w = .ok (.enter 59 args) w := by kernel_rfl
end Go.Proofs.Ytmmfadakhnagpaa
