
/-
  rowlocklaw23.one.
-/
import Derived.Test.YtcjkpeojjonpiaaFl9
import Derived.Deep.CutBlock
import Derived.RegionTactic
import Derived.BigRegion
import Derived.Handy
namespace Go.Proofs.Ytcjkpeojjonpiaa
open Go.RowKit Go.ChangeShapes Go.WideShapes
set_option linter.unusedSimpArgs false
set_option linter.unusedVariables false

def oneL (r n v : Int) : List Ins3 := bif r == 0 then enterL 0 n 0 v 0 else bif r == 1 then takeL 0 n 0 0 0 else bif r == 2 then arriveL 0 n 0 0 0 else leaveL 0 0 2 0 0
def oneK (r : Int) : Int := bif r == 0 then 5 else bif r == 1 then 6 else bif r == 2 then 7 else 8
def oneV (r v : Int) : Int := bif r == 0 then v else bif r == 1 then 0 else bif r == 2 then 0 else v
def OnePost (W : World) (r n v : Int) (e : Ending) (w' : World) : Prop := ∃ A c, e = .returned (.tuple #[.slice A (oneL r n v).length c, .agg #[.int .u8 (oneK r), .int .i64 0, .int .u64 (oneV r v)], .int .i64 0]) ∧ NRow w' W.heap.size A c (oneL r n v) ∧ Below W.heap.size W w'
theorem enF_0 {n v : Int} (h : 1 ≤ n ∧ n ≤ 4) (hv : rightB v = true) : enF 0 0 n v = (0, enterL 0 n 0 v 0) := by
  unfold enF
  rw [hv, show quB 0 0 n = true by unfold quB wthB; simp; omega]
  rfl
theorem taF_0 {n : Int} (h : 1 ≤ n ∧ n ≤ 4) : taF 0 0 n = (0, takeL 0 n 0 0 0) := by
  unfold taF
  rw [show quB 0 0 n = true by unfold quB wthB; simp; omega]
  rfl
theorem arF_0 {n : Int} (h : 1 ≤ n ∧ n ≤ 4) : arF 0 0 n = (0, arriveL 0 n 0 0 0) := by
  unfold arF
  rw [show wthB n 1 4 = true by unfold wthB; simp; omega]
  rfl
theorem leF_2 : leF 0 0 2 = (0, leaveL 0 0 2 0 0) := by kernel_rfl
set_option maxRecDepth 100000 in
set_option maxHeartbeats 16000000 in
theorem fone_any (k n v : Int) (hn : 1 ≤ n ∧ n ≤ 4) (hv : W64 v) (hr : rightB v = true) (r : Int) (hk : k.tmod 4 = r) (h4 : r = 0 ∨ r = 1 ∨ r = 2 ∨ r = 3) (W : World) : Calls Try.prog 27 #[.int .u8 k, .int .i64 n, .int .u64 v] W (OnePost W r n v) := by
  have HC0 := Lib.hid (fun w : World => by have := enter_any 0 0 n v hv w; rw [enF_0 hn hr] at this; exact this)
  have HC1 := Lib.hid (fun w : World => by have := take_any 0 0 n w; rw [taF_0 hn] at this; exact this)
  have HC2 := Lib.hid (fun w : World => by have := arrive_any 0 0 n w; rw [arF_0 hn] at this; exact this)
  have HC3 := Lib.hid (fun w : World => by have := leave_any 0 0 2 w; rw [leF_2] at this; exact this)
  obtain ⟨l0, e0⟩ : ∃ l, enterL 0 n 0 v 0 = l := ⟨_, rfl⟩
  obtain ⟨l1, e1⟩ : ∃ l, takeL 0 n 0 0 0 = l := ⟨_, rfl⟩
  obtain ⟨l2, e2⟩ : ∃ l, arriveL 0 n 0 0 0 = l := ⟨_, rfl⟩
  obtain ⟨l3, e3⟩ : ∃ l, leaveL 0 0 2 0 0 = l := ⟨_, rfl⟩
  rw [e0] at HC0
  rw [e1] at HC1
  rw [e2] at HC2
  rw [e3] at HC3
  unfold OnePost oneL oneK oneV
  rw [e0, e1, e2, e3]
  clear e0 e1 e2 e3 hn hr hv
  go_enter Try.func27, Try.ntmps27
  go_upto_region 2 with fail
  have B2 := Lib.hid (((Below.refl W.heap.size W).alloc (Nat.le_refl _) (.cells #[.int .u8 0, .int .i64 0, .int .u64 0] 27)).alloc (by simp) (.cells #[.int .u8 0, .int .i64 0, .int .u64 0] 27))
  have X7 := Lib.hid (hp_alloc (heap_alloc_new W (.cells #[.int .u8 0, .int .i64 0, .int .u64 0] 27)) (.cells #[.int .u8 0, .int .i64 0, .int .u64 0] 27))
  have X9 := Lib.hid (show ((W.alloc (.cells #[.int .u8 0, .int .i64 0, .int .u64 0] 27)).alloc (.cells #[.int .u8 0, .int .i64 0, .int .u64 0] 27)).heap[W.heap.size + 1]? = some (.cells #[.int .u8 0, .int .i64 0, .int .u64 0] 27 (0, 0)) from (congrArg _ (by simp)).trans (heap_alloc_new (W.alloc (.cells #[.int .u8 0, .int .i64 0, .int .u64 0] 27)) _))
  generalize World.alloc _ _ = w2 at B2 X7 X9 ⊢
  obtain ⟨b7, h7⟩ : ∃ b, W.heap.size = b := ⟨_, rfl⟩
  obtain ⟨b9, h9⟩ : ∃ b, W.heap.size + 1 = b := ⟨_, rfl⟩
  have NE := Lib.hid (show b7 ≠ b9 ∧ W.heap.size ≤ b9 ∧ W.heap.size ≤ b7 by omega)
  rw [h7] at X7
  rw [h9] at X9
  rw [h9]
  try rw [h7]
  have HW := Lib.hid h7
  clear h7 h9
  have x0 : w2.cell? ⟨b9, 0, none⟩ = some (.int .u8 0) := hp_cell X9.out 0
  have x1 : w2.cell? ⟨b9, 1, none⟩ = some (.int .i64 0) := hp_cell X9.out 1
  have x2 : w2.cell? ⟨b9, 2, none⟩ = some (.int .u64 0) := hp_cell X9.out 2
  have xz0 := hp_frozen X9.out 0
  have xz1 := hp_frozen X9.out 1
  have xz2 := hp_frozen X9.out 2
  have xl := hp_lt X9.out
  rcases h4 with rfl | rfl | rfl | rfl
  · -- flows.Enter
    have HC := Lib.hid (HC0.out)
    go_upto_region 5 with fail
    have p90 := hp_put (cs' := #[.int .u8 5, .int .i64 0, .int .u64 0]) X9.out 0 (.int .u8 5) (by simp)
    have p70 := hp_far (p := ⟨b9, 0, none⟩) X7.out NE.out.1 (.int .u8 5)
    have pb0 := B2.out.setCell (p := ⟨b9, 0, none⟩) NE.out.2.1 (.int .u8 5)
    have p91 := hp_put (cs' := #[.int .u8 5, .int .i64 0, .int .u64 v]) p90 2 (.int .u64 v) (by simp)
    have p71 := hp_far (p := ⟨b9, 2, none⟩) p70 NE.out.1 (.int .u64 v)
    have pb1 := pb0.setCell (p := ⟨b9, 2, none⟩) NE.out.2.1 (.int .u64 v)
    have Y9 := Lib.hid p91
    have Y7 := Lib.hid p71
    have B3 := Lib.hid pb1
    clear p90 p70 pb0 p91 p71 pb1 x0 x1 x2 xz0 xz1 xz2 X9 X7 B2
    generalize World.setCell _ _ _ = w3 at Y9 Y7 B3 ⊢
    have xl := hp_lt Y9.out
    go_upto_region 6 with (go_at_call 23; refine (HC.out _).mono ?_; rintro e w4 ⟨A, c, rfl, hn, hb⟩; have HN := Lib.hid hn; have HB := Lib.hid hb; clear hn hb)
    have Z9 := Lib.hid (hp_below Y9.out HB.out)
    have Z7 := Lib.hid (hp_below Y7.out HB.out)
    have B4 := Lib.hid (B3.out.trans (HB.out.mono B3.out.size))
    have x0 : w4.cell? ⟨b9, 0, none⟩ = some (.int .u8 5) := hp_cell Z9.out 0
    have x1 : w4.cell? ⟨b9, 1, none⟩ = some (.int .i64 0) := hp_cell Z9.out 1
    have x2 : w4.cell? ⟨b9, 2, none⟩ = some (.int .u64 v) := hp_cell Z9.out 2
    have xl9 := hp_lt Z9.out
    have z0 := hp_frozen Z7.out 0
    have z1 := hp_frozen Z7.out 1
    have z2 := hp_frozen Z7.out 2
    have c0 : w4.cell? ⟨b7, 0, none⟩ = some (.int .u8 0) := hp_cell Z7.out 0
    have c1 : w4.cell? ⟨b7, 1, none⟩ = some (.int .i64 0) := hp_cell Z7.out 1
    have c2 : w4.cell? ⟨b7, 2, none⟩ = some (.int .u64 0) := hp_cell Z7.out 2
    have xl7 := hp_lt Z7.out
    have ne1 := NE.out.1
    have ne2 : b9 ≠ b7 := fun e => ne1 e.symm
    go_region_with fail
    go_wp2_with fail
    have q0 := hp_put (cs' := #[.int .u8 5, .int .i64 0, .int .u64 0]) Z7.out 0 (.int .u8 5) (by simp)
    have q1 := hp_put (cs' := #[.int .u8 5, .int .i64 0, .int .u64 0]) q0 1 (.int .i64 0) (by simp)
    have q2 := hp_put (cs' := #[.int .u8 5, .int .i64 0, .int .u64 v]) q1 2 (.int .u64 v) (by simp)
    have nb : iblk A ≠ some b7 := fun e => by have h1 := (nrow_lt HN.out _ e).1; have h2 := hp_lt Y7.out; omega
    have R0 : RI W w4 A c _ := ⟨nrow_base HN.out B3.out.size, B4.out⟩
    have R3 := ((R0.set (o := 0) nb NE.out.2.2 (.int .u8 5)).set (o := 1) nb NE.out.2.2 (.int .i64 0)).set (o := 2) nb NE.out.2.2 (.int .u64 v)
    have Q := Lib.hid (hp_dw q2)
    have R4 := Lib.hid (RI.below R3 (Below.drew (Below.refl _ _)))
    clear q0 q1 q2 R0 R3 x0 x1 x2 z0 z1 z2 c0 c1 c2
    generalize World.drew _ = w5 at Q R4 ⊢
    have d0 := hp_cell Q.out 0
    have d1 := hp_cell Q.out 1
    have d2 := hp_cell Q.out 2
    refine bodyPost_ret (by simp [results, Try.results27, go_sem, d0, d1, d2]; try rfl) rfl ?_
    exact ⟨A, c, rfl, R4.out.row, R4.out.bl⟩
  · -- flows.Take
    have HC := Lib.hid (HC1.out)
    go_upto_region 9 with fail
    have p90 := hp_put (cs' := #[.int .u8 6, .int .i64 0, .int .u64 0]) X9.out 0 (.int .u8 6) (by simp)
    have p70 := hp_far (p := ⟨b9, 0, none⟩) X7.out NE.out.1 (.int .u8 6)
    have pb0 := B2.out.setCell (p := ⟨b9, 0, none⟩) NE.out.2.1 (.int .u8 6)
    have Y9 := Lib.hid p90
    have Y7 := Lib.hid p70
    have B3 := Lib.hid pb0
    clear p90 p70 pb0 x0 x1 x2 xz0 xz1 xz2 X9 X7 B2
    generalize World.setCell _ _ _ = w3 at Y9 Y7 B3 ⊢
    have xl := hp_lt Y9.out
    go_upto_region 10 with (go_at_call 25; refine (HC.out _).mono ?_; rintro e w4 ⟨A, c, rfl, hn, hb⟩; have HN := Lib.hid hn; have HB := Lib.hid hb; clear hn hb)
    have Z9 := Lib.hid (hp_below Y9.out HB.out)
    have Z7 := Lib.hid (hp_below Y7.out HB.out)
    have B4 := Lib.hid (B3.out.trans (HB.out.mono B3.out.size))
    have x0 : w4.cell? ⟨b9, 0, none⟩ = some (.int .u8 6) := hp_cell Z9.out 0
    have x1 : w4.cell? ⟨b9, 1, none⟩ = some (.int .i64 0) := hp_cell Z9.out 1
    have x2 : w4.cell? ⟨b9, 2, none⟩ = some (.int .u64 0) := hp_cell Z9.out 2
    have xl9 := hp_lt Z9.out
    have z0 := hp_frozen Z7.out 0
    have z1 := hp_frozen Z7.out 1
    have z2 := hp_frozen Z7.out 2
    have c0 : w4.cell? ⟨b7, 0, none⟩ = some (.int .u8 0) := hp_cell Z7.out 0
    have c1 : w4.cell? ⟨b7, 1, none⟩ = some (.int .i64 0) := hp_cell Z7.out 1
    have c2 : w4.cell? ⟨b7, 2, none⟩ = some (.int .u64 0) := hp_cell Z7.out 2
    have xl7 := hp_lt Z7.out
    have ne1 := NE.out.1
    have ne2 : b9 ≠ b7 := fun e => ne1 e.symm
    go_region_with fail
    go_wp2_with fail
    have q0 := hp_put (cs' := #[.int .u8 6, .int .i64 0, .int .u64 0]) Z7.out 0 (.int .u8 6) (by simp)
    have q1 := hp_put (cs' := #[.int .u8 6, .int .i64 0, .int .u64 0]) q0 1 (.int .i64 0) (by simp)
    have q2 := hp_put (cs' := #[.int .u8 6, .int .i64 0, .int .u64 0]) q1 2 (.int .u64 0) (by simp)
    have nb : iblk A ≠ some b7 := fun e => by have h1 := (nrow_lt HN.out _ e).1; have h2 := hp_lt Y7.out; omega
    have R0 : RI W w4 A c _ := ⟨nrow_base HN.out B3.out.size, B4.out⟩
    have R3 := ((R0.set (o := 0) nb NE.out.2.2 (.int .u8 6)).set (o := 1) nb NE.out.2.2 (.int .i64 0)).set (o := 2) nb NE.out.2.2 (.int .u64 0)
    have Q := Lib.hid (hp_dw q2)
    have R4 := Lib.hid (RI.below R3 (Below.drew (Below.refl _ _)))
    clear q0 q1 q2 R0 R3 x0 x1 x2 z0 z1 z2 c0 c1 c2
    generalize World.drew _ = w5 at Q R4 ⊢
    have d0 := hp_cell Q.out 0
    have d1 := hp_cell Q.out 1
    have d2 := hp_cell Q.out 2
    refine bodyPost_ret (by simp [results, Try.results27, go_sem, d0, d1, d2]; try rfl) rfl ?_
    exact ⟨A, c, rfl, R4.out.row, R4.out.bl⟩
  · -- flows.Arrive
    have HC := Lib.hid (HC2.out)
    go_upto_region 13 with fail
    have p90 := hp_put (cs' := #[.int .u8 7, .int .i64 0, .int .u64 0]) X9.out 0 (.int .u8 7) (by simp)
    have p70 := hp_far (p := ⟨b9, 0, none⟩) X7.out NE.out.1 (.int .u8 7)
    have pb0 := B2.out.setCell (p := ⟨b9, 0, none⟩) NE.out.2.1 (.int .u8 7)
    have Y9 := Lib.hid p90
    have Y7 := Lib.hid p70
    have B3 := Lib.hid pb0
    clear p90 p70 pb0 x0 x1 x2 xz0 xz1 xz2 X9 X7 B2
    generalize World.setCell _ _ _ = w3 at Y9 Y7 B3 ⊢
    have xl := hp_lt Y9.out
    go_upto_region 14 with (go_at_call 17; refine (HC.out _).mono ?_; rintro e w4 ⟨A, c, rfl, hn, hb⟩; have HN := Lib.hid hn; have HB := Lib.hid hb; clear hn hb)
    have Z9 := Lib.hid (hp_below Y9.out HB.out)
    have Z7 := Lib.hid (hp_below Y7.out HB.out)
    have B4 := Lib.hid (B3.out.trans (HB.out.mono B3.out.size))
    have x0 : w4.cell? ⟨b9, 0, none⟩ = some (.int .u8 7) := hp_cell Z9.out 0
    have x1 : w4.cell? ⟨b9, 1, none⟩ = some (.int .i64 0) := hp_cell Z9.out 1
    have x2 : w4.cell? ⟨b9, 2, none⟩ = some (.int .u64 0) := hp_cell Z9.out 2
    have xl9 := hp_lt Z9.out
    have z0 := hp_frozen Z7.out 0
    have z1 := hp_frozen Z7.out 1
    have z2 := hp_frozen Z7.out 2
    have c0 : w4.cell? ⟨b7, 0, none⟩ = some (.int .u8 0) := hp_cell Z7.out 0
    have c1 : w4.cell? ⟨b7, 1, none⟩ = some (.int .i64 0) := hp_cell Z7.out 1
    have c2 : w4.cell? ⟨b7, 2, none⟩ = some (.int .u64 0) := hp_cell Z7.out 2
    have xl7 := hp_lt Z7.out
    have ne1 := NE.out.1
    have ne2 : b9 ≠ b7 := fun e => ne1 e.symm
    go_region_with fail
    go_wp2_with fail
    have q0 := hp_put (cs' := #[.int .u8 7, .int .i64 0, .int .u64 0]) Z7.out 0 (.int .u8 7) (by simp)
    have q1 := hp_put (cs' := #[.int .u8 7, .int .i64 0, .int .u64 0]) q0 1 (.int .i64 0) (by simp)
    have q2 := hp_put (cs' := #[.int .u8 7, .int .i64 0, .int .u64 0]) q1 2 (.int .u64 0) (by simp)
    have nb : iblk A ≠ some b7 := fun e => by have h1 := (nrow_lt HN.out _ e).1; have h2 := hp_lt Y7.out; omega
    have R0 : RI W w4 A c _ := ⟨nrow_base HN.out B3.out.size, B4.out⟩
    have R3 := ((R0.set (o := 0) nb NE.out.2.2 (.int .u8 7)).set (o := 1) nb NE.out.2.2 (.int .i64 0)).set (o := 2) nb NE.out.2.2 (.int .u64 0)
    have Q := Lib.hid (hp_dw q2)
    have R4 := Lib.hid (RI.below R3 (Below.drew (Below.refl _ _)))
    clear q0 q1 q2 R0 R3 x0 x1 x2 z0 z1 z2 c0 c1 c2
    generalize World.drew _ = w5 at Q R4 ⊢
    have d0 := hp_cell Q.out 0
    have d1 := hp_cell Q.out 1
    have d2 := hp_cell Q.out 2
    refine bodyPost_ret (by simp [results, Try.results27, go_sem, d0, d1, d2]; try rfl) rfl ?_
    exact ⟨A, c, rfl, R4.out.row, R4.out.bl⟩
  · -- flows.Leave
    have HC := Lib.hid (HC3.out)
    go_upto_region 16 with fail
    have p90 := hp_put (cs' := #[.int .u8 8, .int .i64 0, .int .u64 0]) X9.out 0 (.int .u8 8) (by simp)
    have p70 := hp_far (p := ⟨b9, 0, none⟩) X7.out NE.out.1 (.int .u8 8)
    have pb0 := B2.out.setCell (p := ⟨b9, 0, none⟩) NE.out.2.1 (.int .u8 8)
    have p91 := hp_put (cs' := #[.int .u8 8, .int .i64 0, .int .u64 v]) p90 2 (.int .u64 v) (by simp)
    have p71 := hp_far (p := ⟨b9, 2, none⟩) p70 NE.out.1 (.int .u64 v)
    have pb1 := pb0.setCell (p := ⟨b9, 2, none⟩) NE.out.2.1 (.int .u64 v)
    have Y9 := Lib.hid p91
    have Y7 := Lib.hid p71
    have B3 := Lib.hid pb1
    clear p90 p70 pb0 p91 p71 pb1 x0 x1 x2 xz0 xz1 xz2 X9 X7 B2
    generalize World.setCell _ _ _ = w3 at Y9 Y7 B3 ⊢
    have xl := hp_lt Y9.out
    go_upto_region 17 with (go_at_call 19; refine (HC.out _).mono ?_; rintro e w4 ⟨A, c, rfl, hn, hb⟩; have HN := Lib.hid hn; have HB := Lib.hid hb; clear hn hb)
    have Z9 := Lib.hid (hp_below Y9.out HB.out)
    have Z7 := Lib.hid (hp_below Y7.out HB.out)
    have B4 := Lib.hid (B3.out.trans (HB.out.mono B3.out.size))
    have x0 : w4.cell? ⟨b9, 0, none⟩ = some (.int .u8 8) := hp_cell Z9.out 0
    have x1 : w4.cell? ⟨b9, 1, none⟩ = some (.int .i64 0) := hp_cell Z9.out 1
    have x2 : w4.cell? ⟨b9, 2, none⟩ = some (.int .u64 v) := hp_cell Z9.out 2
    have xl9 := hp_lt Z9.out
    have z0 := hp_frozen Z7.out 0
    have z1 := hp_frozen Z7.out 1
    have z2 := hp_frozen Z7.out 2
    have c0 : w4.cell? ⟨b7, 0, none⟩ = some (.int .u8 0) := hp_cell Z7.out 0
    have c1 : w4.cell? ⟨b7, 1, none⟩ = some (.int .i64 0) := hp_cell Z7.out 1
    have c2 : w4.cell? ⟨b7, 2, none⟩ = some (.int .u64 0) := hp_cell Z7.out 2
    have xl7 := hp_lt Z7.out
    have ne1 := NE.out.1
    have ne2 : b9 ≠ b7 := fun e => ne1 e.symm
    go_region_with fail
    go_wp2_with fail
    have q0 := hp_put (cs' := #[.int .u8 8, .int .i64 0, .int .u64 0]) Z7.out 0 (.int .u8 8) (by simp)
    have q1 := hp_put (cs' := #[.int .u8 8, .int .i64 0, .int .u64 0]) q0 1 (.int .i64 0) (by simp)
    have q2 := hp_put (cs' := #[.int .u8 8, .int .i64 0, .int .u64 v]) q1 2 (.int .u64 v) (by simp)
    have nb : iblk A ≠ some b7 := fun e => by have h1 := (nrow_lt HN.out _ e).1; have h2 := hp_lt Y7.out; omega
    have R0 : RI W w4 A c _ := ⟨nrow_base HN.out B3.out.size, B4.out⟩
    have R3 := ((R0.set (o := 0) nb NE.out.2.2 (.int .u8 8)).set (o := 1) nb NE.out.2.2 (.int .i64 0)).set (o := 2) nb NE.out.2.2 (.int .u64 v)
    have Q := Lib.hid (hp_dw q2)
    have R4 := Lib.hid (RI.below R3 (Below.drew (Below.refl _ _)))
    clear q0 q1 q2 R0 R3 x0 x1 x2 z0 z1 z2 c0 c1 c2
    generalize World.drew _ = w5 at Q R4 ⊢
    have d0 := hp_cell Q.out 0
    have d1 := hp_cell Q.out 1
    have d2 := hp_cell Q.out 2
    refine bodyPost_ret (by simp [results, Try.results27, go_sem, d0, d1, d2]; try rfl) rfl ?_
    exact ⟨A, c, rfl, R4.out.row, R4.out.bl⟩
end Go.Proofs.Ytcjkpeojjonpiaa
