
/-
  flows: Enter, Take, Arrive, Leave.
-/
import Derived.Test.YtmmfadakhnagpaaFl5
import Derived.Handy
namespace Go.Proofs.Ytmmfadakhnagpaa
open Go.RowKit Go.ChangeShapes Go.WideShapes
set_option linter.unusedSimpArgs false
set_option linter.unusedVariables false

def wthB (n lo hi : Int) : Bool := decide (lo ≤ n) && decide (n ≤ hi)
def quB (at' tv sz : Int) : Bool := wthB at' 0 64 && (wthB sz 1 4 && wthB tv 0 (10 - sz))
def baB (at' tv : Int) : Bool := wthB at' 0 64 && wthB tv 0 10
theorem wth_of {n lo hi : Int} (h : wthB n lo hi = true) : lo ≤ n ∧ n ≤ hi := by unfold wthB at h; simpa using h
set_option maxHeartbeats 4000000 in
theorem within_any (n lo hi : Int) (w : World) : Calls Try.prog 87 #[.int .i64 n, .int .i64 lo, .int .i64 hi] w fun e w' => e = .returned (.bool (wthB n lo hi)) ∧ w = w' := by
  cases h1 : decide (lo ≤ n) <;> cases h2 : decide (n ≤ hi)
  all_goals
    have h3 : decide (n ≥ lo) = _ := h1
    have E := Lib.hid (show wthB n lo hi = _ by unfold wthB; rw [h1, h2])
    go_enter Try.func87, Try.ntmps87
    go_wp2_with fail
    go_ret
    exact ⟨by rw [E.out]; rfl, rfl⟩
set_option maxHeartbeats 4000000 in
theorem barrier_any (at' tv : Int) (w : World) : Calls Try.prog 86 #[.int .i64 at', .int .i64 tv] w fun e w' => e = .returned (.bool (baB at' tv)) ∧ w = w' := by
  have H1 := Lib.hid (within_any at' 0 64)
  have H2 := Lib.hid (within_any tv 0 10)
  obtain ⟨a, ha⟩ : ∃ a, wthB at' 0 64 = a := ⟨_, rfl⟩
  obtain ⟨b, hb⟩ : ∃ b, wthB tv 0 10 = b := ⟨_, rfl⟩
  have E := Lib.hid (show baB at' tv = (a && b) by unfold baB; rw [ha, hb])
  rw [ha] at H1
  rw [hb] at H2
  clear ha hb
  cases a
  all_goals
    go_enter Try.func86, Try.ntmps86
    go_wp2_with (first | (go_at_call 87; (with_reducible refine (H1.out _).mono ?_); rintro e w' ⟨rfl, rfl⟩) | (go_at_call 87; (with_reducible refine (H2.out _).mono ?_); rintro e w' ⟨rfl, rfl⟩))
    go_ret
    exact ⟨by rw [E.out]; simp, rfl⟩
set_option maxHeartbeats 4000000 in
theorem queue_any (at' tv sz : Int) (w : World) : Calls Try.prog 84 #[.int .i64 at', .int .i64 tv, .int .i64 sz] w fun e w' => e = .returned (.bool (quB at' tv sz)) ∧ w = w' := by
  have H1 := Lib.hid (within_any at' 0 64)
  have H2 := Lib.hid (within_any sz 1 4)
  have H3 := Lib.hid (within_any tv 0 (10 - sz))
  obtain ⟨a, ha⟩ : ∃ a, wthB at' 0 64 = a := ⟨_, rfl⟩
  obtain ⟨b, hb⟩ : ∃ b, wthB sz 1 4 = b := ⟨_, rfl⟩
  obtain ⟨c, hc⟩ : ∃ c, wthB tv 0 (10 - sz) = c := ⟨_, rfl⟩
  have E := Lib.hid (show quB at' tv sz = (a && (b && c)) by unfold quB; rw [ha, hb, hc])
  rw [ha] at H1
  rw [hb] at H2
  rw [hc] at H3
  clear ha hc
  have hw : b = true → wrap64 (10 - sz) = 10 - sz := fun h => by
    rw [h] at hb
    have := wth_of hb
    unfold wrap64; omega
  clear hb
  cases a <;> cases b
  all_goals first | (have hwr := hw rfl; clear hw) | clear hw
  all_goals
    go_enter Try.func84, Try.ntmps84
    go_wp2_with (first | (go_at_call 87; (with_reducible refine (H1.out _).mono ?_); rintro e w' ⟨rfl, rfl⟩) | (go_at_call 87; (with_reducible refine (H2.out _).mono ?_); rintro e w' ⟨rfl, rfl⟩) | (go_at_call 87; (with_reducible refine (H3.out _).mono ?_); rintro e w' ⟨rfl, rfl⟩))
    go_ret
    exact ⟨by rw [E.out]; simp, rfl⟩
/-- What a block comes to: an error, the instructions. -/
def blkR (l : List Ins3) (at' : Int) : Int × List Ins3 := if at' + l.length > 64 then (4, []) else (0, l)
def FPost (W : World) (r : Int × List Ins3) (e : Ending) (w' : World) : Prop := ∃ A c, e = .returned (.tuple #[.slice A r.2.length c, .int .i64 r.1]) ∧ NRow w' W.heap.size A c r.2 ∧ Below W.heap.size W w'
theorem FPost.err (W : World) (n : Int) : FPost W (n, []) (.returned (.tuple #[.slice none 0 0, .int .i64 n])) W := ⟨none, 0, rfl, nrow_nil W _, Below.refl _ _⟩
theorem blkR_post {W : World} {l : List Ins3} {at' : Int} {e : Ending} {w' : World} (h : BPost W l at' e w') : FPost W (blkR l at') e w' := by
  obtain ⟨h1, h2⟩ := h
  unfold blkR
  by_cases hc : at' + l.length > 64
  · rw [if_pos hc] at h1 ⊢
    exact ⟨none, 0, h1, nrow_nil w' _, h2⟩
  · rw [if_neg hc] at h1 ⊢
    obtain ⟨A, c, h3, h4⟩ := h1
    exact ⟨A, c, h3, h4, h2⟩
def enF (at' tv sz v : Int) : Int × List Ins3 := bif !quB at' tv sz then (2, []) else bif !rightB v then (3, []) else blkR (enterL tv sz 0 v at') at'
def taF (at' tv sz : Int) : Int × List Ins3 := bif !quB at' tv sz then (2, []) else blkR (takeL tv sz 0 0 at') at'
def arF (at' tv sz : Int) : Int × List Ins3 := bif !baB at' tv || !wthB sz 1 4 then (2, []) else blkR (arriveL tv sz 0 0 at') at'
def leF (at' tv lc : Int) : Int × List Ins3 := bif !baB at' tv || !wthB lc 0 3 then (2, []) else blkR (leaveL tv 0 lc 0 at') at'
theorem quB_rg {at' tv sz v : Int} (h : quB at' tv sz = true) (hv : W64 v) : Rg tv sz 0 v at' := by
  unfold quB at h
  simp only [Bool.and_eq_true] at h
  have h1 := wth_of h.1
  have h2 := wth_of h.2.1
  have h3 := wth_of h.2.2
  refine ⟨⟨?_, ?_⟩, ⟨?_, ?_⟩, ⟨?_, ?_⟩, hv, ?_, ?_⟩ <;> omega
theorem baB_rg {at' tv sz lc v : Int} (h : baB at' tv = true) (hv : W64 v) (hs : 0 ≤ sz ∧ sz ≤ 20) (hl : 0 ≤ lc ∧ lc ≤ 20) : Rg tv sz lc v at' := by
  unfold baB at h
  simp only [Bool.and_eq_true] at h
  have h1 := wth_of h.1
  have h2 := wth_of h.2
  refine ⟨⟨?_, ?_⟩, hs, hl, hv, ?_, ?_⟩ <;> omega
theorem enter_at (s : ByteArray) (hs : s = enterT) (tv sz lc vl at' : Int) (h : Rg tv sz lc vl at') (w : World) : Calls Try.prog 85 #[.agg #[.int .i64 tv, .int .i64 sz, .int .i64 lc, .int .u64 vl], .int .i64 at', .string s] w (FPost w (blkR (enterL tv sz lc vl at') at')) := by
  subst hs
  exact (enter_blk tv sz lc vl at' h w).mono (fun _ _ h => blkR_post h)
theorem take_at (s : ByteArray) (hs : s = takeT) (tv sz lc vl at' : Int) (h : Rg tv sz lc vl at') (w : World) : Calls Try.prog 85 #[.agg #[.int .i64 tv, .int .i64 sz, .int .i64 lc, .int .u64 vl], .int .i64 at', .string s] w (FPost w (blkR (takeL tv sz lc vl at') at')) := by
  subst hs
  exact (take_blk tv sz lc vl at' h w).mono (fun _ _ h => blkR_post h)
theorem arrive_at (s : ByteArray) (hs : s = arriveT) (tv sz lc vl at' : Int) (h : Rg tv sz lc vl at') (w : World) : Calls Try.prog 85 #[.agg #[.int .i64 tv, .int .i64 sz, .int .i64 lc, .int .u64 vl], .int .i64 at', .string s] w (FPost w (blkR (arriveL tv sz lc vl at') at')) := by
  subst hs
  exact (arrive_blk tv sz lc vl at' h w).mono (fun _ _ h => blkR_post h)
theorem leave_at (s : ByteArray) (hs : s = leaveT) (tv sz lc vl at' : Int) (h : Rg tv sz lc vl at') (w : World) : Calls Try.prog 85 #[.agg #[.int .i64 tv, .int .i64 sz, .int .i64 lc, .int .u64 vl], .int .i64 at', .string s] w (FPost w (blkR (leaveL tv sz lc vl at') at')) := by
  subst hs
  exact (leave_blk tv sz lc vl at' h w).mono (fun _ _ h => blkR_post h)
set_option maxRecDepth 100000 in
set_option maxHeartbeats 4000000 in
theorem enter_any (at' tv sz v : Int) (hv : W64 v) (w : World) : Calls Try.prog 54 #[.int .i64 at', .int .i64 tv, .int .i64 sz, .int .u64 v] w (FPost w (enF at' tv sz v)) := by
  have H1 := Lib.hid (queue_any at' tv sz)
  have H2 := Lib.hid (right_any v hv)
  have H3 : quB at' tv sz = true → Hid (∀ (s : ByteArray), s = enterT → ∀ w : World, Calls Try.prog 85 #[.agg #[.int .i64 tv, .int .i64 sz, .int .i64 0, .int .u64 v], .int .i64 at', .string s] w (FPost w (blkR (enterL tv sz 0 v at') at'))) := fun h => Lib.hid (fun s hs w => enter_at s hs tv sz 0 v at' (quB_rg h hv) w)
  obtain ⟨R, hR⟩ : ∃ R, blkR (enterL tv sz 0 v at') at' = R := ⟨_, rfl⟩
  unfold enF
  rw [hR] at H3 ⊢
  clear hR hv
  obtain ⟨a, ha⟩ : ∃ a, quB at' tv sz = a := ⟨_, rfl⟩
  obtain ⟨b, hb⟩ : ∃ b, rightB v = b := ⟨_, rfl⟩
  rw [ha] at H1 H3 ⊢
  rw [hb] at H2 ⊢
  clear ha hb
  cases a <;> cases b
  all_goals first | (have H4 := H3 rfl; clear H3) | clear H3
  all_goals try dsimp only [Bool.not_true, Bool.not_false, cond_true, cond_false]
  all_goals
    go_enter Try.func54, Try.ntmps54
    go_wp2_with (first | (go_at_call 84; refine (H1.out _).mono ?_; rintro e w' ⟨rfl, rfl⟩) | (go_at_call 37; refine (H2.out _).mono ?_; rintro e w' ⟨rfl, rfl⟩) | (go_at_call 85; refine (H4.out _ (by kernel_rfl) _).mono ?_; rintro e w' ⟨A, c, rfl, hn, hb⟩; have HN := Lib.hid hn; have HB := Lib.hid hb; clear hn hb))
    go_ret2
    first | exact FPost.err _ _ | exact ⟨A, c, rfl, HN.out, HB.out⟩
set_option maxRecDepth 100000 in
set_option maxHeartbeats 4000000 in
theorem take_any (at' tv sz : Int) (w : World) : Calls Try.prog 56 #[.int .i64 at', .int .i64 tv, .int .i64 sz] w (FPost w (taF at' tv sz)) := by
  have H1 := Lib.hid (queue_any at' tv sz)
  have H3 : quB at' tv sz = true → Hid (∀ (s : ByteArray), s = takeT → ∀ w : World, Calls Try.prog 85 #[.agg #[.int .i64 tv, .int .i64 sz, .int .i64 0, .int .u64 0], .int .i64 at', .string s] w (FPost w (blkR (takeL tv sz 0 0 at') at'))) := fun h => Lib.hid (fun s hs w => take_at s hs tv sz 0 0 at' (quB_rg h (by constructor <;> decide)) w)
  obtain ⟨R, hR⟩ : ∃ R, blkR (takeL tv sz 0 0 at') at' = R := ⟨_, rfl⟩
  unfold taF
  rw [hR] at H3 ⊢
  clear hR
  obtain ⟨a, ha⟩ : ∃ a, quB at' tv sz = a := ⟨_, rfl⟩
  rw [ha] at H1 H3 ⊢
  clear ha
  cases a
  all_goals first | (have H4 := H3 rfl; clear H3) | clear H3
  all_goals try dsimp only [Bool.not_true, Bool.not_false, cond_true, cond_false]
  all_goals
    go_enter Try.func56, Try.ntmps56
    go_wp2_with (first | (go_at_call 84; refine (H1.out _).mono ?_; rintro e w' ⟨rfl, rfl⟩) | (go_at_call 85; refine (H4.out _ (by kernel_rfl) _).mono ?_; rintro e w' ⟨A, c, rfl, hn, hb⟩; have HN := Lib.hid hn; have HB := Lib.hid hb; clear hn hb))
    go_ret2
    first | exact FPost.err _ _ | exact ⟨A, c, rfl, HN.out, HB.out⟩
set_option maxRecDepth 100000 in
set_option maxHeartbeats 4000000 in
theorem arrive_any (at' tv x : Int) (w : World) : Calls Try.prog 58 #[.int .i64 at', .int .i64 tv, .int .i64 x] w (FPost w (arF at' tv x)) := by
  have H1 := Lib.hid (barrier_any at' tv)
  have H2 := Lib.hid (within_any x 1 4)
  have H3 : baB at' tv = true → wthB x 1 4 = true → Hid (∀ (s : ByteArray), s = arriveT → ∀ w : World, Calls Try.prog 85 #[.agg #[.int .i64 tv, .int .i64 x, .int .i64 0, .int .u64 0], .int .i64 at', .string s] w (FPost w (blkR (arriveL tv x 0 0 at') at'))) := fun h h2 => Lib.hid (fun s hs w => arrive_at s hs tv x 0 0 at' (baB_rg h (by constructor <;> decide) (by have := wth_of h2; omega) (by decide)) w)
  obtain ⟨R, hR⟩ : ∃ R, blkR (arriveL tv x 0 0 at') at' = R := ⟨_, rfl⟩
  unfold arF
  rw [hR] at H3 ⊢
  clear hR
  obtain ⟨a, ha⟩ : ∃ a, baB at' tv = a := ⟨_, rfl⟩
  obtain ⟨b, hb⟩ : ∃ b, wthB x 1 4 = b := ⟨_, rfl⟩
  rw [ha] at H1 H3 ⊢
  rw [hb] at H2 H3 ⊢
  clear ha hb
  cases a <;> cases b
  all_goals first | (have H4 := H3 rfl rfl; clear H3) | clear H3
  all_goals try dsimp only [Bool.not_true, Bool.not_false, cond_true, cond_false, Bool.or_true, Bool.true_or, Bool.or_false]
  all_goals
    go_enter Try.func58, Try.ntmps58
    go_wp2_with (first | (go_at_call 86; refine (H1.out _).mono ?_; rintro e w' ⟨rfl, rfl⟩) | (go_at_call 87; refine (H2.out _).mono ?_; rintro e w' ⟨rfl, rfl⟩) | (go_at_call 85; refine (H4.out _ (by kernel_rfl) _).mono ?_; rintro e w' ⟨A, c, rfl, hn, hb⟩; have HN := Lib.hid hn; have HB := Lib.hid hb; clear hn hb))
    go_ret2
    first | exact FPost.err _ _ | exact ⟨A, c, rfl, HN.out, HB.out⟩
set_option maxRecDepth 100000 in
set_option maxHeartbeats 4000000 in
theorem leave_any (at' tv x : Int) (w : World) : Calls Try.prog 60 #[.int .i64 at', .int .i64 tv, .int .i64 x] w (FPost w (leF at' tv x)) := by
  have H1 := Lib.hid (barrier_any at' tv)
  have H2 := Lib.hid (within_any x 0 3)
  have H3 : baB at' tv = true → wthB x 0 3 = true → Hid (∀ (s : ByteArray), s = leaveT → ∀ w : World, Calls Try.prog 85 #[.agg #[.int .i64 tv, .int .i64 0, .int .i64 x, .int .u64 0], .int .i64 at', .string s] w (FPost w (blkR (leaveL tv 0 x 0 at') at'))) := fun h h2 => Lib.hid (fun s hs w => leave_at s hs tv 0 x 0 at' (baB_rg h (by constructor <;> decide) (by decide) (by have := wth_of h2; omega)) w)
  obtain ⟨R, hR⟩ : ∃ R, blkR (leaveL tv 0 x 0 at') at' = R := ⟨_, rfl⟩
  unfold leF
  rw [hR] at H3 ⊢
  clear hR
  obtain ⟨a, ha⟩ : ∃ a, baB at' tv = a := ⟨_, rfl⟩
  obtain ⟨b, hb⟩ : ∃ b, wthB x 0 3 = b := ⟨_, rfl⟩
  rw [ha] at H1 H3 ⊢
  rw [hb] at H2 H3 ⊢
  clear ha hb
  cases a <;> cases b
  all_goals first | (have H4 := H3 rfl rfl; clear H3) | clear H3
  all_goals try dsimp only [Bool.not_true, Bool.not_false, cond_true, cond_false, Bool.or_true, Bool.true_or, Bool.or_false]
  all_goals
    go_enter Try.func60, Try.ntmps60
    go_wp2_with (first | (go_at_call 86; refine (H1.out _).mono ?_; rintro e w' ⟨rfl, rfl⟩) | (go_at_call 87; refine (H2.out _).mono ?_; rintro e w' ⟨rfl, rfl⟩) | (go_at_call 85; refine (H4.out _ (by kernel_rfl) _).mono ?_; rintro e w' ⟨A, c, rfl, hn, hb⟩; have HN := Lib.hid hn; have HB := Lib.hid hb; clear hn hb))
    go_ret2
    first | exact FPost.err _ _ | exact ⟨A, c, rfl, HN.out, HB.out⟩
end Go.Proofs.Ytmmfadakhnagpaa
