
/-
  The reference's object: a queue's Enter.
-/
import Derived.Test.YtbanfaboimachaaObj5
import Derived.Test.YtbanfaboimachaaObj2
import Derived.Test.YtbanfaboimachaaObj3
import Derived.Test.YtbanfaboimachaaObj4
import Derived.Maps.AppendAt
import Derived.Test.YtbanfaboimachaaRef2
import Derived.Test.YtbanfaboimachaaFlow1
import Derived.Deep.DeepCutAuto
import Derived.Deep.CutBlock
namespace Go.Proofs.Ytbanfaboimachaa
open Go.RowKit
set_option linter.unusedSimpArgs false
set_option linter.unusedVariables false
variable {ok : Nat → Prop}


theorem step_append_vals {ops : Array Oper} {o : Oper} {a : Act} {w : World} {K : Act → World → Prop} {Q : Exit → Act → World → Prop} {E : Prop} (hg : o.guard = none) (s x : Operand)
    (ho : o.op = .call { callee := .builtin .append, args := #[s, x], argTypes := #[72, 72] })
    (base : Nat) (A0 : Option Addr) (c0 : Nat) (xs : List Int) (hs : a.eval s = .slice A0 xs.length c0) (hr : RowAt w base A0 c0 xs) (A : Option Addr) (c : Nat) (src : List Int) (hx : a.eval x = .slice A src.length c) (hA : A = none → c = 0)
    (hv : ValsAt ok w A src) (hlen : xs.length + src.length ≤ 1000) (hbase : base ≤ w.heap.size) (l' : List Int) (hl : xs ++ src = l')
    (h : ∀ A' c' w', RowAt w' base A' c' l' → w.grownBy w' (blk A0) → K (a.put o.dst (.slice A' l'.length c')) w') :
    if Region.wanted o (yielded ops a.tmps) = true then Oper.wp Try.prog o a w K Q else E := by
  have hw : Region.wanted o (yielded ops a.tmps) = true := by simp [Region.wanted, hg]
  rw [if_pos hw]
  subst hl
  obtain ⟨i0, hi, hz0, hz1, hz2⟩ := info_parts Val_info
  cases A with
  | none =>
    obtain rfl := vals_none hv
    obtain rfl := hA rfl
    have hrun := run_append_owned_none (P := Try.prog) (w := w) base 72 o.type 37 i0 1 Try.underlying72 hi _ xs.length (valsC xs) hr.1
    have hx' : a.eval x = .slice none 0 0 := hx
    unfold Oper.wp
    simp [execOp, ho, resolve, invoke, builtin, hs, hx', hrun, Result.andThen]
    have := h A0 c0 w (by rw [List.append_nil]; exact hr) (gb_refl _ _)
    rw [List.append_nil] at this
    exact this
  | some b =>
    obtain ⟨v', w', hrun, h1, h2, _⟩ := run_append_own_at (P := Try.prog) w base 72 o.type 37 i0 (.int .u64 0) 1 8 Try.underlying72 hi hz0 hz1 hz2 rfl (by decide) _ xs.length (valsC xs) hr.1 b src.length c (valsC src) (by rw [valsC_len, Nat.mul_one]) (vals_cell hv) (valsC_one src) (by unfold maxLen; omega) (by omega) hbase
    unfold Oper.wp
    simp [execOp, ho, resolve, invoke, builtin, hs, hx, hrun, Result.andThen]
    obtain ⟨A', c', rfl, hrow⟩ := row_of (l := xs ++ src) (by rw [List.length_append, valsC_append]; exact h1) (fun x hx => by rcases List.mem_append.mp hx with hx | hx; exact hr.2 x hx; exact hv.1 x hx)
    rw [blk_own] at h2
    exact h A' c' w' hrow h2
variable {r : Nat} {size owner n gen : Int} {l : List Int}

theorem row_at0 {W : World} {base n0 : Nat} (h : W.heap[n0]? = some (.cells #[] 37 (0, 0))) (hb : base ≤ n0) : RowAt W base (some ⟨n0, 0, none⟩) 0 [] :=
  ⟨⟨rfl, .inr ⟨n0, 0, #[], rfl, hb, h, Nat.le_refl _, Nat.zero_le _, rfl, rfl⟩⟩, fun x hx => (List.not_mem_nil hx).elim⟩
theorem vals_at1 {W : World} {v : Int} {n0 : Nat} (hv : W64 v) (h : W.heap[n0]? = some (.cells #[.int .u64 v] 37 (0, 0))) : ValsAt (fun _ => True) W (some ⟨n0, 0, none⟩) [v] :=
  ⟨fun x hx => by rw [List.mem_singleton.mp hx]; exact hv, .inr ⟨n0, 0, _, rfl, h, fun j x hj => by
    cases j with
    | zero => (simp at hj; subst hj; rfl)
    | succ j => simp at hj, trivial⟩⟩
theorem row_ok {W : World} {base c : Nat} {A : Option Addr} {l : List Int} (h : RowAt W base A c l) (hok : ∀ k, base ≤ k → ok k) : l.length ≤ c ∧ (A = none → c = 0) ∧ ValsAt ok W A l := by
  obtain ⟨A', c', hv, h2, _, h3, h4, _⟩ := vals_own (ok := ok) h.1 h.2 hok
  simp only [Value.slice.injEq, true_and] at hv
  obtain ⟨rfl, rfl⟩ := hv
  exact ⟨h2, h4, h3⟩
def EnterMid (ok : Nat → Prop) (w : World) (o r : Nat) (size owner n gen : Int) (l' : List Int) (wc : World) : Prop :=
  RIn ok wc r 3 size owner n gen l' ∧ w.grownBy wc (some r) ∧ wc.heap[w.heap.size + 1]? = some (.cells #[.int .u64 0, .bool false, .int .i64 0] 83 (0, 0)) ∧ wc.heap[o]? = some (.cells #[.int .u64 4607182418800017408, .bool false, .int .i64 0] 83 (0, 0))
theorem enter_mid {w w5 : World} {o : Nat} {A A' : Option Addr} {c c' : Nat} (l' : List Int) (q1 : l'.length ≤ c') (q2 : A' = none → c' = 0) (q3 : ValsAt ok w5 A' l')
    (q4 : w5.heap[r]? = some (.cells #[.int .u8 3, .int .i64 size, .int .i64 owner, .int .i64 n, .int .i64 gen, .slice A l.length c] 86 (0, 0))) (q5 : w5.heap[w.heap.size + 1]? = some (.cells #[.int .u64 0, .bool false, .int .i64 0] 83 (0, 0)))
    (q6 : w5.heap[o]? = some (.cells #[.int .u64 4607182418800017408, .bool false, .int .i64 0] 83 (0, 0))) (hne : r ≠ w.heap.size + 1) (hno : r ≠ o) (h0 : l'.length ≤ 4 ∧ ((3 : Int) = 3 → size ≤ 4)) (hf : ∀ j, w5.heap.size ≤ j → ok j) (hb : Below w.heap.size w w5) (hr : r < w.heap.size) :
    EnterMid ok w o r size owner n gen l' (w5.setCell ⟨r, 5, none⟩ (.slice A' l'.length c')) :=
  ⟨⟨fun j hj => hf j (by simpa [World.setCell] using hj), h0, A', c', by simp only [RCells]; exact hp_put65 q4 _, q1, q2, vals_far q3 q4 (by decide) 5 _⟩, gb_set (gb_below hb) 5 _, hp_far q5 (fun h => hne h.symm) _, hp_far q6 (fun h => hno h.symm) _⟩
theorem enter_fin {w W0 w5 : World} {o : Nat} {A A5 : Option Addr} {c c5 : Nat} {l l' : List Int} (hf : ∀ j, w.heap.size ≤ j → ok j) (hb0 : Below w.heap.size w W0)
    (q4 : W0.heap[r]? = some (.cells #[.int .u8 3, .int .i64 size, .int .i64 owner, .int .i64 n, .int .i64 gen, .slice A l.length c] 86 (0, 0))) (q5 : W0.heap[w.heap.size + 1]? = some (.cells #[.int .u64 0, .bool false, .int .i64 0] 83 (0, 0)))
    (q6 : W0.heap[o]? = some (.cells #[.int .u64 4607182418800017408, .bool false, .int .i64 0] 83 (0, 0))) (hne : r ≠ w.heap.size + 1) (hno : r ≠ o) (h0 : l'.length ≤ 4 ∧ ((3 : Int) = 3 → size ≤ 4)) (hr : r < w.heap.size) (row : RowAt w5 W0.heap.size A5 c5 l') (hb5 : Below W0.heap.size W0 w5) :
    EnterMid ok w o r size owner n gen l' (w5.setCell ⟨r, 5, none⟩ (.slice A5 l'.length c5)) := by
  obtain ⟨q1, q2, q3⟩ := row_ok (ok := ok) row (fun j hj => hf j (Nat.le_trans hb0.size hj))
  exact enter_mid l' q1 q2 q3 (hp_below q4 hb5) (hp_below q5 hb5) (hp_below q6 hb5) hne hno h0 (fun j hj => hf j (Nat.le_trans (Nat.le_trans hb0.size hb5.size) hj)) (hb0.trans (hb5.mono hb0.size)) hr
theorem renter_end {w5 : World} {q : Nat} {k : Int} {v : Int} {A A' : Option Addr} {c c' : Nat} {x y z : Value} (u0 u1 u2 : Value) (l' : List Int) (q1 : l'.length ≤ c') (q2 : A' = none → c' = 0) (q3 : ValsAt ok w5 A' l')
    (q4 : w5.heap[r]? = some (.cells #[.int .u8 k, .int .i64 size, .int .i64 owner, .int .i64 n, .int .i64 gen, .slice A l.length c] 86 (0, 0))) (q5 : w5.heap[q]? = some (.cells #[x, y, z] 83 (0, 0))) (hne : r ≠ q) (h0 : l'.length ≤ 4 ∧ (k = 3 → size ≤ 4)) (hf : ∀ j, w5.heap.size ≤ j → ok j) :
    RIn ok ((((w5.setCell ⟨r, 5, none⟩ (.slice A' l'.length c')).setCell ⟨q, 0, none⟩ u0).setCell ⟨q, 1, none⟩ u1).setCell ⟨q, 2, none⟩ u2) r k size owner n gen l' := by
  have x1 := hp_put65 q4 (.slice A' l'.length c')
  have y1 : (w5.setCell ⟨r, 5, none⟩ (.slice A' l'.length c')).heap[q]? = some (.cells #[x, y, z] 83 (0, 0)) := hp_far q5 (fun h => hne h.symm) _
  have k1 := vals_far q3 q4 (by decide) 5 (.slice A' l'.length c')
  have y2 := hp_put30 y1 u0
  have k2 := vals_far k1 y1 (by decide) 0 u0
  have y3 := hp_put31 y2 u1
  have k3 := vals_far k2 y2 (by decide) 1 u1
  have k4 := vals_far k3 y3 (by decide) 2 u2
  exact ⟨fun j hj => hf j (by simp [World.setCell] at hj; omega), h0, A', c', by simp only [RCells]; exact hp_far (hp_far (hp_far x1 hne _) hne _) hne _, q1, q2, k4⟩
set_option maxHeartbeats 3200000 in
set_option maxRecDepth 100000 in
theorem rDo_3_enter1 (who v : Int) (hv : W64 v) (w : World) (H : RIn ok w r 3 size owner n gen l) (h2 : decide (who < 0) = false) (h3 : decide (4 ≤ who) = false) (h4 : fitsB 5 v = true) (p1 : decide (size ≤ (l.length : Int)) = false) (l' : List Int) (hi' : l ++ [v] = l') :
    Calls Try.prog 37 #[.pointer (some ⟨r, 0, none⟩), callV 5 who v] w fun e w' => e = .returned (ansV aOne) ∧ RIn ok w' r 3 size owner n gen l' ∧ w.grownBy w' (some r) := by
  have tk : quTk 5 = true := rfl
  have HH := Lib.hid H
  obtain ⟨hf, h0, A, cc, hh, q1, q2, q3⟩ := H
  have hl := hp_lt hh
  have h0l := h0.1
  simp only [RCells] at hh
  have HA := Lib.hid hh
  have HF := Lib.hid hf
  have H0 := Lib.hid h0
  have HQ := Lib.hid (show l.length ≤ cc ∧ (A = none → cc = 0) ∧ ValsAt ok w A l from ⟨q1, q2, q3⟩)
  clear hf h0 hh q1 q2 q3
  have HI := Lib.hid hi'
  have HP1 := Lib.hid p1
  have li' : l'.length = l.length + 1 := by rw [← hi']; simp
  have HLI := Lib.hid li'
  clear hi' li'
  unfold callV
  go_enter Try.func37, Try.ntmps37
  go_upto_block 0 with (first | (go_at_call 41; refine (rTakes_3 5 _ (RIn_alloc (RIn_alloc HH.out _) _)).mono ?_; rintro e w' ⟨rfl, rfl⟩) | (go_at_call 42; refine (refFits_any 5 who v hv _).mono ?_; rintro e w1 ⟨rfl, hb⟩; have hh1 := hp_below (hp_alloc (hp_alloc HA.out _) _) hb; have hx : w1.heap[w.heap.size]? = some (.cells #[.int .u8 5, .int .i64 who, .int .u64 v] 39 (0, 0)) := hp_below (hp_alloc (heap_alloc_new w _) _) hb; have hy : w1.heap[w.heap.size + 1]? = some (.cells #[.int .u64 0, .bool false, .int .i64 0] 83 (0, 0)) := hp_below ((congrArg _ (by simp)).trans (heap_alloc_new (w.alloc _) _)) hb; have HG := Lib.hid (gb_trans (gb_alloc (gb_alloc (gb_refl w (some r)) _) _) (gb_below hb)); have r1 : w1.cell? ⟨r, 1, none⟩ = some (.int .i64 size) := hp_cell hh1 1; have r2 : w1.cell? ⟨r, 2, none⟩ = some (.int .i64 owner) := hp_cell hh1 2; have r3 : w1.cell? ⟨r, 3, none⟩ = some (.int .i64 n) := hp_cell hh1 3; have r4 : w1.cell? ⟨r, 4, none⟩ = some (.int .i64 gen) := hp_cell hh1 4; have r5 : w1.cell? ⟨r, 5, none⟩ = some (.slice A l.length cc) := hp_cell hh1 5; have g2 := hp_frozen hh1 2; have g3 := hp_frozen hh1 3; have g4 := hp_frozen hh1 4; have g5 := hp_frozen hh1 5; have x0 : w1.cell? ⟨w.heap.size, 0, none⟩ = some (.int .u8 5) := hp_cell hx 0; have x1 : w1.cell? ⟨w.heap.size, 1, none⟩ = some (.int .i64 who) := hp_cell hx 1; have x2 : w1.cell? ⟨w.heap.size, 2, none⟩ = some (.int .u64 v) := hp_cell hx 2; have y0 : w1.cell? ⟨w.heap.size + 1, 0, none⟩ = some (.int .u64 0) := hp_cell hy 0; have y1 : w1.cell? ⟨w.heap.size + 1, 1, none⟩ = some (.bool false) := hp_cell hy 1; have y2 : w1.cell? ⟨w.heap.size + 1, 2, none⟩ = some (.int .i64 0) := hp_cell hy 2; have z0 := hp_frozen hy 0; have z1 := hp_frozen hy 1; have z2 := hp_frozen hy 2; have l1 := hp_lt hh1; have l2 := hp_lt hx; have l3 := hp_lt hy; have HA1 := Lib.hid hh1; have HY := Lib.hid hy; have HX := Lib.hid hx; have HB := Lib.hid hb; clear hh1 hx hy hb) | (go_at_call 43; refine (refInt_any _ _).mono ?_; rintro e w' ⟨rfl, rfl⟩) | (go_at_call 44; refine (refLess_any v (intV gen) hv (intV_w64 _) _).mono ?_; rintro e w' ⟨rfl, rfl⟩))
  go_cut [] (fun wc => EnterMid ok w w1.heap.size r size owner n gen l' wc)
  case rest =>
    obtain ⟨m1, m2, m3, m4⟩ := hcut
    have o0 : wc.cell? ⟨w1.heap.size, 0, none⟩ = some (.int .u64 4607182418800017408) := hp_cell m4 0
    have o1 : wc.cell? ⟨w1.heap.size, 1, none⟩ = some (.bool false) := hp_cell m4 1
    have o2 : wc.cell? ⟨w1.heap.size, 2, none⟩ = some (.int .i64 0) := hp_cell m4 2
    have y0 : wc.cell? ⟨w.heap.size + 1, 0, none⟩ = some (.int .u64 0) := hp_cell m3 0
    have y1 : wc.cell? ⟨w.heap.size + 1, 1, none⟩ = some (.bool false) := hp_cell m3 1
    have y2 : wc.cell? ⟨w.heap.size + 1, 2, none⟩ = some (.int .i64 0) := hp_cell m3 2
    have z0 := hp_frozen m3 0
    have z1 := hp_frozen m3 1
    have z2 := hp_frozen m3 2
    have M1 := Lib.hid m1
    have M2 := Lib.hid m2
    have M3 := Lib.hid m3
    clear m1 m2 m3 m4
    go_wp2_with fail
    refine bodyPost_ret (by simp [results, Try.results37, go_sem, y0, y1, y2]; try rfl) rfl ?_
    refine ⟨rfl, RIn_far (RIn_far (RIn_far M1.out M3.out (by decide) (by decide) 0 _) (hp_put30 M3.out _) (by decide) (by decide) 1 _) (hp_put31 (hp_put30 M3.out _) _) (by decide) (by decide) 2 _, ?_⟩
    (repeat (with_reducible refine gb_new ?_ (by simp) _)); exact M2.out
  case first =>
    go_wp2_with fail
    go_quiet (fail)
    go_wp2_with fail
    have hb0 : Below w1.heap.size w1 (((w1.alloc (.cells #[.int .u64 4607182418800017408, .bool false, .int .i64 0] 83)).alloc (.cells #[.int .u64 0, .bool true, .int .i64 0] 83)).drewN nq) := bl_drewN (((Below.refl _ _).alloc (Nat.le_refl _) _).alloc (by simp) _) nq
    have ho0 : (((w1.alloc (.cells #[.int .u64 4607182418800017408, .bool false, .int .i64 0] 83)).alloc (.cells #[.int .u64 0, .bool true, .int .i64 0] 83)).drewN nq).heap[w1.heap.size]? = some (.cells #[.int .u64 4607182418800017408, .bool false, .int .i64 0] 83 (0, 0)) := hp_drewN (hp_alloc (heap_alloc_new w1 _) _) nq
    clear r1 r2 r3 r4 r5 g2 g3 g4 g5 x0 x1 x2 y0 y1 y2 z0 z1 z2
    generalize ((w1.alloc (.cells #[.int .u64 4607182418800017408, .bool false, .int .i64 0] 83)).alloc (.cells #[.int .u64 0, .bool true, .int .i64 0] 83)).drewN nq = W0 at *
    have hh0 := hp_below HA1.out hb0
    have hy0 := hp_below HY.out hb0
    have hx0 := hp_below HX.out hb0
    have HB0 := Lib.hid ((((Below.refl w.heap.size w).alloc (Nat.le_refl _) _).alloc (by simp) _).trans ((HB.out.mono (by simp; omega)).trans (hb0.mono (by omega))))
    have HR0 := Lib.hid hh0
    have HY0 := Lib.hid hy0
    have r50 : W0.cell? ⟨r, 5, none⟩ = some (.slice A l.length cc) := hp_cell hh0 5
    have f50 : W0.frozen? ⟨r, 5, none⟩ = false := hp_frozen hh0 5
    have x20 : W0.cell? ⟨w.heap.size, 2, none⟩ = some (.int .u64 v) := hp_cell hx0 2
    have y00 : W0.cell? ⟨w.heap.size + 1, 0, none⟩ = some (.int .u64 0) := hp_cell hy0 0
    have y10 : W0.cell? ⟨w.heap.size + 1, 1, none⟩ = some (.bool false) := hp_cell hy0 1
    have y20 : W0.cell? ⟨w.heap.size + 1, 2, none⟩ = some (.int .i64 0) := hp_cell hy0 2
    have z00 : W0.frozen? ⟨w.heap.size + 1, 0, none⟩ = false := hp_frozen hy0 0
    have z10 : W0.frozen? ⟨w.heap.size + 1, 1, none⟩ = false := hp_frozen hy0 1
    have z20 : W0.frozen? ⟨w.heap.size + 1, 2, none⟩ = false := hp_frozen hy0 2
    have o00 : W0.cell? ⟨w1.heap.size, 0, none⟩ = some (.int .u64 4607182418800017408) := hp_cell ho0 0
    have o10 : W0.cell? ⟨w1.heap.size, 1, none⟩ = some (.bool false) := hp_cell ho0 1
    have o20 : W0.cell? ⟨w1.heap.size, 2, none⟩ = some (.int .i64 0) := hp_cell ho0 2
    have lr := hp_lt hh0
    have lx := hp_lt hx0
    have ly := hp_lt hy0
    have lo := hp_lt ho0
    have HO0 := Lib.hid ho0
    have HNE := Lib.hid (show r ≠ w.heap.size + 1 by omega)
    have HNO := Lib.hid (show r ≠ w1.heap.size by omega)
    have HRL := Lib.hid hl
    have HLEN : Hid (l'.length ≤ 4 ∧ ((3 : Int) = 3 → size ≤ 4)) := ⟨by have := HLI.out; have := of_decide_eq_false HP1.out; have := H0.out.2 trivial; omega, fun _ => H0.out.2 trivial⟩
    clear hb0 ho0 hh0 hy0 hx0 l1 l2 l3
    go_region_law (first | (refine step_append_vals (ok := ok) rfl (.tmp 122) (.tmp 126) rfl W0.heap.size (some ⟨_, 0, none⟩) 0 [] rfl (row_at0 (by first | exact (congrArg _ (by simp)).trans (heap_alloc_new _ _) | exact hp_drew ((congrArg _ (by simp)).trans (heap_alloc_new _ _)) | exact hp_alloc ((congrArg _ (by simp)).trans (heap_alloc_new _ _)) _ | exact hp_drew (hp_alloc ((congrArg _ (by simp)).trans (heap_alloc_new _ _)) _)) (by first | omega | (simp; done) | (simp; omega))) A cc l rfl HQ.out.2.1 (vals_below HQ.out.2.2 (HB0.out.trans (Below.mono (B' := w.heap.size) (by (repeat (with_reducible first | (refine bl_alloc ?_ (by first | omega | (simp; done) | (simp; omega)) _) | apply bl_drewN | apply Below.drew)); exact Below.refl _ _ : Below W0.heap.size W0 _) HB0.out.size))) (by simp; omega) (by first | omega | (simp; done) | (simp; omega)) l (List.nil_append l) ?_; intro A3 c3 w3 hr3 hg3; have hb3 : Below W0.heap.size W0 w3 := Below.grown (by (repeat (with_reducible first | (refine bl_alloc ?_ (by first | omega | (simp; done) | (simp; omega)) _) | apply bl_drewN | apply Below.drew)); exact Below.refl _ _ : Below W0.heap.size W0 _) hg3 (by first | omega | (simp; done) | (simp; omega)) (fun k hk => by simp [blk] at hk; omega); have KP := Lib.hid (fun j hj hr => hg3.block j hj hr); have ROW := Lib.hid hr3; have HB3 := Lib.hid hb3; have r53 := (hb3.cell (p := ⟨r, 5, none⟩) lr).trans r50; have f53 := (hb3.frozen (p := ⟨r, 5, none⟩) lr).trans f50; have x23 := (hb3.cell (p := ⟨w.heap.size, 2, none⟩) lx).trans x20; have lr3 := Nat.lt_of_lt_of_le lr hb3.size; have lx3 := Nat.lt_of_lt_of_le lx hb3.size; clear hr3 hg3 hb3) | (refine step_append_vals (ok := fun _ => True) rfl (.tmp 127) (.tmp 130) rfl W0.heap.size A3 c3 l rfl (row_below ROW.out (by (repeat (with_reducible first | (refine bl_alloc ?_ (by first | omega | (simp; done) | (simp; omega)) _) | apply bl_drewN | apply Below.drew)); exact Below.refl _ _)) (some ⟨_, 0, none⟩) 1 [v] rfl (fun h => by cases h) (vals_at1 hv (by first | first | exact (congrArg _ (by simp)).trans (heap_alloc_new _ _) | exact hp_drew ((congrArg _ (by simp)).trans (heap_alloc_new _ _)) | exact hp_alloc ((congrArg _ (by simp)).trans (heap_alloc_new _ _)) _ | exact hp_drew (hp_alloc ((congrArg _ (by simp)).trans (heap_alloc_new _ _)) _) | exact (KP.out _ (by first | (simp; done) | (simp; omega)) (by simp [blk])).trans (by first | exact (congrArg _ (by simp)).trans (heap_alloc_new _ _) | exact hp_drew ((congrArg _ (by simp)).trans (heap_alloc_new _ _)) | exact hp_alloc ((congrArg _ (by simp)).trans (heap_alloc_new _ _)) _ | exact hp_drew (hp_alloc ((congrArg _ (by simp)).trans (heap_alloc_new _ _)) _)) | exact hp_drew ((KP.out _ (by first | (simp; done) | (simp; omega)) (by simp [blk])).trans (by first | exact (congrArg _ (by simp)).trans (heap_alloc_new _ _) | exact hp_drew ((congrArg _ (by simp)).trans (heap_alloc_new _ _)) | exact hp_alloc ((congrArg _ (by simp)).trans (heap_alloc_new _ _)) _ | exact hp_drew (hp_alloc ((congrArg _ (by simp)).trans (heap_alloc_new _ _)) _))))) (by simp; omega) (by have := HB3.out.size; first | omega | (simp; omega)) l' HI.out ?_; intro A5 c5 w5 hr5 hg5; have hb5 : Below W0.heap.size W0 w5 := Below.grown (by (repeat (with_reducible first | (refine bl_alloc ?_ (by have := HB3.out.size; first | omega | (simp; done) | (simp; omega)) _) | apply bl_drewN | apply Below.drew)); exact HB3.out : Below W0.heap.size W0 _) hg5 (by have := HB3.out.size; first | omega | (simp; omega)) (fun k hk => (row_lt ROW.out k hk).1); have ROW5 := Lib.hid hr5; have HB5 := Lib.hid hb5; have r55 := (hb5.cell (p := ⟨r, 5, none⟩) lr).trans r50; have f55 := (hb5.frozen (p := ⟨r, 5, none⟩) lr).trans f50; have y05 := (hb5.cell (p := ⟨w.heap.size + 1, 0, none⟩) ly).trans y00; have y15 := (hb5.cell (p := ⟨w.heap.size + 1, 1, none⟩) ly).trans y10; have y25 := (hb5.cell (p := ⟨w.heap.size + 1, 2, none⟩) ly).trans y20; have z05 := (hb5.frozen (p := ⟨w.heap.size + 1, 0, none⟩) ly).trans z00; have z15 := (hb5.frozen (p := ⟨w.heap.size + 1, 1, none⟩) ly).trans z10; have z25 := (hb5.frozen (p := ⟨w.heap.size + 1, 2, none⟩) ly).trans z20; have o05 := (hb5.cell (p := ⟨w1.heap.size, 0, none⟩) lo).trans o00; have o15 := (hb5.cell (p := ⟨w1.heap.size, 1, none⟩) lo).trans o10; have o25 := (hb5.cell (p := ⟨w1.heap.size, 2, none⟩) lo).trans o20; have lr5 := Nat.lt_of_lt_of_le lr hb5.size; have ly5 := Nat.lt_of_lt_of_le ly hb5.size; have lo5 := Nat.lt_of_lt_of_le lo hb5.size; clear hr5 hg5 hb5))
    all_goals
      clear r50 f50 x20 y00 y10 y20 z00 z10 z20 o00 o10 o20 r53 f53 x23 lr3 lx3
      go_wp2_with fail
      go_meet
      case rel =>
      exact enter_fin HF.out HB0.out HR0.out HY0.out HO0.out HNE.out HNO.out ⟨HLEN.out.1, fun _ => HLEN.out.2 trivial⟩ HRL.out ROW5.out HB5.out

end Go.Proofs.Ytbanfaboimachaa
