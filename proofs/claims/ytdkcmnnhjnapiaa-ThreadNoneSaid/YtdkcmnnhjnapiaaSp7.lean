
/-
  spec: copied; clones as rows.
-/
import Derived.Test.YtdkcmnnhjnapiaaSp4
import Derived.Deep.RegionWith
namespace Go.Proofs.Ytdkcmnnhjnapiaa
open Go.RowKit Go.ChangeShapes Go.WideShapes
set_option linter.unusedSimpArgs false
set_option linter.unusedVariables false

def stC (s : St) (A1 : Option Addr) (c1 : Nat) (A2 : Option Addr) (c2 : Nat) : Array Value :=
  #[.int .i64 s.pc, .slice A1 s.stk.length c1, .int .u64 s.la, .int .u64 s.lb, .int .u64 s.lc, .int .u64 s.ld, .slice A2 s.out.length c2]
def stV (s : St) (A1 : Option Addr) (c1 : Nat) (A2 : Option Addr) (c2 : Nat) : Value := .agg (stC s A1 c1 A2 c2)
def CloneRow (l : List Int) (w : World) (e : Ending) (w' : World) : Prop := ∃ A' c', e = .returned (.slice A' l.length c') ∧ RowAt w' w.heap.size A' c' l ∧ Below w.heap.size w w'
/-- A slice's values, wherever they stand. -/
def VCells (w : World) (A : Option Addr) (l : List Int) : Prop := (∀ v ∈ l, W64 v) ∧ (A = none → l = []) ∧ ∀ b, A = some b → ∀ (j : Nat) (u : Value), (valsC l)[j]? = some u → w.cell? (b.add j) = some u
theorem vcells_of {ok : Nat → Prop} {w : World} {A : Option Addr} {l : List Int} (h : ValsAt ok w A l) : VCells w A l :=
  ⟨h.1, fun e => vals_none (e ▸ h), fun b e => vals_cell (e ▸ h)⟩
theorem vcells_below {w w1 : World} {A : Option Addr} {l : List Int} (h : VCells w A l) (hb : Below w.heap.size w w1) : VCells w1 A l :=
  ⟨h.1, h.2.1, fun b e j u hj => by
    have hc := h.2.2 b e j u hj
    exact (hb.cell (World.block_lt_of_cell? w _ hc)).trans hc⟩
theorem clone_row (A : Option Addr) (c : Nat) (l : List Int) (h : l.length ≤ c) (h4 : l.length ≤ 1000) (hA : A = none → c = 0) (w : World) (hv : VCells w A l) : Calls Try.prog 38 #[.slice A l.length c] w (CloneRow l w) := by
  have qT : ∀ (w : World) (a : Option Addr) (n c n' c' : Nat), (binOp .eql 38 (.slice a n c) (.slice none n' c')).run Try.prog w = .ok (.bool a.isNone) w := fun w a n c n' c' => Lib.run_eql_slice_nil w _ _ a n c n' c' Try.underlying38
  cases A with
  | none =>
    obtain rfl := hv.2.1 rfl
    obtain rfl := hA rfl
    go_enter Try.func38, Try.ntmps38
    go_wp2
    go_ret
    exact ⟨none, 0, rfl, row_nil _ _, Below.refl _ _⟩
  | some b =>
    obtain ⟨i0, hi, hz0, hz1, hz2⟩ := info_parts Val_info
    have HI := Lib.hid hi
    have HZ0 := Lib.hid hz0
    have HZ1 := Lib.hid hz1
    have HZ2 := Lib.hid hz2
    have HV := Lib.hid hv
    clear hi hz0 hz1 hz2 hv hA
    go_enter Try.func38, Try.ntmps38
    go_wp2_with (at_builtin; refine wpList_append_own _ rfl (.tmp 5) (.tmp 6) 38 rfl w.heap.size 23 i0 (.int .u64 0) 1 8 Try.underlying38 HI.out HZ0.out HZ1.out HZ2.out rfl (by decide) (.slice (some ⟨w.heap.size, 0, none⟩) 0 0) 0 [] rfl (World.ownsRow_made w #[] 0 (Nat.le_refl _) (Nat.zero_le _) rfl) b l.length c (valsC l) rfl (by rw [valsC_len, Nat.mul_one]) (fun j u hj => (vcells_below HV.out ((Below.refl _ _).alloc (Nat.le_refl _) _)).2.2 b rfl j u hj) (valsC_one l) (by unfold maxLen; omega) (by omega) (by simp) ?_; intro v' w1 hown hgrow hnil; have HO := Lib.hid hown; have HG := Lib.hid hgrow; clear hown hgrow hnil)
    go_ret
    have hown := HO.out
    rw [Nat.zero_add, List.nil_append] at hown
    obtain ⟨A, c1, rfl, hrow⟩ := row_of (l := l) hown HV.out.1
    exact ⟨A, c1, rfl, hrow, ((Below.refl _ _).alloc (Nat.le_refl _) _).grown HG.out (by simp) (fun k hk => by simp [Value.ownBlock] at hk; omega)⟩
/-- A list that is read: a slice's values, and its bounds. -/
structure Src (w : World) (A : Option Addr) (c : Nat) (l : List Int) : Prop where
  vals : VCells w A l
  cap : l.length ≤ c
  nil : A = none → c = 0
  len : l.length ≤ 1000
theorem Src.below {w w1 : World} {A : Option Addr} {c : Nat} {l : List Int} (h : Src w A c l) (hb : Below w.heap.size w w1) : Src w1 A c l := ⟨vcells_below h.vals hb, h.cap, h.nil, h.len⟩
theorem Src.row {w : World} {base : Nat} {A : Option Addr} {c : Nat} {l : List Int} (h : RowAt w base A c l) (hl : l.length ≤ 1000) : Src w A c l := ⟨vcells_of (row_vals h).1, (row_cap h).1, (row_cap h).2, hl⟩
theorem clone_src (A : Option Addr) (c : Nat) (l : List Int) (w : World) (h : Src w A c l) : Calls Try.prog 38 #[.slice A l.length c] w (CloneRow l w) := clone_row A c l h.cap h.len h.nil w h.vals
theorem row_base {w : World} {base base' c : Nat} {A : Option Addr} {l : List Int} (h : RowAt w base A c l) (hb : base' ≤ base) : RowAt w base' A c l := by
  refine ⟨?_, h.2⟩
  obtain ⟨h1, h2⟩ := h.1
  refine ⟨h1, ?_⟩
  rcases h2 with h2 | ⟨g, cap, cur, hv, hb', r⟩
  · exact .inl h2
  · exact .inr ⟨g, cap, cur, hv, Nat.le_trans hb hb', r⟩
theorem row_ne {w : World} {base c b : Nat} {A : Option Addr} {l : List Int} (h : RowAt w base A c l) (hn : ∀ k, blk A = some k → k ≠ b) (j : Nat) (u : Value) : RowAt (w.setCell ⟨b, j, none⟩ u) base A c l :=
  row_other h (gb_set (gb_refl w (some b)) j u) (fun k hk e => hn k hk (Option.some.inj e))
def CopyPost (s : St) (w : World) (e : Ending) (w' : World) : Prop := ∃ A1 c1 A2 c2, e = .returned (stV s A1 c1 A2 c2) ∧ RowAt w' w.heap.size A1 c1 s.stk ∧ RowAt w' w.heap.size A2 c2 s.out ∧ (∀ k, blk A1 = some k → blk A2 ≠ some k) ∧ Below w.heap.size w w'
set_option maxRecDepth 20000 in
set_option maxHeartbeats 8000000 in
theorem copied_sp (s : St) (A1 : Option Addr) (c1 : Nat) (A2 : Option Addr) (c2 : Nat) (w : World) (h1 : Src w A1 c1 s.stk) (h2 : Src w A2 c2 s.out) : Calls Try.prog 41 #[stV s A1 c1 A2 c2] w (CopyPost s w) := by
  have H1 := Lib.hid h1
  have H2 := Lib.hid h2
  clear h1 h2
  unfold stV stC
  go_enter Try.func41, Try.ntmps41
  go_wp2_with fail
  have hb0 : Below w.heap.size w ((w.alloc (.cells (stC s A1 c1 A2 c2) 41)).alloc (.cells #[.int .i64 0, .slice none 0 0, .int .u64 0, .int .u64 0, .int .u64 0, .int .u64 0, .slice none 0 0] 41)) := ((Below.refl _ _).alloc (Nat.le_refl _) _).alloc (by simp) _
  have G1 := Lib.hid (H1.out.below hb0)
  have G2 := Lib.hid (H2.out.below hb0)
  have B1 := Lib.hid hb0
  have X1 := Lib.hid (show ((w.alloc (.cells (stC s A1 c1 A2 c2) 41)).alloc (.cells #[.int .i64 0, .slice none 0 0, .int .u64 0, .int .u64 0, .int .u64 0, .int .u64 0, .slice none 0 0] 41)).heap[w.heap.size]? = some (.cells (stC s A1 c1 A2 c2) 41 (0, 0)) from hp_alloc (heap_alloc_new w _) _)
  have Y1 := Lib.hid (show ((w.alloc (.cells (stC s A1 c1 A2 c2) 41)).alloc (.cells #[.int .i64 0, .slice none 0 0, .int .u64 0, .int .u64 0, .int .u64 0, .int .u64 0, .slice none 0 0] 41)).heap[w.heap.size + 1]? = some (.cells #[.int .i64 0, .slice none 0 0, .int .u64 0, .int .u64 0, .int .u64 0, .int .u64 0, .slice none 0 0] 41 (0, 0)) from (congrArg _ (by simp)).trans (heap_alloc_new (w.alloc (.cells (stC s A1 c1 A2 c2) 41)) (.cells #[.int .i64 0, .slice none 0 0, .int .u64 0, .int .u64 0, .int .u64 0, .int .u64 0, .slice none 0 0] 41)))
  clear hb0 H1 H2
  unfold stC at G1 G2 B1 X1 Y1
  generalize ((w.alloc _).alloc _) = w1 at G1 G2 B1 X1 Y1 ⊢
  have x1 : w1.cell? ⟨w.heap.size, 1, none⟩ = some (.slice A1 s.stk.length c1) := hp_cell X1.out 1
  have x3 : w1.cell? ⟨w.heap.size, 6, none⟩ = some (.slice A2 s.out.length c2) := hp_cell X1.out 6
  have z1 := hp_frozen X1.out 1
  have z3 := hp_frozen X1.out 6
  have lx := hp_lt X1.out
  go_region_law (first | (go_simp; go_at_call 38; first | ((with_reducible refine (clone_src A2 c2 s.out _ ?hf).mono ?_); (case hf => exact G2.out.below (C1.out)); rintro e u2 ⟨A2', c2', rfl, hr2, hb2⟩; have R2 := Lib.hid hr2; have C2 := Lib.hid hb2; have X2 := Lib.hid (hp_below XA.out hb2); have x1' : u2.cell? ⟨w.heap.size, 1, none⟩ = some (.slice A1 s.stk.length c1) := hp_cell X2.out 1; have x3' : u2.cell? ⟨w.heap.size, 6, none⟩ = some (.slice A2 s.out.length c2) := hp_cell X2.out 6; have z1' := hp_frozen X2.out 1; have z3' := hp_frozen X2.out 6; have lx' := hp_lt X2.out; clear hr2 hb2) | ((with_reducible refine (clone_src A1 c1 s.stk _ ?hf).mono ?_); (case hf => exact G1.out.below ((Below.refl _ _).drew)); rintro e u1 ⟨A1', c1', rfl, hr1, hb1⟩; have R1 := Lib.hid hr1; have C1 := Lib.hid (show Below w1.heap.size w1 u1 from (Below.refl _ _).drew.trans hb1); have XA := Lib.hid (hp_below X1.out C1.out); have x3u : u1.cell? ⟨w.heap.size, 6, none⟩ = some (.slice A2 s.out.length c2) := hp_cell XA.out 6; clear hr1 hb1)))
  all_goals
    have Y2 := Lib.hid (hp_below (hp_below Y1.out C1.out) C2.out)
    have BF := Lib.hid (show Below w.heap.size w ((u2.setCell ⟨w.heap.size, 1, none⟩ (.slice A1' s.stk.length c1')).setCell ⟨w.heap.size, 6, none⟩ (.slice A2' s.out.length c2')) from bl_new (bl_new (B1.out.trans ((C1.out.trans (C2.out.mono C1.out.size)).mono B1.out.size)) (Nat.le_refl _) _) (Nat.le_refl _) _)
    have XF := Lib.hid (hp_put (hp_put X2.out 1 (.slice A1' s.stk.length c1') rfl) 6 (.slice A2' s.out.length c2') rfl)
    have YF := Lib.hid (hp_far (hp_far Y2.out (p := ⟨w.heap.size, 1, none⟩) (by simp) (.slice A1' s.stk.length c1')) (p := ⟨w.heap.size, 6, none⟩) (by simp) (.slice A2' s.out.length c2'))
    have N1 := Lib.hid (show w.heap.size ≤ w1.drew.heap.size from B1.out.size)
    have N2 := Lib.hid (show w.heap.size ≤ u1.heap.size from Nat.le_trans B1.out.size C1.out.size)
    have P1 := Lib.hid (row_far (row_far (row_below (row_base R1.out N1.out) C2.out) X2.out (by decide) 1 (.slice A1' s.stk.length c1')) (hp_put X2.out 1 (.slice A1' s.stk.length c1') rfl) (by decide) 6 (.slice A2' s.out.length c2'))
    have P2 := Lib.hid (row_far (row_far (row_base R2.out N2.out) X2.out (by decide) 1 (.slice A1' s.stk.length c1')) (hp_put X2.out 1 (.slice A1' s.stk.length c1') rfl) (by decide) 6 (.slice A2' s.out.length c2'))
    have D := Lib.hid (show ∀ k, blk A1' = some k → blk A2' ≠ some k from fun k hk e => by
      have a1 := (row_lt R1.out k hk).2
      have a2 := (row_lt R2.out k e).1
      omega)
    clear x1 x3 z1 z3 lx x3u x1' x3' z1' z3' lx'
    generalize ((u2.setCell ⟨w.heap.size, 1, none⟩ (.slice A1' s.stk.length c1')).setCell ⟨w.heap.size, 6, none⟩ (.slice A2' s.out.length c2')) = wF at BF XF YF P1 P2 ⊢
    have f0 : wF.cell? ⟨w.heap.size, 0, none⟩ = some (.int .i64 s.pc) := hp_cell XF.out 0
    have r0 : wF.cell? ⟨w.heap.size + 1, 0, none⟩ = some (.int .i64 0) := hp_cell YF.out 0
    have q0 := hp_frozen YF.out 0
    have f1 : wF.cell? ⟨w.heap.size, 1, none⟩ = some (.slice A1' s.stk.length c1') := hp_cell XF.out 1
    have r1 : wF.cell? ⟨w.heap.size + 1, 1, none⟩ = some (.slice none 0 0) := hp_cell YF.out 1
    have q1 := hp_frozen YF.out 1
    have f2 : wF.cell? ⟨w.heap.size, 2, none⟩ = some (.int .u64 s.la) := hp_cell XF.out 2
    have r2 : wF.cell? ⟨w.heap.size + 1, 2, none⟩ = some (.int .u64 0) := hp_cell YF.out 2
    have q2 := hp_frozen YF.out 2
    have f3 : wF.cell? ⟨w.heap.size, 3, none⟩ = some (.int .u64 s.lb) := hp_cell XF.out 3
    have r3 : wF.cell? ⟨w.heap.size + 1, 3, none⟩ = some (.int .u64 0) := hp_cell YF.out 3
    have q3 := hp_frozen YF.out 3
    have f4 : wF.cell? ⟨w.heap.size, 4, none⟩ = some (.int .u64 s.lc) := hp_cell XF.out 4
    have r4 : wF.cell? ⟨w.heap.size + 1, 4, none⟩ = some (.int .u64 0) := hp_cell YF.out 4
    have q4 := hp_frozen YF.out 4
    have f5 : wF.cell? ⟨w.heap.size, 5, none⟩ = some (.int .u64 s.ld) := hp_cell XF.out 5
    have r5 : wF.cell? ⟨w.heap.size + 1, 5, none⟩ = some (.int .u64 0) := hp_cell YF.out 5
    have q5 := hp_frozen YF.out 5
    have f6 : wF.cell? ⟨w.heap.size, 6, none⟩ = some (.slice A2' s.out.length c2') := hp_cell XF.out 6
    have r6 : wF.cell? ⟨w.heap.size + 1, 6, none⟩ = some (.slice none 0 0) := hp_cell YF.out 6
    have q6 := hp_frozen YF.out 6
    have lF := hp_lt XF.out
    have lY := hp_lt YF.out
    have nF : w.heap.size ≠ w.heap.size + 1 := by omega
    go_wp2
    have M1 : ∀ k, blk A1' = some k → k ≠ w.heap.size + 1 := fun k hk e => by
      have a1 := (row_lt R1.out k hk).1
      have a2 : w1.drew.heap.size = w1.heap.size := rfl
      have a3 := hp_lt Y1.out
      omega
    have M2 : ∀ k, blk A2' = some k → k ≠ w.heap.size + 1 := fun k hk e => by
      have a1 := (row_lt R2.out k hk).1
      have a2 := hp_lt (hp_below Y1.out C1.out)
      omega
    refine bodyPost_ret (by simp [results, Try.results41, go_sem, r0, r1, r2, r3, r4, r5, r6]; try rfl) rfl ?_
    exact ⟨A1', c1', A2', c2', rfl, (row_ne (row_ne (row_ne (row_ne (row_ne (row_ne (row_ne P1.out M1 _ _) M1 _ _) M1 _ _) M1 _ _) M1 _ _) M1 _ _) M1 _ _), (row_ne (row_ne (row_ne (row_ne (row_ne (row_ne (row_ne P2.out M2 _ _) M2 _ _) M2 _ _) M2 _ _) M2 _ _) M2 _ _) M2 _ _), D.out, (bl_new (bl_new (bl_new (bl_new (bl_new (bl_new (bl_new BF.out (by simp) _) (by simp) _) (by simp) _) (by simp) _) (by simp) _) (by simp) _) (by simp) _)⟩
end Go.Proofs.Ytdkcmnnhjnapiaa
