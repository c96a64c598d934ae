
/-
  spec: here.
-/
import Derived.Test.YtdkcmnnhjnapiaaSp3
import Derived.StillTailTactics
import Derived.BigQuiet
namespace Go.Proofs.Ytdkcmnnhjnapiaa
open Go.RowKit Go.ChangeShapes Go.WideShapes
set_option linter.unusedSimpArgs false
set_option linter.unusedVariables false

theorem still_of_quiet {P : Program} {ops : Array Oper} {w : World} {Q : Act → Prop} : ∀ (l : List Oper) (a : Act), wpQuiet P ops (fun w' => w' = w) Q l a → wpStill P ops w Q l a
  | [], _, h => h
  | o :: l, a, h => by
    unfold wpQuiet at h
    unfold wpStill
    split at h
    · rename_i hw
      rw [if_pos hw]
      obtain ⟨v, h1, h2⟩ := h
      have h1 := h1 w rfl
      have h3 := still_of_quiet l _ h2
      unfold Oper.quietAt at h1
      unfold Oper.still
      generalize (execOp a.eval o).run P w = r at h1 ⊢
      match r, h1 with
      | .ok (.value u) w', h1 => obtain ⟨rfl, rfl⟩ := h1; exact ⟨rfl, h3⟩
      | .ok .skip w', h1 => obtain ⟨rfl, rfl⟩ := h1; exact ⟨rfl, h3⟩
      | .ok (.enter f args) w', h1 => obtain ⟨rfl, hc⟩ := h1; exact ⟨rfl, v, hc, h3⟩
    · rename_i hw
      rw [if_neg hw]
      exact still_of_quiet l _ h
/-- A region whose first n operations only read, and whose rest stands in one order. -/
theorem quiet_tail {id : Nat} {P : Program} {Q : Exit → Act → World → Prop} {a : Act} {w : World} {l : List Oper} (n : Nat) (hm : P.follows .mixedOrders = true) (hB : Region.lexTailB .any l.toArray n = true)
    (h : wpQuiet P l.toArray (fun w' => w' = w.drew) (fun a' => wpList P l.toArray Q (l.drop n) a' w.drew) (l.take n) a) : (Code.region id l.toArray true).wp P Q a w :=
  wp_region_still_tail n hm hB (still_of_quiet (w := w.drew) _ _ h)
def hereB (l : List Ins3) (pc : Int) : Bool := decide (0 ≤ pc) && decide (pc < l.length) && rightI (xn l pc.toNat)
def hereE (b : Bool) (x : Ins3) : Ending := if b then .returned (inV x) else .panicked (stopP 3)
/-- The instructions stand in a foreign block. -/
def InsF (F : Nat → Prop) (w : World) (A : Option Addr) (l : List Ins3) : Prop := InssAt w A l ∧ ∀ ad, A = some ad → l ≠ [] → F ad.block
theorem insF_fr {F : Nat → Prop} {w w1 : World} {A : Option Addr} {l : List Ins3} (h : InsF F w A l) (hf : Fr F w w1) : InsF F w1 A l := by
  refine ⟨⟨h.1.1, fun j x hj => ?_⟩, h.2⟩
  obtain ⟨ad, e, hok, h1, h2, h3⟩ := h.1.2 j x hj
  have hb := h.2 ad e (by rintro rfl; simp at hj)
  have key : ∀ (p : Addr) (u : Value), p.block = ad.block → w.cell? p = some u → w1.cell? p = some u := fun p u hp hc => (World.cell?_of_block (by rw [hp]; exact hf.block _ hb)).trans hc
  exact ⟨ad, e, hok, key _ _ (by unfold Addr.add; split <;> rfl) h1, key _ _ (by unfold Addr.add; split <;> rfl) h2, key _ _ (by unfold Addr.add; split <;> rfl) h3⟩
theorem insF_below {F : Nat → Prop} {w w1 : World} {A : Option Addr} {l : List Ins3} (h : InsF F w A l) (hb : Below w.heap.size w w1) : InsF F w1 A l := ⟨inss_below h.1 hb, h.2⟩
theorem insF_of {F : Nat → Prop} {w : World} {A : Option Addr} {l : List Ins3} (h : InssAt w A l) (hF : ∀ k, k < w.heap.size → F k) : InsF F w A l := by
  refine ⟨h, fun ad e hl => hF _ ?_⟩
  cases l with
  | nil => exact absurd rfl hl
  | cons x l =>
    obtain ⟨ad', e', hx⟩ := h.2 0 x rfl
    rw [e] at e'
    obtain rfl := Option.some.inj e'
    have := inAt_lt hx
    have e2 : (ad.add (0 * 3)).block = ad.block := by unfold Addr.add; split <;> rfl
    omega
theorem insF_more {F F' : Nat → Prop} {w : World} {A : Option Addr} {l : List Ins3} (h : InsF F w A l) (hs : ∀ k, F k → F' k) : InsF F' w A l := ⟨h.1, fun ad e hl => hs _ (h.2 ad e hl)⟩
section
variable {F : Nat → Prop} {w : World} {g : Nat} {T : TypeId} {X : List Value} {I : Value} {s : St} {hp : List Int} {p : Pl}
set_option maxRecDepth 20000 in
set_option maxHeartbeats 4000000 in
theorem here_no1 (A : Option Addr) (c : Nat) (l : List Ins3) (hpc : ¬ 0 ≤ s.pc) (w : World) (h : WK F w g T X (.slice A l.length c) s hp p) : Calls Try.prog 45 #[.pointer (some ⟨g, 0, none⟩)] w fun e w' => e = .panicked (stopP 3) ∧ Below w.heap.size w w' := by
  have HX := Lib.hid h
  obtain ⟨y0, y1, _⟩ := h.at
  have lp := h.lt
  have d : decide (s.pc ≥ 0) = false := decide_eq_false hpc
  have d' : decide (0 ≤ s.pc) = false := d
  clear h hpc
  go_enter Try.func45, Try.ntmps45
  go_wp2_with fail
  have KA := Lib.hid (HX.out.alloc (.cells #[.int .u8 0, .int .i64 0, .int .u64 0] 53))
  have BA := Lib.hid ((Below.refl w.heap.size w).alloc (Nat.le_refl _) (.cells #[.int .u8 0, .int .i64 0, .int .u64 0] 53))
  have RA := Lib.hid (heap_alloc_new w (.cells #[.int .u8 0, .int .i64 0, .int .u64 0] 53))
  generalize (w.alloc (.cells #[.int .u8 0, .int .i64 0, .int .u64 0] 53)) = w1 at KA BA RA ⊢
  have h1 := KA.out.at.2.1
  have h2 := KA.out.at.1
  refine quiet_tail 19 (by kernel_rfl) (by kernel_rfl) ?_
  simp only [List.take_succ_cons, List.take_zero, List.drop_succ_cons, List.drop_zero]
  repeat (go_big_quiet_step (fail))
  refine wpQuiet_nil ?_
  go_wp2_with (go_at_call 51; refine (need_no _ _).mono ?_; rintro e w' ⟨rfl, rfl⟩)
  exact ⟨rfl, rfl, BA.out.drew⟩
set_option maxRecDepth 20000 in
set_option maxHeartbeats 4000000 in
theorem here_no2 (A : Option Addr) (c : Nat) (l : List Ins3) (hpc : 0 ≤ s.pc) (hpl : ¬ s.pc < (l.length : Int)) (w : World) (h : WK F w g T X (.slice A l.length c) s hp p) : Calls Try.prog 45 #[.pointer (some ⟨g, 0, none⟩)] w fun e w' => e = .panicked (stopP 3) ∧ Below w.heap.size w w' := by
  have HX := Lib.hid h
  obtain ⟨y0, y1, _⟩ := h.at
  have lp := h.lt
  have d : decide (s.pc ≥ 0) = true := decide_eq_true hpc
  have d' : decide (0 ≤ s.pc) = true := d
  have d2 : decide (s.pc < (l.length : Int)) = false := decide_eq_false hpl
  clear h hpc hpl
  go_enter Try.func45, Try.ntmps45
  go_wp2_with fail
  have KA := Lib.hid (HX.out.alloc (.cells #[.int .u8 0, .int .i64 0, .int .u64 0] 53))
  have BA := Lib.hid ((Below.refl w.heap.size w).alloc (Nat.le_refl _) (.cells #[.int .u8 0, .int .i64 0, .int .u64 0] 53))
  have RA := Lib.hid (heap_alloc_new w (.cells #[.int .u8 0, .int .i64 0, .int .u64 0] 53))
  generalize (w.alloc (.cells #[.int .u8 0, .int .i64 0, .int .u64 0] 53)) = w1 at KA BA RA ⊢
  have h1 := KA.out.at.2.1
  have h2 := KA.out.at.1
  refine quiet_tail 19 (by kernel_rfl) (by kernel_rfl) ?_
  simp only [List.take_succ_cons, List.take_zero, List.drop_succ_cons, List.drop_zero]
  repeat (go_big_quiet_step (fail))
  refine wpQuiet_nil ?_
  go_wp2_with (go_at_call 51; refine (need_no _ _).mono ?_; rintro e w' ⟨rfl, rfl⟩)
  exact ⟨rfl, rfl, BA.out.drew⟩
set_option maxRecDepth 20000 in
set_option maxHeartbeats 4000000 in
theorem here_in (A : Option Addr) (c : Nat) (l : List Ins3) (j : Nat) (hpc : s.pc = (j : Int)) (hpl : j < l.length) (hlc : l.length ≤ c) (w : World) (h : WK F w g T X (.slice A l.length c) s hp p) (hi : InssAt w A l) : Calls Try.prog 45 #[.pointer (some ⟨g, 0, none⟩)] w fun e w' => e = hereE (rightI (xn l j)) (xn l j) ∧ Below w.heap.size w w' := by
  have HX := Lib.hid h
  obtain ⟨y0, y1, _⟩ := h.at
  have lp := h.lt
  rw [hpc] at y1
  have HP := Lib.hid hpc
  have d : decide ((j : Int) ≥ 0) = true := decide_eq_true (by omega)
  have d' : decide (0 ≤ (j : Int)) = true := d
  have d2 : decide ((j : Int) < (l.length : Int)) = true := decide_eq_true (by omega)
  have d3 : (j : Int) < (l.length : Int) := by omega
  have d4 : (0 : Int) ≤ (j : Int) := by omega
  have HI := Lib.hid hi
  obtain ⟨ad, rfl, _⟩ := xn_at hi hpl
  have HJ := Lib.hid hpl
  obtain ⟨x, hx⟩ : ∃ x, xn l j = x := ⟨_, rfl⟩
  rw [hx]
  obtain ⟨op, ag, v⟩ := x
  have HXN := Lib.hid hx
  clear hx
  clear h hpc hpl hi
  go_enter Try.func45, Try.ntmps45
  go_wp2_with fail
  have KA := Lib.hid (HX.out.alloc (.cells #[.int .u8 0, .int .i64 0, .int .u64 0] 53))
  have BA := Lib.hid ((Below.refl w.heap.size w).alloc (Nat.le_refl _) (.cells #[.int .u8 0, .int .i64 0, .int .u64 0] 53))
  have RA := Lib.hid (heap_alloc_new w (.cells #[.int .u8 0, .int .i64 0, .int .u64 0] 53))
  generalize (w.alloc (.cells #[.int .u8 0, .int .i64 0, .int .u64 0] 53)) = w1 at KA BA RA ⊢
  have h1 := KA.out.at.2.1
  have h2 := KA.out.at.1
  rw [HP.out] at h1
  have lr := hp_lt RA.out
  refine quiet_tail 19 (by kernel_rfl) (by kernel_rfl) ?_
  simp only [List.take_succ_cons, List.take_zero, List.drop_succ_cons, List.drop_zero]
  repeat (go_big_quiet_step (fail))
  refine wpQuiet_nil ?_
  go_wp2_with (go_at_call 51; refine (need_yes _ _).mono ?_; rintro e w' ⟨rfl, rfl⟩)
  have K2 := Lib.hid KA.out.drew
  have B2 := Lib.hid BA.out.drew
  have R2 := Lib.hid (show w1.drew.heap[w.heap.size]? = _ from RA.out)
  generalize w1.drew = w2 at K2 B2 R2 ⊢
  clear KA BA RA h1 h2 lr y0 y1
  have h1 := K2.out.at.2.1
  have h2 := K2.out.at.1
  rw [HP.out] at h1
  have hI2 := inss_below HI.out B2.out
  have hI3 := xn_some hI2 HJ.out
  rw [HXN.out] at hI3
  obtain ⟨hok, a0, a1, a2⟩ := hI3
  have HOK := Lib.hid hok
  have la : (ad.add (j * 3)).block < w2.heap.size := inAt_lt (xn_some hI2 HJ.out)
  have la' : ad.block < w2.heap.size := by
    have e : (ad.add (j * 3)).block = ad.block := by unfold Addr.add; split <;> rfl
    omega
  have lg2 := K2.out.lt
  clear hI2 hok
  dsimp only at a0 a1 a2
  have hl2 := hp_lt R2.out
  go_region
  have X3 := Lib.hid (show (w2.alloc (.cells #[.int .u8 op, .int .i64 ag, .int .u64 v] 53)).drew.heap[w2.heap.size]? = _ from heap_alloc_new w2 (.cells #[.int .u8 op, .int .i64 ag, .int .u64 v] 53))
  have R3 := Lib.hid (show (w2.alloc (.cells #[.int .u8 op, .int .i64 ag, .int .u64 v] 53)).drew.heap[w.heap.size]? = _ from hp_alloc R2.out (.cells #[.int .u8 op, .int .i64 ag, .int .u64 v] 53))
  have B3 := Lib.hid (B2.out.alloc B2.out.size (.cells #[.int .u8 op, .int .i64 ag, .int .u64 v] 53)).drew
  have N3 : w.heap.size ≠ w2.heap.size := by omega
  have N3' : w2.heap.size ≠ w.heap.size := by omega
  generalize (w2.alloc (.cells #[.int .u8 op, .int .i64 ag, .int .u64 v] 53)).drew = w3 at X3 R3 B3 ⊢
  have x0 : w3.cell? ⟨w2.heap.size, 0, none⟩ = some (.int .u8 op) := hp_cell X3.out 0
  have x1 : w3.cell? ⟨w2.heap.size, 1, none⟩ = some (.int .i64 ag) := hp_cell X3.out 1
  have x2 : w3.cell? ⟨w2.heap.size, 2, none⟩ = some (.int .u64 v) := hp_cell X3.out 2
  have HC := Lib.hid (fun w => codeRight ⟨op, ag, v⟩ HOK.out w)
  unfold inV at HC
  clear a0 a1 a2 la la' lg2 hl2 h1 h2 K2 B2 R2
  obtain hr | hr : rightI ⟨op, ag, v⟩ = true ∨ rightI ⟨op, ag, v⟩ = false := by cases rightI ⟨op, ag, v⟩ <;> simp
  · have HR := Lib.hid hr
    clear hr
    go_wp2_with (first | (go_at_call 19; refine (HC.out _).mono ?_; rintro e w4 ⟨rfl, hb4⟩; rw [HR.out]; have B4 := Lib.hid (B3.out.trans (hb4.mono B3.out.size)); have X4 := Lib.hid (hp_below X3.out hb4); have R4 := Lib.hid (hp_below R3.out hb4); have x0' : w4.cell? ⟨w2.heap.size, 0, none⟩ = some (.int .u8 op) := hp_cell X4.out 0; have x1' : w4.cell? ⟨w2.heap.size, 1, none⟩ = some (.int .i64 ag) := hp_cell X4.out 1; have x2' : w4.cell? ⟨w2.heap.size, 2, none⟩ = some (.int .u64 v) := hp_cell X4.out 2; have r0 : w4.cell? ⟨w.heap.size, 0, none⟩ = some (.int .u8 0) := hp_cell R4.out 0; have r1 : w4.cell? ⟨w.heap.size, 1, none⟩ = some (.int .i64 0) := hp_cell R4.out 1; have r2 : w4.cell? ⟨w.heap.size, 2, none⟩ = some (.int .u64 0) := hp_cell R4.out 2; have z0 := hp_frozen R4.out 0; have z1 := hp_frozen R4.out 1; have z2 := hp_frozen R4.out 2; have lr4 := hp_lt R4.out; have lx4 := hp_lt X4.out; clear hb4) | (go_at_call 51; refine (need_yes _ _).mono ?_; rintro e w' ⟨rfl, rfl⟩))
    refine bodyPost_ret (by simp [results, Try.results45, go_sem, r0, r1, r2]; try rfl) rfl ?_
    exact ⟨by rw [HR.out]; rfl, bl_new (bl_new (bl_new B4.out (by simp) _) (by simp) _) (by simp) _⟩
  · have HR := Lib.hid hr
    clear hr
    go_wp2_with (first | (go_at_call 19; refine (HC.out _).mono ?_; rintro e w4 ⟨rfl, hb4⟩; rw [HR.out]; have B4 := Lib.hid (B3.out.trans (hb4.mono B3.out.size)); have X4 := Lib.hid (hp_below X3.out hb4); have R4 := Lib.hid (hp_below R3.out hb4); have x0' : w4.cell? ⟨w2.heap.size, 0, none⟩ = some (.int .u8 op) := hp_cell X4.out 0; have x1' : w4.cell? ⟨w2.heap.size, 1, none⟩ = some (.int .i64 ag) := hp_cell X4.out 1; have x2' : w4.cell? ⟨w2.heap.size, 2, none⟩ = some (.int .u64 v) := hp_cell X4.out 2; have r0 : w4.cell? ⟨w.heap.size, 0, none⟩ = some (.int .u8 0) := hp_cell R4.out 0; have r1 : w4.cell? ⟨w.heap.size, 1, none⟩ = some (.int .i64 0) := hp_cell R4.out 1; have r2 : w4.cell? ⟨w.heap.size, 2, none⟩ = some (.int .u64 0) := hp_cell R4.out 2; have z0 := hp_frozen R4.out 0; have z1 := hp_frozen R4.out 1; have z2 := hp_frozen R4.out 2; have lr4 := hp_lt R4.out; have lx4 := hp_lt X4.out; clear hb4) | (go_at_call 51; refine (need_no _ _).mono ?_; rintro e w' ⟨rfl, rfl⟩))
    exact ⟨rfl, by rw [HR.out]; rfl, B4.out⟩
set_option maxHeartbeats 4000000 in
/-- The instruction that stands there, or it is given up. -/
theorem here_sp (A : Option Addr) (c : Nat) (l : List Ins3) (hlc : l.length ≤ c) (w : World) (h : WK F w g T X (.slice A l.length c) s hp p) (hi : InssAt w A l) : Calls Try.prog 45 #[.pointer (some ⟨g, 0, none⟩)] w fun e w' => e = hereE (hereB l s.pc) (xn l s.pc.toNat) ∧ Below w.heap.size w w' := by
  unfold hereB
  by_cases h0 : 0 ≤ s.pc
  · by_cases h1 : s.pc < (l.length : Int)
    · rw [decide_eq_true h0, decide_eq_true h1, Bool.true_and, Bool.true_and]
      exact here_in A c l s.pc.toNat (by omega) (by omega) hlc w h hi
    · rw [decide_eq_true h0, decide_eq_false h1, Bool.true_and, Bool.false_and]
      exact here_no2 A c l h0 h1 w h
  · rw [decide_eq_false h0, Bool.false_and, Bool.false_and]
    exact here_no1 A c l h0 w h
end
end Go.Proofs.Ytdkcmnnhjnapiaa
