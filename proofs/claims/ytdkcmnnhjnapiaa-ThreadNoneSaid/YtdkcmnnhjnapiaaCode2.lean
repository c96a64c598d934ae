
/-
  code.Right, Uses, Effect, Word, limit.
-/
import Derived.Test.YtdkcmnnhjnapiaaCode
import Derived.Test.YtdkcmnnhjnapiaaIns
import Derived.Handy
import Derived.LoopTactic
import Derived.Deep.QuietTactic
import Derived.BigQuiet
import Derived.Outline
namespace Go.Proofs.Ytdkcmnnhjnapiaa
open Go.RowKit
set_option linter.unusedSimpArgs false
set_option linter.unusedVariables false

def argB (o : Int) : Bool := (formAt o.toNat).2.1
def valB (o : Int) : Bool := (formAt o.toNat).2.2.1
def popsI (o : Int) : Int := (formAt o.toNat).2.2.2.1
def pushI (o : Int) : Int := (formAt o.toNat).2.2.2.2
def wordL (o : Int) : List UInt8 := (formAt o.toNat).1
def limI (o : Int) : Int := bif o == 2 then 4 else bif o == 3 then 4 else bif o == 4 then 12 else bif o == 5 then 12 else bif o == 6 then 12 else bif o == 7 then 12 else 64
def rightI (x : Ins3) : Bool := decide (x.op < 29) && (argB x.op || x.arg == 0) && (valB x.op || x.val == 0) && decide (0 ≤ x.arg) && decide (x.arg < limI x.op) && rightB x.val
theorem code_as (o : Int) (h0 : 0 ≤ o) (h1 : o ≤ 255) (F : List UInt8 × Bool × Bool × Int × Int) (hF : formAt o.toNat = F) (w : World) : Calls Try.prog 31 #[.int .u8 o] w fun e w' => e = .returned (.agg #[.string ⟨F.1.toArray⟩, .bool F.2.1, .bool F.2.2.1, .int .i64 F.2.2.2.1, .int .i64 F.2.2.2.2]) ∧ Below w.heap.size w w' := by
  subst hF
  exact code_of o h0 h1 w
theorem limit_any (o : Int) (w : World) : Calls Try.prog 32 #[.int .u8 o] w fun e w' => e = .returned (.int .i64 (limI o)) ∧ w = w' := by
  unfold limI
  have hc : (o == 2) = true ∨ ((o == 2) = false ∧ (o == 3) = true) ∨ ((o == 2) = false ∧ (o == 3) = false ∧ (o == 4) = true) ∨ ((o == 2) = false ∧ (o == 3) = false ∧ (o == 4) = false ∧ (o == 5) = true) ∨ ((o == 2) = false ∧ (o == 3) = false ∧ (o == 4) = false ∧ (o == 5) = false ∧ (o == 6) = true) ∨ ((o == 2) = false ∧ (o == 3) = false ∧ (o == 4) = false ∧ (o == 5) = false ∧ (o == 6) = false ∧ ((o == 7) = true ∨ (o == 7) = false)) := by
    cases (o == 2) <;> cases (o == 3) <;> cases (o == 4) <;> cases (o == 5) <;> cases (o == 6) <;> cases (o == 7) <;> simp
  rcases hc with h1 | ⟨h1, h2⟩ | ⟨h1, h2, h3⟩ | ⟨h1, h2, h3, h4⟩ | ⟨h1, h2, h3, h4, h5⟩ | ⟨h1, h2, h3, h4, h5, h6 | h6⟩
  all_goals
    go_enter Try.func32, Try.ntmps32
    go_wp2
    go_ret
    exact ⟨by simp [*], rfl⟩
theorem effect_any (o : Int) (h0 : 0 ≤ o) (h1 : o ≤ 255) (w : World) : Calls Try.prog 39 #[.int .u8 o] w fun e w' => e = .returned (.tuple #[.int .i64 (popsI o), .int .i64 (pushI o)]) ∧ Below w.heap.size w w' := by
  unfold popsI pushI
  obtain ⟨F, hF⟩ : ∃ F, formAt o.toNat = F := ⟨_, rfl⟩
  have HC := Lib.hid (fun w => code_as o h0 h1 F hF w)
  rw [hF]
  clear hF
  obtain ⟨F1, F2, F3, F4, F5⟩ := F
  go_enter Try.func39, Try.ntmps39
  go_wp2_with (go_at_call 31; refine (HC.out _).mono ?_; rintro e w1 ⟨rfl, hb⟩; have HB := Lib.hid hb; clear hb)
  go_quiet (fail)
  go_wp2_with fail
  go_ret2
  exact ⟨rfl, bl_drewN (HB.out.alloc HB.out.size _) _⟩
theorem form_word (o : Int) (h0 : 0 ≤ o) : (wordL o).isEmpty = !decide (o < 29) := by
  unfold wordL formAt
  by_cases h : o < 29
  · have : o.toNat < 29 := by omega
    rw [decide_eq_true h]
    generalize o.toNat = n at *
    revert n
    decide
  · rw [decide_eq_false h, List.getD_eq_getElem?_getD, List.getElem?_eq_none (by show 29 ≤ o.toNat; omega)]
    rfl
set_option maxHeartbeats 4000000 in
theorem codeRight (x : Ins3) (hx : x.ok) (w : World) : Calls Try.prog 19 #[inV x] w fun e w' => e = .returned (.bool (rightI x)) ∧ Below w.heap.size w w' := by
  obtain ⟨⟨h0, h1⟩, _, hv⟩ := hx
  have hw := form_word x.op h0
  obtain ⟨o, ag, v⟩ := x
  unfold rightI argB valB inV
  unfold wordL at hw
  dsimp only at *
  obtain ⟨F, hF⟩ : ∃ F, formAt o.toNat = F := ⟨_, rfl⟩
  have HC := Lib.hid (fun w => code_as o h0 h1 F hF w)
  rw [hF] at hw ⊢
  clear hF
  obtain ⟨F1, F2, F3, F4, F5⟩ := F
  dsimp only at *
  have he := hw
  clear hw
  have hx0 := heap_alloc_new w (.cells #[.int .u8 o, .int .i64 ag, .int .u64 v] 53)
  have HX := Lib.hid hx0
  have HB0 := Lib.hid ((Below.refl w.heap.size w).alloc (Nat.le_refl _) (.cells #[.int .u8 o, .int .i64 ag, .int .u64 v] 53))
  clear hx0
  have hways : (decide (o < 29) = false) ∨ (decide (o < 29) = true ∧ ((F2 = false ∧ (ag != 0) = true) ∨ ((F2 = true ∨ (F2 = false ∧ (ag != 0) = false)) ∧ ((F3 = false ∧ (v != 0) = true) ∨ ((F3 = true ∨ (F3 = false ∧ (v != 0) = false)) ∧ (decide (0 ≤ ag) = false ∨ (decide (0 ≤ ag) = true ∧ (decide (ag < limI o) = false ∨ decide (ag < limI o) = true)))))))) := by
    cases decide (o < 29) <;> cases F2 <;> cases (ag != 0) <;> cases F3 <;> cases (v != 0) <;> cases decide (0 ≤ ag) <;> cases decide (ag < limI o) <;> simp
  rcases hways with d0 | ⟨d0, ⟨rfl, d1⟩ | ⟨d1, ⟨rfl, d2⟩ | ⟨d2, d3 | ⟨d3, d4 | d4⟩⟩⟩⟩
  · rw [d0] at he ⊢
    have he' : F1.isEmpty = true := he
    go_enter Try.func19, Try.ntmps19
    go_wp2_with (go_at_call 31; refine (HC.out _).mono ?_; rintro e w1 ⟨rfl, hb⟩; have HB := Lib.hid (HB0.out.trans (hb.mono HB0.out.size)); have HX1 := hp_below HX.out hb; have x0 : w1.cell? ⟨w.heap.size, 0, none⟩ = some (.int .u8 o) := hp_cell HX1 0; have x1 : w1.cell? ⟨w.heap.size, 1, none⟩ = some (.int .i64 ag) := hp_cell HX1 1; have x2 : w1.cell? ⟨w.heap.size, 2, none⟩ = some (.int .u64 v) := hp_cell HX1 2; have lx := hp_lt HX1; clear hb HX1)
    go_ret
    exact ⟨by simp, HB.out.alloc HB.out.size _⟩
  · rw [d0] at he ⊢
    have he' : F1.isEmpty = false := he
    have e0 : (ag == 0) = false := by simpa [bne] using d1
    go_enter Try.func19, Try.ntmps19
    go_wp2_with (go_at_call 31; refine (HC.out _).mono ?_; rintro e w1 ⟨rfl, hb⟩; have HB := Lib.hid (HB0.out.trans (hb.mono HB0.out.size)); have HX1 := hp_below HX.out hb; have x0 : w1.cell? ⟨w.heap.size, 0, none⟩ = some (.int .u8 o) := hp_cell HX1 0; have x1 : w1.cell? ⟨w.heap.size, 1, none⟩ = some (.int .i64 ag) := hp_cell HX1 1; have x2 : w1.cell? ⟨w.heap.size, 2, none⟩ = some (.int .u64 v) := hp_cell HX1 2; have lx := hp_lt HX1; clear hb HX1)
    go_ret
    exact ⟨by simp [e0], HB.out.alloc HB.out.size _⟩
  · rw [d0] at he ⊢
    have he' : F1.isEmpty = false := he
    have e0 : (v == 0) = false := by simpa [bne] using d2
    rcases d1 with rfl | ⟨rfl, d1⟩
    all_goals
      go_enter Try.func19, Try.ntmps19
      go_wp2_with (go_at_call 31; refine (HC.out _).mono ?_; rintro e w1 ⟨rfl, hb⟩; have HB := Lib.hid (HB0.out.trans (hb.mono HB0.out.size)); have HX1 := hp_below HX.out hb; have x0 : w1.cell? ⟨w.heap.size, 0, none⟩ = some (.int .u8 o) := hp_cell HX1 0; have x1 : w1.cell? ⟨w.heap.size, 1, none⟩ = some (.int .i64 ag) := hp_cell HX1 1; have x2 : w1.cell? ⟨w.heap.size, 2, none⟩ = some (.int .u64 v) := hp_cell HX1 2; have lx := hp_lt HX1; clear hb HX1)
      go_ret
      exact ⟨by simp [e0], HB.out.alloc HB.out.size _⟩
  · rw [d0] at he ⊢
    have he' : F1.isEmpty = false := he
    rcases d1 with rfl | ⟨rfl, d1⟩ <;> rcases d2 with rfl | ⟨rfl, d2⟩
    all_goals
      go_enter Try.func19, Try.ntmps19
      go_wp2_with (go_at_call 31; refine (HC.out _).mono ?_; rintro e w1 ⟨rfl, hb⟩; have HB := Lib.hid (HB0.out.trans (hb.mono HB0.out.size)); have HX1 := hp_below HX.out hb; have x0 : w1.cell? ⟨w.heap.size, 0, none⟩ = some (.int .u8 o) := hp_cell HX1 0; have x1 : w1.cell? ⟨w.heap.size, 1, none⟩ = some (.int .i64 ag) := hp_cell HX1 1; have x2 : w1.cell? ⟨w.heap.size, 2, none⟩ = some (.int .u64 v) := hp_cell HX1 2; have lx := hp_lt HX1; clear hb HX1)
      go_quiet (fail)
      go_wp2_with fail
      go_ret
      exact ⟨by simp [d3], bl_drewN (HB.out.alloc HB.out.size _) _⟩
  · rw [d0] at he ⊢
    have he' : F1.isEmpty = false := he
    rcases d1 with rfl | ⟨rfl, d1⟩ <;> rcases d2 with rfl | ⟨rfl, d2⟩
    all_goals
      go_enter Try.func19, Try.ntmps19
      go_wp2_with (go_at_call 31; refine (HC.out _).mono ?_; rintro e w1 ⟨rfl, hb⟩; have HB := Lib.hid (HB0.out.trans (hb.mono HB0.out.size)); have HX1 := hp_below HX.out hb; have x0 : w1.cell? ⟨w.heap.size, 0, none⟩ = some (.int .u8 o) := hp_cell HX1 0; have x1 : w1.cell? ⟨w.heap.size, 1, none⟩ = some (.int .i64 ag) := hp_cell HX1 1; have x2 : w1.cell? ⟨w.heap.size, 2, none⟩ = some (.int .u64 v) := hp_cell HX1 2; have lx := hp_lt HX1; clear hb HX1)
      go_quiet ((go_at_call 32; exact Calls.quiet_of_same ((limit_any o _).mono (fun _ _ h => ⟨h.1, h.2.symm⟩))))
      go_wp2_with fail
      go_ret
      exact ⟨by simp [d3, d4], bl_drewN (HB.out.alloc HB.out.size _) _⟩
  · rw [d0] at he ⊢
    have he' : F1.isEmpty = false := he
    have q1 : (F2 || ag == 0) = true := by
      rcases d1 with rfl | ⟨rfl, d1⟩
      · rfl
      · simpa [bne] using d1
    have q2 : (F3 || v == 0) = true := by
      rcases d2 with rfl | ⟨rfl, d2⟩
      · simp
      · simpa [bne] using d2
    have Q1 := Lib.hid q1
    have Q2 := Lib.hid q2
    clear q1 q2
    rcases d1 with rfl | ⟨rfl, d1⟩ <;> rcases d2 with rfl | ⟨rfl, d2⟩
    all_goals
      go_enter Try.func19, Try.ntmps19
      go_wp2_with (go_at_call 31; refine (HC.out _).mono ?_; rintro e w1 ⟨rfl, hb⟩; have HB := Lib.hid (HB0.out.trans (hb.mono HB0.out.size)); have HX1 := hp_below HX.out hb; have x0 : w1.cell? ⟨w.heap.size, 0, none⟩ = some (.int .u8 o) := hp_cell HX1 0; have x1 : w1.cell? ⟨w.heap.size, 1, none⟩ = some (.int .i64 ag) := hp_cell HX1 1; have x2 : w1.cell? ⟨w.heap.size, 2, none⟩ = some (.int .u64 v) := hp_cell HX1 2; have lx := hp_lt HX1; clear hb HX1)
      go_quiet (first | (go_at_call 32; exact Calls.quiet_of_same ((limit_any o _).mono (fun _ _ h => ⟨h.1, h.2.symm⟩))) | (go_at_call 33; exact Calls.quiet_of_same ((right_any v hv _).mono (fun _ _ h => ⟨h.1, h.2.symm⟩))))
      go_wp2_with fail
      go_ret
      exact ⟨by rw [Q1.out, Q2.out, d3, d4]; simp, bl_drewN (HB.out.alloc HB.out.size _) _⟩
end Go.Proofs.Ytdkcmnnhjnapiaa
