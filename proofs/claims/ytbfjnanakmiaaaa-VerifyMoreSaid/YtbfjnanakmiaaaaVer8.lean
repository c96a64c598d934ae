
/-
  verify.Check's closures over what Regions said.
-/
import Derived.Test.YtbfjnanakmiaaaaVer7
namespace Go.Proofs.Ytbfjnanakmiaaaa
open Go.RowKit Go.ChangeShapes Go.WideShapes
set_option linter.unusedSimpArgs false
set_option linter.unusedVariables false

def misF (ins : List Int) (i : Nat) (op : Int) : Bool := bif varB op || op == 26 then iat ins i == -1 else bif op == 27 || op == 28 then iat ins i != -1 else false
def farF (n : Nat) (ins : List Int) (t : Int) (i : Nat) (op ag : Int) : Bool := bif varB op then decide (ag ≥ t) else bif op == 19 || op == 20 then (bif decide (ag ≥ (n : Int)) then true else iat ins ag.toNat != iat ins i) else false
set_option maxHeartbeats 4000000 in
theorem check2_any (i : Nat) (x : Ins3) (p8 : Nat) (A1 : Option Addr) (c1 : Nat) (ins : List Int) (hi : i < ins.length) (hl : ins.length ≤ 100) (w : World) (hp : w.cell? ⟨p8, 0, none⟩ = some (.slice A1 ins.length c1)) (HI : IntsAt okI w A1 ins) :
    Calls Try.prog 16 #[.int .i64 (i : Int), inV x, .pointer (some ⟨p8, 0, none⟩)] w fun e w' => e = .returned (.bool (misF ins i x.op)) ∧ Below w.heap.size w w' := by
  obtain ⟨op, ag, v⟩ := x
  unfold inV
  dsimp only
  have hb0 : Below w.heap.size w (w.alloc (.cells #[.int .u8 op, .int .i64 ag, .int .u64 v] 34)) := (Below.refl _ _).alloc (Nat.le_refl _) _
  have HB0 := Lib.hid hb0
  have lp := World.block_lt_of_cell? w _ hp
  have hp' : (w.alloc (.cells #[.int .u8 op, .int .i64 ag, .int .u64 v] 34)).cell? ⟨p8, 0, none⟩ = some (.slice A1 ins.length c1) := (hb0.cell (p := ⟨p8, 0, none⟩) lp).trans hp
  cases A1 with
  | none => have := ints_none HI; subst this; simp at hi
  | some b =>
    have hc : (w.alloc (.cells #[.int .u8 op, .int .i64 ag, .int .u64 v] 34)).cell? (b.add i) = some (.int .i64 (iat ins i)) := ints_cell (ints_below HI hb0) i _ (by rw [intsC_get, iat_get hi]; rfl)
    have j1 : (0 : Int) ≤ (i : Int) := by omega
    have j2 : (i : Int) < (ins.length : Int) := by omega
    clear hb0 HI
    obtain ⟨vb, hvb⟩ : ∃ vb, varB op = vb := ⟨_, rfl⟩
    have HV := Lib.hid hvb
    have HF : Hid (misF ins i op = bif vb || op == 26 then iat ins i == -1 else bif op == 27 || op == 28 then iat ins i != -1 else false) := Lib.hid (by unfold misF; rw [hvb])
    rw [HF.out]
    clear hvb
    have hq : vb = true ∨ (vb = false ∧ ((op == 26) = true ∨ ((op == 26) = false ∧ ((op == 27) = true ∨ ((op == 27) = false ∧ ((op == 28) = true ∨ (op == 28) = false)))))) := by
      cases vb <;> cases op == 26 <;> cases op == 27 <;> cases op == 28 <;> simp
    rcases hq with rfl | ⟨rfl, h1 | ⟨h1, h2 | ⟨h2, h3 | h3⟩⟩⟩
    all_goals
      go_enter Try.func16, Try.ntmps16
      go_wp2_with (go_at_call 17; refine (variable_any op _).mono ?_; rintro e w' ⟨rfl, rfl⟩; rw [HV.out])
      go_ret
      exact ⟨by simp [*], HB0.out⟩
set_option maxHeartbeats 4000000 in
theorem check3_any (n : Nat) (t : Int) (i : Nat) (x : Ins3) (hag : 0 ≤ x.arg ∧ x.arg ≤ 255) (p3 p2 p8 : Nat) (A1 A : Option Addr) (c1 c : Nat) (ins : List Int) (hn : ins.length = n) (hi : i < n) (hl : n ≤ 100) (w : World) (hp3 : w.cell? ⟨p3, 0, none⟩ = some (.int .i64 t)) (hp2 : w.cell? ⟨p2, 0, none⟩ = some (.slice A n c)) (hp : w.cell? ⟨p8, 0, none⟩ = some (.slice A1 n c1)) (HI : IntsAt okI w A1 ins) :
    Calls Try.prog 18 #[.int .i64 (i : Int), inV x, .pointer (some ⟨p3, 0, none⟩), .pointer (some ⟨p2, 0, none⟩), .pointer (some ⟨p8, 0, none⟩)] w fun e w' => e = .returned (.bool (farF n ins t i x.op x.arg)) ∧ Below w.heap.size w w' := by
  obtain ⟨op, ag, v⟩ := x
  unfold inV
  dsimp only at *
  have hb0 : Below w.heap.size w (w.alloc (.cells #[.int .u8 op, .int .i64 ag, .int .u64 v] 34)) := (Below.refl _ _).alloc (Nat.le_refl _) _
  have HB0 := Lib.hid hb0
  have hx := heap_alloc_new w (.cells #[.int .u8 op, .int .i64 ag, .int .u64 v] 34)
  obtain ⟨W1, hW1⟩ : ∃ W1, w.alloc (.cells #[.int .u8 op, .int .i64 ag, .int .u64 v] 34) = W1 := ⟨_, rfl⟩
  rw [hW1] at hb0 HB0 hx
  have g3 : W1.cell? ⟨p3, 0, none⟩ = some (.int .i64 t) := (hb0.cell (p := ⟨p3, 0, none⟩) (World.block_lt_of_cell? w _ hp3)).trans hp3
  have g2 : W1.cell? ⟨p2, 0, none⟩ = some (.slice A n c) := (hb0.cell (p := ⟨p2, 0, none⟩) (World.block_lt_of_cell? w _ hp2)).trans hp2
  have g8 : W1.cell? ⟨p8, 0, none⟩ = some (.slice A1 n c1) := (hb0.cell (p := ⟨p8, 0, none⟩) (World.block_lt_of_cell? w _ hp)).trans hp
  have x0 : W1.cell? ⟨w.heap.size, 0, none⟩ = some (.int .u8 op) := hp_cell hx 0
  have x1 : W1.cell? ⟨w.heap.size, 1, none⟩ = some (.int .i64 ag) := hp_cell hx 1
  have hI1 := ints_below HI hb0
  cases A1 with
  | none => have := ints_none HI; subst this; simp at hn; omega
  | some b =>
    have hc : W1.cell? (b.add i) = some (.int .i64 (iat ins i)) := ints_cell hI1 i _ (by rw [intsC_get, iat_get (by omega)]; rfl)
    have HI1 := Lib.hid hI1
    have HN := Lib.hid hn
    have j1 : (0 : Int) ≤ (i : Int) := by omega
    have j2 : (i : Int) < (n : Int) := by omega
    clear hb0 HI hI1 hn hp3 hp2 hp hx
    obtain ⟨vb, hvb⟩ : ∃ vb, varB op = vb := ⟨_, rfl⟩
    have HV := Lib.hid hvb
    have HF : Hid (farF n ins t i op ag = bif vb then decide (ag ≥ t) else bif op == 19 || op == 20 then (bif decide (ag ≥ (n : Int)) then true else iat ins ag.toNat != iat ins i) else false) := Lib.hid (by unfold farF; rw [hvb])
    rw [HF.out]
    clear hvb
    have hq : vb = true ∨ (vb = false ∧ (((op == 19) = true ∨ ((op == 19) = false ∧ (op == 20) = true)) ∨ ((op == 19) = false ∧ (op == 20) = false))) := by
      cases vb <;> cases op == 19 <;> cases op == 20 <;> simp
    rcases hq with rfl | ⟨rfl, h1 | ⟨h1, h2⟩⟩
    · go_enter Try.func18, Try.ntmps18
      go_wp2_with (go_at_call 17; (try rw [hW1]); refine (variable_any op _).mono ?_; rintro e w' ⟨rfl, rfl⟩; rw [HV.out])
      go_ret
      exact ⟨rfl, HB0.out⟩
    · have h19 : (op == 19 || op == 20) = true := by
        rcases h1 with h1 | ⟨h1, h2⟩
        · rw [h1]; rfl
        · rw [h2]; simp
      have H19 := Lib.hid h19
      clear h19
      by_cases ha : ag ≥ (n : Int)
      · have d1 : decide (ag ≥ (n : Int)) = true := decide_eq_true ha
        have d2 : decide ((n : Int) ≤ ag) = true := decide_eq_true ha
        rcases h1 with h1 | ⟨h1, h2⟩
        all_goals
          go_enter Try.func18, Try.ntmps18
          go_wp2_with (go_at_call 17; (try rw [hW1]); refine (variable_any op _).mono ?_; rintro e w' ⟨rfl, rfl⟩; rw [HV.out])
          go_quiet (fail)
          go_wp2_with fail
          go_ret
          exact ⟨by rw [H19.out, d1]; rfl, bl_drewN HB0.out _⟩
      · obtain ⟨k, rfl⟩ : ∃ k : Nat, ag = (k : Int) := ⟨ag.toNat, by omega⟩
        have d1 : decide ((k : Int) ≥ (n : Int)) = false := decide_eq_false ha
        have d2 : decide ((n : Int) ≤ (k : Int)) = false := decide_eq_false ha
        have d3 : decide (n ≤ k) = false := decide_eq_false (by omega)
        have k1 : (k : Int) < (n : Int) := by omega
        have k2 : (0 : Int) ≤ (k : Int) := by omega
        have hck : W1.cell? (b.add k) = some (.int .i64 (iat ins k)) := ints_cell HI1.out k _ (by rw [intsC_get, iat_get (by rw [HN.out]; omega)]; rfl)
        rcases h1 with h1 | ⟨h1, h2⟩
        all_goals
          go_enter Try.func18, Try.ntmps18
          go_wp2_with (go_at_call 17; (try rw [hW1]); refine (variable_any op _).mono ?_; rintro e w' ⟨rfl, rfl⟩; rw [HV.out])
          go_quiet (fail)
          go_wp2_with fail
          go_ret
          exact ⟨by rw [H19.out, d1]; rfl, bl_drewN HB0.out _⟩
    · go_enter Try.func18, Try.ntmps18
      go_wp2_with (go_at_call 17; (try rw [hW1]); refine (variable_any op _).mono ?_; rintro e w' ⟨rfl, rfl⟩; rw [HV.out])
      go_ret
      exact ⟨by rw [h1, h2]; rfl, HB0.out⟩
end Go.Proofs.Ytbfjnanakmiaaaa
