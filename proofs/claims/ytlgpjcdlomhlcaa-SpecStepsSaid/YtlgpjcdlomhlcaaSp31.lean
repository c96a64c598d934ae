
/-
  rowlockref17.Step: Nop, Push, Jump, Pop, IfZero, SetLocal.
-/
import Derived.Test.YtlgpjcdlomhlcaaSp30
namespace Go.Proofs.Ytlgpjcdlomhlcaa
open Go.RowKit Go.ChangeShapes Go.WideShapes
set_option linter.unusedSimpArgs false
set_option linter.unusedVariables false

set_option maxRecDepth 20000 in
set_option maxHeartbeats 8000000 in
theorem refStep_o0 (l : List Ins3) (c : Nat) (A : Option Addr) (hlc : l.length ≤ c) (hll : l.length ≤ 900) (s : St) (hn : s.stk.length ≤ 800) (hro : s.out.length ≤ 800) (A1 : Option Addr) (c1 : Nat) (A2 : Option Addr) (c2 : Nat) (w : World) (h1 : Src w A1 c1 s.stk) (h2 : Src w A2 c2 s.out) (hi : InssAt w A l) (hpc : 0 ≤ s.pc) (hpl : s.pc < (l.length : Int)) (op ag v : Int) (hx : xn l s.pc.toNat = ⟨op, ag, v⟩) (hop : op = 0) (hso : s.ok) (hr : rightI ⟨op, ag, v⟩ = true) (hs : specI op = false) (hfi : fitI op s.stk.length = true) : Calls Try.prog 13 #[.slice A l.length c, stV s A1 c1 A2 c2] w (RPost (effF l.length ⟨op, ag, v⟩ { s with pc := s.pc + 1 }) w) := by
  have HLOC := Lib.hid hso.2
  have HOP := Lib.hid hop
  clear hso hop
  obtain ⟨RR, hRR⟩ : ∃ R, effF l.length ⟨op, ag, v⟩ { s with pc := s.pc + 1 } = R := ⟨_, rfl⟩
  rw [hRR]
  have HRR := Lib.hid hRR
  clear hRR
  have d : decide (s.pc < 0) = false := decide_eq_false (by omega)
  have d2 : decide (s.pc ≥ (l.length : Int)) = false := decide_eq_false (by omega)
  have d3 : decide ((l.length : Int) ≤ s.pc) = false := d2
  have z1 := (Below.refl w.heap.size w).alloc (Nat.le_refl _) (.cells #[.int .i64 s.pc, .slice A1 s.stk.length c1, .int .u64 s.la, .int .u64 s.lb, .int .u64 s.lc, .int .u64 s.ld, .slice A2 s.out.length c2] 28)
  have z2 := z1.alloc z1.size (.cells #[.int .i64 0, .slice none 0 0, .int .u64 0, .int .u64 0, .int .u64 0, .int .u64 0, .slice none 0 0] 28)
  have X1 := Lib.hid (hp_alloc (heap_alloc_new w (.cells #[.int .i64 s.pc, .slice A1 s.stk.length c1, .int .u64 s.la, .int .u64 s.lb, .int .u64 s.lc, .int .u64 s.ld, .slice A2 s.out.length c2] 28)) (.cells #[.int .i64 0, .slice none 0 0, .int .u64 0, .int .u64 0, .int .u64 0, .int .u64 0, .slice none 0 0] 28))
  have Y1 := Lib.hid (show ((w.alloc (.cells #[.int .i64 s.pc, .slice A1 s.stk.length c1, .int .u64 s.la, .int .u64 s.lb, .int .u64 s.lc, .int .u64 s.ld, .slice A2 s.out.length c2] 28)).alloc (.cells #[.int .i64 0, .slice none 0 0, .int .u64 0, .int .u64 0, .int .u64 0, .int .u64 0, .slice none 0 0] 28)).heap[w.heap.size + 1]? = some (.cells #[.int .i64 0, .slice none 0 0, .int .u64 0, .int .u64 0, .int .u64 0, .int .u64 0, .slice none 0 0] 28 (0, 0)) from (congrArg _ (by simp)).trans (heap_alloc_new (w.alloc (.cells #[.int .i64 s.pc, .slice A1 s.stk.length c1, .int .u64 s.la, .int .u64 s.lb, .int .u64 s.lc, .int .u64 s.ld, .slice A2 s.out.length c2] 28)) (.cells #[.int .i64 0, .slice none 0 0, .int .u64 0, .int .u64 0, .int .u64 0, .int .u64 0, .slice none 0 0] 28)))
  have B1 := Lib.hid z2
  have HI := Lib.hid hi
  have G1 := Lib.hid h1
  have G2 := Lib.hid h2
  clear z1 z2 h1 h2 hi
  unfold stV stC
  go_enter Try.func13, Try.ntmps13
  go_upto_region 1 with fail
  generalize World.alloc _ _ = w2 at X1 Y1 B1 ⊢
  obtain ⟨g, hg⟩ : ∃ g, w.heap.size = g := ⟨_, rfl⟩
  obtain ⟨r, hr⟩ : ∃ r, w.heap.size + 1 = r := ⟨_, rfl⟩
  rw [hg] at X1
  rw [hr] at Y1
  rw [hr, hg]
  have gr : g ≠ r := by omega
  have gb : w.heap.size ≤ g := by omega
  have rb : w.heap.size ≤ r := by omega
  have GR := Lib.hid (And.intro gr (And.intro gb rb))
  clear hg hr gr gb rb
  have x0 : w2.cell? ⟨g, 0, none⟩ = some (.int .i64 s.pc) := hp_cell (X1.out) 0; have x1 : w2.cell? ⟨g, 1, none⟩ = some (.slice A1 s.stk.length c1) := hp_cell (X1.out) 1; have x2 : w2.cell? ⟨g, 2, none⟩ = some (.int .u64 s.la) := hp_cell (X1.out) 2; have x3 : w2.cell? ⟨g, 3, none⟩ = some (.int .u64 s.lb) := hp_cell (X1.out) 3; have x4 : w2.cell? ⟨g, 4, none⟩ = some (.int .u64 s.lc) := hp_cell (X1.out) 4; have x5 : w2.cell? ⟨g, 5, none⟩ = some (.int .u64 s.ld) := hp_cell (X1.out) 5; have x6 : w2.cell? ⟨g, 6, none⟩ = some (.slice A2 s.out.length c2) := hp_cell (X1.out) 6; have xl := hp_lt (X1.out)
  have y0 : w2.cell? ⟨r, 0, none⟩ = some (.int .i64 0) := hp_cell (Y1.out) 0; have yz0 := hp_frozen (Y1.out) 0; have y1 : w2.cell? ⟨r, 1, none⟩ = some (.slice none 0 0) := hp_cell (Y1.out) 1; have yz1 := hp_frozen (Y1.out) 1; have y2 : w2.cell? ⟨r, 2, none⟩ = some (.int .u64 0) := hp_cell (Y1.out) 2; have yz2 := hp_frozen (Y1.out) 2; have y3 : w2.cell? ⟨r, 3, none⟩ = some (.int .u64 0) := hp_cell (Y1.out) 3; have yz3 := hp_frozen (Y1.out) 3; have y4 : w2.cell? ⟨r, 4, none⟩ = some (.int .u64 0) := hp_cell (Y1.out) 4; have yz4 := hp_frozen (Y1.out) 4; have y5 : w2.cell? ⟨r, 5, none⟩ = some (.int .u64 0) := hp_cell (Y1.out) 5; have yz5 := hp_frozen (Y1.out) 5; have y6 : w2.cell? ⟨r, 6, none⟩ = some (.slice none 0 0) := hp_cell (Y1.out) 6; have yz6 := hp_frozen (Y1.out) 6; have yl := hp_lt (Y1.out)
  have ne1 := GR.out.1
  have ne2 : r ≠ g := fun e => ne1 e.symm
  obtain ⟨j, hj⟩ : ∃ j : Nat, s.pc = (j : Int) := ⟨s.pc.toNat, by omega⟩
  have hjl : j < l.length := by omega
  have hjn : s.pc.toNat = j := by omega
  rw [hjn] at hx
  have HJ := Lib.hid (And.intro hj hjl)
  rw [hj] at d d2 d3 x0
  have I2 := Lib.hid (inss_below HI.out B1.out)
  obtain ⟨ad, rfl, _⟩ := xn_at I2.out hjl
  have hI3 := xn_some I2.out hjl
  rw [hx] at hI3
  obtain ⟨hok, a0, a1, a2⟩ := hI3
  dsimp only at a0 a1 a2
  have la : (ad.add (j * 3)).block < w2.heap.size := inAt_lt (xn_some I2.out hjl)
  have la' : ad.block < w2.heap.size := by
    have e : (ad.add (j * 3)).block = ad.block := by unfold Addr.add; split <;> rfl
    omega
  have s3 : (j : Int) < (l.length : Int) := by omega
  have s4 : (0 : Int) ≤ (j : Int) := by omega
  have HOK := Lib.hid hok
  have HC := Lib.hid (fun w => refRight14_any ⟨op, ag, v⟩ hok w)
  unfold inV at HC
  have HP := Lib.hid (fun w => refPlain_any op hok.1.1 w)
  have HR := Lib.hid hr
  clear hok hr hj hjl hjn hx
  have HS := Lib.hid hs
  have HN := Lib.hid hn
  have HFI := Lib.hid hfi
  clear hs hn hfi
  go_upto_region 3 with (first | (go_at_call 33; refine (HC.out _).mono ?_; rintro e w4 ⟨rfl, hb4⟩; rw [HR.out]; have B4 := Lib.hid (B1.out.trans (hb4.mono B1.out.size)); have X4 := Lib.hid (hp_below X1.out hb4); have Y4 := Lib.hid (hp_below Y1.out hb4); have I4 := Lib.hid (inss_below I2.out hb4); have la4 := Nat.lt_of_lt_of_le la' hb4.size; have a0' := (World.cell?_of_block (hb4.block _ la)).trans a0; have a1' := (World.cell?_of_block (a := ⟨(ad.add (j * 3)).block, (ad.add (j * 3)).off + 1, none⟩) (hb4.block _ la)).trans a1; have a2' := (World.cell?_of_block (a := ⟨(ad.add (j * 3)).block, (ad.add (j * 3)).off + 2, none⟩) (hb4.block _ la)).trans a2; clear a0 a1 a2 la hb4; have u0 : w4.cell? ⟨g, 0, none⟩ = some (.int .i64 s.pc) := hp_cell (X4.out) 0; have u1 : w4.cell? ⟨g, 1, none⟩ = some (.slice A1 s.stk.length c1) := hp_cell (X4.out) 1; have u2 : w4.cell? ⟨g, 2, none⟩ = some (.int .u64 s.la) := hp_cell (X4.out) 2; have u3 : w4.cell? ⟨g, 3, none⟩ = some (.int .u64 s.lb) := hp_cell (X4.out) 3; have u4 : w4.cell? ⟨g, 4, none⟩ = some (.int .u64 s.lc) := hp_cell (X4.out) 4; have u5 : w4.cell? ⟨g, 5, none⟩ = some (.int .u64 s.ld) := hp_cell (X4.out) 5; have u6 : w4.cell? ⟨g, 6, none⟩ = some (.slice A2 s.out.length c2) := hp_cell (X4.out) 6; have ul := hp_lt (X4.out); rw [HJ.out.1] at u0; have v0 : w4.cell? ⟨r, 0, none⟩ = some (.int .i64 0) := hp_cell (Y4.out) 0; have vz0 := hp_frozen (Y4.out) 0; have v1 : w4.cell? ⟨r, 1, none⟩ = some (.slice none 0 0) := hp_cell (Y4.out) 1; have vz1 := hp_frozen (Y4.out) 1; have v2 : w4.cell? ⟨r, 2, none⟩ = some (.int .u64 0) := hp_cell (Y4.out) 2; have vz2 := hp_frozen (Y4.out) 2; have v3 : w4.cell? ⟨r, 3, none⟩ = some (.int .u64 0) := hp_cell (Y4.out) 3; have vz3 := hp_frozen (Y4.out) 3; have v4 : w4.cell? ⟨r, 4, none⟩ = some (.int .u64 0) := hp_cell (Y4.out) 4; have vz4 := hp_frozen (Y4.out) 4; have v5 : w4.cell? ⟨r, 5, none⟩ = some (.int .u64 0) := hp_cell (Y4.out) 5; have vz5 := hp_frozen (Y4.out) 5; have v6 : w4.cell? ⟨r, 6, none⟩ = some (.slice none 0 0) := hp_cell (Y4.out) 6; have vz6 := hp_frozen (Y4.out) 6; have vl := hp_lt (Y4.out)) | (go_at_call 34; refine (HP.out _).mono ?_; rintro e w' ⟨rfl, rfl⟩; rw [HS.out]))
  have laj : (ad.add (j * 3)).block < w4.heap.size := inAt_lt (xn_some I4.out HJ.out.2)
  go_upto_region 4 with fail
  have z6 := (Below.refl w4.heap.size w4).alloc (Nat.le_refl _) (.cells #[.int .u8 op, .int .i64 ag, .int .u64 v] 42)
  have X6 := Lib.hid (heap_alloc_new w4 (.cells #[.int .u8 op, .int .i64 ag, .int .u64 v] 42))
  have X5 := Lib.hid (hp_below X4.out z6)
  have Y5 := Lib.hid (hp_below Y4.out z6)
  have B5 := Lib.hid (B4.out.alloc B4.out.size (.cells #[.int .u8 op, .int .i64 ag, .int .u64 v] 42))
  have xne := Lib.hid (show g ≠ w4.heap.size ∧ r ≠ w4.heap.size from ⟨fun e => Nat.lt_irrefl _ (e ▸ ul), fun e => Nat.lt_irrefl _ (e ▸ vl)⟩)
  have S5 := Lib.hid (show w.heap.size ≤ w4.heap.size from B4.out.size)
  clear z6 X4 Y4 B4 I4 la4 laj a0' a1' a2' u0  v0 vz0 u1  v1 vz1 u2  v2 vz2 u3  v3 vz3 u4  v4 vz4 u5  v5 vz5 u6  v6 vz6 ul vl x0 y0 yz0 x1 y1 yz1 x2 y2 yz2 x3 y3 yz3 x4 y4 yz4 x5 y5 yz5 x6 y6 yz6 xl yl
  generalize w4.alloc _ = w5 at X6 X5 Y5 B5 ⊢
  obtain ⟨xi, hxi⟩ : ∃ x, w4.heap.size = x := ⟨_, rfl⟩
  rw [hxi] at X6 xne S5 ⊢
  clear hxi
  have x0 : w5.cell? ⟨g, 0, none⟩ = some (.int .i64 s.pc) := hp_cell (X5.out) 0; have x1 : w5.cell? ⟨g, 1, none⟩ = some (.slice A1 s.stk.length c1) := hp_cell (X5.out) 1; have x2 : w5.cell? ⟨g, 2, none⟩ = some (.int .u64 s.la) := hp_cell (X5.out) 2; have x3 : w5.cell? ⟨g, 3, none⟩ = some (.int .u64 s.lb) := hp_cell (X5.out) 3; have x4 : w5.cell? ⟨g, 4, none⟩ = some (.int .u64 s.lc) := hp_cell (X5.out) 4; have x5 : w5.cell? ⟨g, 5, none⟩ = some (.int .u64 s.ld) := hp_cell (X5.out) 5; have x6 : w5.cell? ⟨g, 6, none⟩ = some (.slice A2 s.out.length c2) := hp_cell (X5.out) 6; have xl := hp_lt (X5.out)
  rw [HJ.out.1] at x0
  have y0 : w5.cell? ⟨r, 0, none⟩ = some (.int .i64 0) := hp_cell (Y5.out) 0; have yz0 := hp_frozen (Y5.out) 0; have y1 : w5.cell? ⟨r, 1, none⟩ = some (.slice none 0 0) := hp_cell (Y5.out) 1; have yz1 := hp_frozen (Y5.out) 1; have y2 : w5.cell? ⟨r, 2, none⟩ = some (.int .u64 0) := hp_cell (Y5.out) 2; have yz2 := hp_frozen (Y5.out) 2; have y3 : w5.cell? ⟨r, 3, none⟩ = some (.int .u64 0) := hp_cell (Y5.out) 3; have yz3 := hp_frozen (Y5.out) 3; have y4 : w5.cell? ⟨r, 4, none⟩ = some (.int .u64 0) := hp_cell (Y5.out) 4; have yz4 := hp_frozen (Y5.out) 4; have y5 : w5.cell? ⟨r, 5, none⟩ = some (.int .u64 0) := hp_cell (Y5.out) 5; have yz5 := hp_frozen (Y5.out) 5; have y6 : w5.cell? ⟨r, 6, none⟩ = some (.slice none 0 0) := hp_cell (Y5.out) 6; have yz6 := hp_frozen (Y5.out) 6; have yl := hp_lt (Y5.out)
  have i0 : w5.cell? ⟨xi, 0, none⟩ = some (.int .u8 op) := hp_cell X6.out 0
  have il := hp_lt X6.out
  have HFT := Lib.hid (show ∀ w : World, Calls Try.prog 35 #[.int .u8 op, .agg #[.int .i64 (j : Int), .slice A1 s.stk.length c1, .int .u64 s.la, .int .u64 s.lb, .int .u64 s.lc, .int .u64 s.ld, .slice A2 s.out.length c2]] w fun e w' => e = .returned (.int .i64 0) ∧ Below w.heap.size w w' from fun w => by have := refFits_any op HOK.out.1.1 s A1 c1 A2 c2 (by have := HN.out; omega) w; unfold stV stC at this; rw [HFI.out, HJ.out.1] at this; exact this)
  have HCP := Lib.hid (show ∀ w' : World, Below w.heap.size w w' → Calls Try.prog 36 #[.agg #[.int .i64 (j : Int), .slice A1 s.stk.length c1, .int .u64 s.la, .int .u64 s.lb, .int .u64 s.lc, .int .u64 s.ld, .slice A2 s.out.length c2]] w' (fun e w2 => ∃ D1 d1 D2 d2, e = .returned (.agg #[.int .i64 (j : Int), .slice D1 s.stk.length d1, .int .u64 s.la, .int .u64 s.lb, .int .u64 s.lc, .int .u64 s.ld, .slice D2 s.out.length d2]) ∧ RowAt w2 w'.heap.size D1 d1 s.stk ∧ RowAt w2 w'.heap.size D2 d2 s.out ∧ (∀ k, blk D1 = some k → blk D2 ≠ some k) ∧ Below w'.heap.size w' w2) from fun w' hb => by have := refCopied_any s A1 c1 A2 c2 w' (G1.out.below hb) (G2.out.below hb); unfold CopyPost stV stC at this; rw [HJ.out.1] at this; exact this)
  go_upto_region 8 with (first | (go_at_call 35; refine (HFT.out _).mono ?_; rintro e w7 ⟨rfl, hb7⟩; have X7 := Lib.hid (hp_below X5.out hb7); have Y7 := Lib.hid (hp_below Y5.out hb7); have I7 := Lib.hid (hp_below X6.out hb7); have B7 := Lib.hid (B5.out.trans (hb7.mono B5.out.size)); clear hb7; clear x0 y0 yz0 x1 y1 yz1 x2 y2 yz2 x3 y3 yz3 x4 y4 yz4 x5 y5 yz5 x6 y6 yz6 xl yl i0 il; have x0 : w7.cell? ⟨g, 0, none⟩ = some (.int .i64 s.pc) := hp_cell (X7.out) 0; have xz0 := hp_frozen (X7.out) 0; have x1 : w7.cell? ⟨g, 1, none⟩ = some (.slice A1 s.stk.length c1) := hp_cell (X7.out) 1; have xz1 := hp_frozen (X7.out) 1; have x2 : w7.cell? ⟨g, 2, none⟩ = some (.int .u64 s.la) := hp_cell (X7.out) 2; have xz2 := hp_frozen (X7.out) 2; have x3 : w7.cell? ⟨g, 3, none⟩ = some (.int .u64 s.lb) := hp_cell (X7.out) 3; have xz3 := hp_frozen (X7.out) 3; have x4 : w7.cell? ⟨g, 4, none⟩ = some (.int .u64 s.lc) := hp_cell (X7.out) 4; have xz4 := hp_frozen (X7.out) 4; have x5 : w7.cell? ⟨g, 5, none⟩ = some (.int .u64 s.ld) := hp_cell (X7.out) 5; have xz5 := hp_frozen (X7.out) 5; have x6 : w7.cell? ⟨g, 6, none⟩ = some (.slice A2 s.out.length c2) := hp_cell (X7.out) 6; have xz6 := hp_frozen (X7.out) 6; have xl := hp_lt (X7.out); rw [HJ.out.1] at x0; have yl := hp_lt Y7.out) | (go_at_call 36; refine (HCP.out _ B7.out).mono ?_; rintro e w8 ⟨D1, d1, D2, d2, rfl, hr1, hr2, hd, hb8⟩; have B8 := Lib.hid (B7.out.trans (hb8.mono B7.out.size)); have X8 := Lib.hid (hp_below X7.out hb8); have Y8 := Lib.hid (hp_below Y7.out hb8); have I8 := Lib.hid (hp_below I7.out hb8); have P8 := Lib.hid (row_base hr1 B7.out.size); have Q8 := Lib.hid (row_base hr2 B7.out.size); have DD := Lib.hid hd; clear hr1 hr2 hd hb8; clear x0 xz0 x1 xz1 x2 xz2 x3 xz3 x4 xz4 x5 xz5 x6 xz6 xl yl; have x0 : w8.cell? ⟨g, 0, none⟩ = some (.int .i64 s.pc) := hp_cell (X8.out) 0; have xz0 := hp_frozen (X8.out) 0; have x1 : w8.cell? ⟨g, 1, none⟩ = some (.slice A1 s.stk.length c1) := hp_cell (X8.out) 1; have xz1 := hp_frozen (X8.out) 1; have x2 : w8.cell? ⟨g, 2, none⟩ = some (.int .u64 s.la) := hp_cell (X8.out) 2; have xz2 := hp_frozen (X8.out) 2; have x3 : w8.cell? ⟨g, 3, none⟩ = some (.int .u64 s.lb) := hp_cell (X8.out) 3; have xz3 := hp_frozen (X8.out) 3; have x4 : w8.cell? ⟨g, 4, none⟩ = some (.int .u64 s.lc) := hp_cell (X8.out) 4; have xz4 := hp_frozen (X8.out) 4; have x5 : w8.cell? ⟨g, 5, none⟩ = some (.int .u64 s.ld) := hp_cell (X8.out) 5; have xz5 := hp_frozen (X8.out) 5; have x6 : w8.cell? ⟨g, 6, none⟩ = some (.slice A2 s.out.length c2) := hp_cell (X8.out) 6; have xz6 := hp_frozen (X8.out) 6; have xl := hp_lt (X8.out); rw [HJ.out.1] at x0))
  clear x0 xz0 x1 xz1 x2 xz2 x3 xz3 x4 xz4 x5 xz5 x6 xz6 xl
  have X8 : Hid (w8.heap[g]? = some (.cells #[.int .i64 (j : Int), .slice A1 s.stk.length c1, .int .u64 s.la, .int .u64 s.lb, .int .u64 s.lc, .int .u64 s.ld, .slice A2 s.out.length c2] 28 (0, 0))) := Lib.hid (by rw [← HJ.out.1]; exact X8.out)
  have k0 := hp_put (cs' := #[.int .i64 (j : Int), .slice A1 s.stk.length c1, .int .u64 s.la, .int .u64 s.lb, .int .u64 s.lc, .int .u64 s.ld, .slice A2 s.out.length c2]) X8.out 0 (.int .i64 (j : Int)) (by simp)
  have k1 := hp_put (cs' := #[.int .i64 (j : Int), .slice D1 s.stk.length d1, .int .u64 s.la, .int .u64 s.lb, .int .u64 s.lc, .int .u64 s.ld, .slice A2 s.out.length c2]) k0 1 (.slice D1 s.stk.length d1) (by simp)
  have k2 := hp_put (cs' := #[.int .i64 (j : Int), .slice D1 s.stk.length d1, .int .u64 s.la, .int .u64 s.lb, .int .u64 s.lc, .int .u64 s.ld, .slice A2 s.out.length c2]) k1 2 (.int .u64 s.la) (by simp)
  have k3 := hp_put (cs' := #[.int .i64 (j : Int), .slice D1 s.stk.length d1, .int .u64 s.la, .int .u64 s.lb, .int .u64 s.lc, .int .u64 s.ld, .slice A2 s.out.length c2]) k2 3 (.int .u64 s.lb) (by simp)
  have k4 := hp_put (cs' := #[.int .i64 (j : Int), .slice D1 s.stk.length d1, .int .u64 s.la, .int .u64 s.lb, .int .u64 s.lc, .int .u64 s.ld, .slice A2 s.out.length c2]) k3 4 (.int .u64 s.lc) (by simp)
  have k5 := hp_put (cs' := #[.int .i64 (j : Int), .slice D1 s.stk.length d1, .int .u64 s.la, .int .u64 s.lb, .int .u64 s.lc, .int .u64 s.ld, .slice A2 s.out.length c2]) k4 5 (.int .u64 s.ld) (by simp)
  have k6 := hp_put (cs' := #[.int .i64 (j : Int), .slice D1 s.stk.length d1, .int .u64 s.la, .int .u64 s.lb, .int .u64 s.lc, .int .u64 s.ld, .slice D2 s.out.length d2]) k5 6 (.slice D2 s.out.length d2) (by simp)
  have hF : Fr (fun k => k ≠ g) w8 ((((((((w8).setCell ⟨g, 0, none⟩ (.int .i64 (j : Int))).setCell ⟨g, 1, none⟩ (.slice D1 s.stk.length d1)).setCell ⟨g, 2, none⟩ (.int .u64 s.la)).setCell ⟨g, 3, none⟩ (.int .u64 s.lb)).setCell ⟨g, 4, none⟩ (.int .u64 s.lc)).setCell ⟨g, 5, none⟩ (.int .u64 s.ld)).setCell ⟨g, 6, none⟩ (.slice D2 s.out.length d2)) := (((((((Fr.refl (fun k => k ≠ g) w8).trans (Fr.set _ (fun e => e rfl) _ _)).trans (Fr.set _ (fun e => e rfl) _ _)).trans (Fr.set _ (fun e => e rfl) _ _)).trans (Fr.set _ (fun e => e rfl) _ _)).trans (Fr.set _ (fun e => e rfl) _ _)).trans (Fr.set _ (fun e => e rfl) _ _)).trans (Fr.set _ (fun e => e rfl) _ _)
  have X9 := Lib.hid k6
  have Y9 := Lib.hid (hF.hp Y8.out ne2)
  have I9 := Lib.hid (hF.hp I8.out (fun e => xne.out.1 e.symm))
  have P9 := Lib.hid (row_fr P8.out hF (row_nx3 P8.out X8.out (by decide)))
  have Q9 := Lib.hid (row_fr Q8.out hF (row_nx3 Q8.out X8.out (by decide)))
  have B9 := Lib.hid (B8.out.trans (hF.toBelow (fun k hk => by have := GR.out.2.1; omega)))
  clear k0 k1 k2 k3 k4 k5 k6 hF X8 Y8 I8 P8 Q8 B8
  generalize (((((((w8).setCell ⟨g, 0, none⟩ (.int .i64 (j : Int))).setCell ⟨g, 1, none⟩ (.slice D1 s.stk.length d1)).setCell ⟨g, 2, none⟩ (.int .u64 s.la)).setCell ⟨g, 3, none⟩ (.int .u64 s.lb)).setCell ⟨g, 4, none⟩ (.int .u64 s.lc)).setCell ⟨g, 5, none⟩ (.int .u64 s.ld)).setCell ⟨g, 6, none⟩ (.slice D2 s.out.length d2) = w9 at X9 Y9 I9 P9 Q9 B9 ⊢
  have x0 : w9.cell? ⟨g, 0, none⟩ = some (.int .i64 (j : Int)) := hp_cell (X9.out) 0; have xz0 := hp_frozen (X9.out) 0; have x1 : w9.cell? ⟨g, 1, none⟩ = some (.slice D1 s.stk.length d1) := hp_cell (X9.out) 1; have xz1 := hp_frozen (X9.out) 1; have x2 : w9.cell? ⟨g, 2, none⟩ = some (.int .u64 s.la) := hp_cell (X9.out) 2; have xz2 := hp_frozen (X9.out) 2; have x3 : w9.cell? ⟨g, 3, none⟩ = some (.int .u64 s.lb) := hp_cell (X9.out) 3; have xz3 := hp_frozen (X9.out) 3; have x4 : w9.cell? ⟨g, 4, none⟩ = some (.int .u64 s.lc) := hp_cell (X9.out) 4; have xz4 := hp_frozen (X9.out) 4; have x5 : w9.cell? ⟨g, 5, none⟩ = some (.int .u64 s.ld) := hp_cell (X9.out) 5; have xz5 := hp_frozen (X9.out) 5; have x6 : w9.cell? ⟨g, 6, none⟩ = some (.slice D2 s.out.length d2) := hp_cell (X9.out) 6; have xz6 := hp_frozen (X9.out) 6; have xl := hp_lt (X9.out)
  have i0 : w9.cell? ⟨xi, 0, none⟩ = some (.int .u8 op) := hp_cell (I9.out) 0; have i1 : w9.cell? ⟨xi, 1, none⟩ = some (.int .i64 ag) := hp_cell (I9.out) 1; have i2 : w9.cell? ⟨xi, 2, none⟩ = some (.int .u64 v) := hp_cell (I9.out) 2; have il := hp_lt (I9.out)
  have yl := hp_lt Y9.out
  have xn1 : g ≠ xi := xne.out.1
  have xn2 : xi ≠ g := fun e => xn1 e.symm
  have hop := HOP.out
  subst hop
  · rcases row_form P9.out with hNE | hNE
    · rw [show s.stk.length = s.stk.length from rfl] at x1
      obtain ⟨eD, hN, ec⟩ := hNE
      subst eD
      subst ec
      rw [hN] at x1 X9
      have hNl : 0 ≤ 800 := by decide
      have kc : 0 ≤ 0 := Nat.le_refl _
      obtain ⟨pz, hpz⟩ : ∃ pz : Int, pz = 0 := ⟨0, rfl⟩
      have kw : wrap64 (-pz) = 0 := by rw [hpz]; kernel_rfl
      have HPZ := Lib.hid hpz
      clear hpz
      have kj : wrap64 ((j : Int) + 1) = (j : Int) + 1 := by have := HJ.out.2; unfold wrap64; omega
      have HEF := Lib.hid (show ∀ w : World, Calls Try.prog 37 #[.int .u8 0] w fun e w' => e = .returned (.tuple #[.int .i64 pz, .int .i64 0]) ∧ w = w' from fun w => by rw [HPZ.out]; have := refEffect_any 0 (by decide) w; rw [show popsI 0 = 0 from by decide, show pushI 0 = 0 from by decide] at this; exact this)
      go_upto_region 12 with (go_at_call 37; refine (HEF.out _).mono ?_; rintro e w' ⟨rfl, rfl⟩)
      have KC := Lib.hid (And.intro hN (And.intro hNl kc)); clear hN hNl kc kw s3 s4 d3 hpc hpl hlc hll hro
      go_upto_block 0 with fail
      have s0 := hp_put (cs' := #[.int .i64 ((j : Int) + 1), .slice none (0) 0, .int .u64 s.la, .int .u64 s.lb, .int .u64 s.lc, .int .u64 s.ld, .slice D2 s.out.length d2]) X9.out 0 (.int .i64 ((j : Int) + 1)) (by simp)
      have hF : Fr (fun k => k ≠ g) w9 ((w9).setCell ⟨g, 0, none⟩ (.int .i64 ((j : Int) + 1))) := (Fr.refl (fun k => k ≠ g) w9).trans (Fr.set _ (fun e => e rfl) _ _)
      have X10 := Lib.hid s0
      have Y10 := Lib.hid (hF.hp Y9.out ne2)
      have I10 := Lib.hid (hF.hp I9.out xn2)
      have P10 := Lib.hid (row_fr P9.out hF (row_nx3 P9.out X9.out (by decide)))
      have Q10 := Lib.hid (row_fr Q9.out hF (row_nx3 Q9.out X9.out (by decide)))
      have B10 := Lib.hid (B9.out.trans (hF.toBelow (fun k hk => by have := GR.out.2.1; omega)))
      clear s0 hF X9 Y9 I9 P9 Q9 B9
      generalize (w9).setCell ⟨g, 0, none⟩ (.int .i64 ((j : Int) + 1)) = w10 at X10 Y10 I10 P10 Q10 B10 ⊢
      clear x0 xz0 x1 xz1 x2 xz2 x3 xz3 x4 xz4 x5 xz5 x6 xz6 xl i0 i1 i2 il yl
      have x0 : w10.cell? ⟨g, 0, none⟩ = some (.int .i64 ((j : Int) + 1)) := hp_cell (X10.out) 0; have xz0 := hp_frozen (X10.out) 0; have x1 : w10.cell? ⟨g, 1, none⟩ = some (.slice none (0) 0) := hp_cell (X10.out) 1; have xz1 := hp_frozen (X10.out) 1; have x2 : w10.cell? ⟨g, 2, none⟩ = some (.int .u64 s.la) := hp_cell (X10.out) 2; have xz2 := hp_frozen (X10.out) 2; have x3 : w10.cell? ⟨g, 3, none⟩ = some (.int .u64 s.lb) := hp_cell (X10.out) 3; have xz3 := hp_frozen (X10.out) 3; have x4 : w10.cell? ⟨g, 4, none⟩ = some (.int .u64 s.lc) := hp_cell (X10.out) 4; have xz4 := hp_frozen (X10.out) 4; have x5 : w10.cell? ⟨g, 5, none⟩ = some (.int .u64 s.ld) := hp_cell (X10.out) 5; have xz5 := hp_frozen (X10.out) 5; have x6 : w10.cell? ⟨g, 6, none⟩ = some (.slice D2 s.out.length d2) := hp_cell (X10.out) 6; have xz6 := hp_frozen (X10.out) 6; have xl := hp_lt (X10.out)
      have i0 : w10.cell? ⟨xi, 0, none⟩ = some (.int .u8 0) := hp_cell (I10.out) 0; have i1 : w10.cell? ⟨xi, 1, none⟩ = some (.int .i64 ag) := hp_cell (I10.out) 1; have i2 : w10.cell? ⟨xi, 2, none⟩ = some (.int .u64 v) := hp_cell (I10.out) 2; have il := hp_lt (I10.out)
      have yl := hp_lt Y10.out
      go_upto_region 40 with fail
      clear x0 xz0 x1 xz1 x2 xz2 x3 xz3 x4 xz4 x5 xz5 x6 xz6 xl i0 i1 i2 il yl
      have x0 : w10.cell? ⟨g, 0, none⟩ = some (.int .i64 ((j : Int) + 1)) := hp_cell (X10.out) 0; have x1 : w10.cell? ⟨g, 1, none⟩ = some (.slice none (0) 0) := hp_cell (X10.out) 1; have x2 : w10.cell? ⟨g, 2, none⟩ = some (.int .u64 s.la) := hp_cell (X10.out) 2; have x3 : w10.cell? ⟨g, 3, none⟩ = some (.int .u64 s.lb) := hp_cell (X10.out) 3; have x4 : w10.cell? ⟨g, 4, none⟩ = some (.int .u64 s.lc) := hp_cell (X10.out) 4; have x5 : w10.cell? ⟨g, 5, none⟩ = some (.int .u64 s.ld) := hp_cell (X10.out) 5; have x6 : w10.cell? ⟨g, 6, none⟩ = some (.slice D2 s.out.length d2) := hp_cell (X10.out) 6; have xl := hp_lt (X10.out)
      have y0 : w10.cell? ⟨r, 0, none⟩ = some (.int .i64 0) := hp_cell (Y10.out) 0; have yz0 := hp_frozen (Y10.out) 0; have y1 : w10.cell? ⟨r, 1, none⟩ = some (.slice none 0 0) := hp_cell (Y10.out) 1; have yz1 := hp_frozen (Y10.out) 1; have y2 : w10.cell? ⟨r, 2, none⟩ = some (.int .u64 0) := hp_cell (Y10.out) 2; have yz2 := hp_frozen (Y10.out) 2; have y3 : w10.cell? ⟨r, 3, none⟩ = some (.int .u64 0) := hp_cell (Y10.out) 3; have yz3 := hp_frozen (Y10.out) 3; have y4 : w10.cell? ⟨r, 4, none⟩ = some (.int .u64 0) := hp_cell (Y10.out) 4; have yz4 := hp_frozen (Y10.out) 4; have y5 : w10.cell? ⟨r, 5, none⟩ = some (.int .u64 0) := hp_cell (Y10.out) 5; have yz5 := hp_frozen (Y10.out) 5; have y6 : w10.cell? ⟨r, 6, none⟩ = some (.slice none 0 0) := hp_cell (Y10.out) 6; have yz6 := hp_frozen (Y10.out) 6; have yl := hp_lt (Y10.out)
      repeat (first | go_skip | go_guarded | go_step | go_upon)
      refine bodyPost_ret (by simp [results, Try.results13, go_sem, y0, y1, y2, y3, y4, y5, y6, ne1, ne2]; try rfl) rfl ?_
      have M1 := row_nx3 P10.out Y10.out (by decide)
      have M2 := row_nx3 Q10.out Y10.out (by decide)
      have hres : effF l.length ⟨0, ag, v⟩ { s with pc := s.pc + 1 } = .ok { s with pc := s.pc + 1 } := rfl
      have hv : #[.int .i64 ((j : Int) + 1), .slice none (0) 0, .int .u64 s.la, .int .u64 s.lb, .int .u64 s.lc, .int .u64 s.ld, .slice D2 s.out.length d2] = stC { s with pc := s.pc + 1 } none 0 D2 d2 := by unfold stC; rw [HJ.out.1, KC.out.1]
      rw [← HRR.out, hres, hv]
      exact ⟨(bl_new (bl_new (bl_new (bl_new (bl_new (bl_new (bl_new B10.out GR.out.2.2 _) GR.out.2.2 _) GR.out.2.2 _) GR.out.2.2 _) GR.out.2.2 _) GR.out.2.2 _) GR.out.2.2 _), none, 0, D2, d2, rfl, (row_ne (row_ne (row_ne (row_ne (row_ne (row_ne (row_ne P10.out M1 _ _) M1 _ _) M1 _ _) M1 _ _) M1 _ _) M1 _ _) M1 _ _), (row_ne (row_ne (row_ne (row_ne (row_ne (row_ne (row_ne Q10.out M2 _ _) M2 _ _) M2 _ _) M2 _ _) M2 _ _) M2 _ _) M2 _ _)⟩
    · rw [show s.stk.length = s.stk.length from rfl] at x1
      obtain ⟨N, hN, hNl⟩ : ∃ N, s.stk.length = N ∧ N ≤ 800 := ⟨_, rfl, HN.out⟩
      rw [hN] at x1 X9
      obtain ⟨pz, hpz⟩ : ∃ pz : Int, pz = 0 := ⟨0, rfl⟩
      have kw : wrap64 ((N : Int) - pz) = (N : Int) := by rw [hpz]; unfold wrap64; omega
      have HPZ := Lib.hid hpz
      clear hpz
      have kc := (row_cap P9.out).1
      rw [hN] at kc
      obtain ⟨gd, eD⟩ := hNE
      subst eD
      have kj : wrap64 ((j : Int) + 1) = (j : Int) + 1 := by have := HJ.out.2; unfold wrap64; omega
      have HEF := Lib.hid (show ∀ w : World, Calls Try.prog 37 #[.int .u8 0] w fun e w' => e = .returned (.tuple #[.int .i64 pz, .int .i64 0]) ∧ w = w' from fun w => by rw [HPZ.out]; have := refEffect_any 0 (by decide) w; rw [show popsI 0 = 0 from by decide, show pushI 0 = 0 from by decide] at this; exact this)
      go_upto_region 12 with (go_at_call 37; refine (HEF.out _).mono ?_; rintro e w' ⟨rfl, rfl⟩)
      have KC := Lib.hid (And.intro hN (And.intro hNl kc)); clear hN hNl kc kw s3 s4 d3 hpc hpl hlc hll hro
      go_upto_block 0 with fail
      have s0 := hp_put (cs' := #[.int .i64 ((j : Int) + 1), .slice (some ⟨gd, 0, none⟩) (N) d1, .int .u64 s.la, .int .u64 s.lb, .int .u64 s.lc, .int .u64 s.ld, .slice D2 s.out.length d2]) X9.out 0 (.int .i64 ((j : Int) + 1)) (by simp)
      have hF : Fr (fun k => k ≠ g) w9 ((w9).setCell ⟨g, 0, none⟩ (.int .i64 ((j : Int) + 1))) := (Fr.refl (fun k => k ≠ g) w9).trans (Fr.set _ (fun e => e rfl) _ _)
      have X10 := Lib.hid s0
      have Y10 := Lib.hid (hF.hp Y9.out ne2)
      have I10 := Lib.hid (hF.hp I9.out xn2)
      have P10 := Lib.hid (row_fr P9.out hF (row_nx3 P9.out X9.out (by decide)))
      have Q10 := Lib.hid (row_fr Q9.out hF (row_nx3 Q9.out X9.out (by decide)))
      have B10 := Lib.hid (B9.out.trans (hF.toBelow (fun k hk => by have := GR.out.2.1; omega)))
      clear s0 hF X9 Y9 I9 P9 Q9 B9
      generalize (w9).setCell ⟨g, 0, none⟩ (.int .i64 ((j : Int) + 1)) = w10 at X10 Y10 I10 P10 Q10 B10 ⊢
      clear x0 xz0 x1 xz1 x2 xz2 x3 xz3 x4 xz4 x5 xz5 x6 xz6 xl i0 i1 i2 il yl
      have x0 : w10.cell? ⟨g, 0, none⟩ = some (.int .i64 ((j : Int) + 1)) := hp_cell (X10.out) 0; have xz0 := hp_frozen (X10.out) 0; have x1 : w10.cell? ⟨g, 1, none⟩ = some (.slice (some ⟨gd, 0, none⟩) (N) d1) := hp_cell (X10.out) 1; have xz1 := hp_frozen (X10.out) 1; have x2 : w10.cell? ⟨g, 2, none⟩ = some (.int .u64 s.la) := hp_cell (X10.out) 2; have xz2 := hp_frozen (X10.out) 2; have x3 : w10.cell? ⟨g, 3, none⟩ = some (.int .u64 s.lb) := hp_cell (X10.out) 3; have xz3 := hp_frozen (X10.out) 3; have x4 : w10.cell? ⟨g, 4, none⟩ = some (.int .u64 s.lc) := hp_cell (X10.out) 4; have xz4 := hp_frozen (X10.out) 4; have x5 : w10.cell? ⟨g, 5, none⟩ = some (.int .u64 s.ld) := hp_cell (X10.out) 5; have xz5 := hp_frozen (X10.out) 5; have x6 : w10.cell? ⟨g, 6, none⟩ = some (.slice D2 s.out.length d2) := hp_cell (X10.out) 6; have xz6 := hp_frozen (X10.out) 6; have xl := hp_lt (X10.out)
      have i0 : w10.cell? ⟨xi, 0, none⟩ = some (.int .u8 0) := hp_cell (I10.out) 0; have i1 : w10.cell? ⟨xi, 1, none⟩ = some (.int .i64 ag) := hp_cell (I10.out) 1; have i2 : w10.cell? ⟨xi, 2, none⟩ = some (.int .u64 v) := hp_cell (I10.out) 2; have il := hp_lt (I10.out)
      have yl := hp_lt Y10.out
      go_upto_region 40 with fail
      clear x0 xz0 x1 xz1 x2 xz2 x3 xz3 x4 xz4 x5 xz5 x6 xz6 xl i0 i1 i2 il yl
      have x0 : w10.cell? ⟨g, 0, none⟩ = some (.int .i64 ((j : Int) + 1)) := hp_cell (X10.out) 0; have x1 : w10.cell? ⟨g, 1, none⟩ = some (.slice (some ⟨gd, 0, none⟩) (N) d1) := hp_cell (X10.out) 1; have x2 : w10.cell? ⟨g, 2, none⟩ = some (.int .u64 s.la) := hp_cell (X10.out) 2; have x3 : w10.cell? ⟨g, 3, none⟩ = some (.int .u64 s.lb) := hp_cell (X10.out) 3; have x4 : w10.cell? ⟨g, 4, none⟩ = some (.int .u64 s.lc) := hp_cell (X10.out) 4; have x5 : w10.cell? ⟨g, 5, none⟩ = some (.int .u64 s.ld) := hp_cell (X10.out) 5; have x6 : w10.cell? ⟨g, 6, none⟩ = some (.slice D2 s.out.length d2) := hp_cell (X10.out) 6; have xl := hp_lt (X10.out)
      have y0 : w10.cell? ⟨r, 0, none⟩ = some (.int .i64 0) := hp_cell (Y10.out) 0; have yz0 := hp_frozen (Y10.out) 0; have y1 : w10.cell? ⟨r, 1, none⟩ = some (.slice none 0 0) := hp_cell (Y10.out) 1; have yz1 := hp_frozen (Y10.out) 1; have y2 : w10.cell? ⟨r, 2, none⟩ = some (.int .u64 0) := hp_cell (Y10.out) 2; have yz2 := hp_frozen (Y10.out) 2; have y3 : w10.cell? ⟨r, 3, none⟩ = some (.int .u64 0) := hp_cell (Y10.out) 3; have yz3 := hp_frozen (Y10.out) 3; have y4 : w10.cell? ⟨r, 4, none⟩ = some (.int .u64 0) := hp_cell (Y10.out) 4; have yz4 := hp_frozen (Y10.out) 4; have y5 : w10.cell? ⟨r, 5, none⟩ = some (.int .u64 0) := hp_cell (Y10.out) 5; have yz5 := hp_frozen (Y10.out) 5; have y6 : w10.cell? ⟨r, 6, none⟩ = some (.slice none 0 0) := hp_cell (Y10.out) 6; have yz6 := hp_frozen (Y10.out) 6; have yl := hp_lt (Y10.out)
      repeat (first | go_skip | go_guarded | go_step | go_upon)
      refine bodyPost_ret (by simp [results, Try.results13, go_sem, y0, y1, y2, y3, y4, y5, y6, ne1, ne2]; try rfl) rfl ?_
      have M1 := row_nx3 P10.out Y10.out (by decide)
      have M2 := row_nx3 Q10.out Y10.out (by decide)
      have hres : effF l.length ⟨0, ag, v⟩ { s with pc := s.pc + 1 } = .ok { s with pc := s.pc + 1 } := rfl
      have hv : #[.int .i64 ((j : Int) + 1), .slice (some ⟨gd, 0, none⟩) (N) d1, .int .u64 s.la, .int .u64 s.lb, .int .u64 s.lc, .int .u64 s.ld, .slice D2 s.out.length d2] = stC { s with pc := s.pc + 1 } (some ⟨gd, 0, none⟩) d1 D2 d2 := by unfold stC; rw [HJ.out.1, KC.out.1]
      rw [← HRR.out, hres, hv]
      exact ⟨(bl_new (bl_new (bl_new (bl_new (bl_new (bl_new (bl_new B10.out GR.out.2.2 _) GR.out.2.2 _) GR.out.2.2 _) GR.out.2.2 _) GR.out.2.2 _) GR.out.2.2 _) GR.out.2.2 _), (some ⟨gd, 0, none⟩), d1, D2, d2, rfl, (row_ne (row_ne (row_ne (row_ne (row_ne (row_ne (row_ne P10.out M1 _ _) M1 _ _) M1 _ _) M1 _ _) M1 _ _) M1 _ _) M1 _ _), (row_ne (row_ne (row_ne (row_ne (row_ne (row_ne (row_ne Q10.out M2 _ _) M2 _ _) M2 _ _) M2 _ _) M2 _ _) M2 _ _) M2 _ _)⟩
set_option maxRecDepth 20000 in
set_option maxHeartbeats 8000000 in
theorem refStep_o1 (l : List Ins3) (c : Nat) (A : Option Addr) (hlc : l.length ≤ c) (hll : l.length ≤ 900) (s : St) (hn : s.stk.length ≤ 800) (hro : s.out.length ≤ 800) (A1 : Option Addr) (c1 : Nat) (A2 : Option Addr) (c2 : Nat) (w : World) (h1 : Src w A1 c1 s.stk) (h2 : Src w A2 c2 s.out) (hi : InssAt w A l) (hpc : 0 ≤ s.pc) (hpl : s.pc < (l.length : Int)) (op ag v : Int) (hx : xn l s.pc.toNat = ⟨op, ag, v⟩) (hop : op = 1) (hso : s.ok) (hr : rightI ⟨op, ag, v⟩ = true) (hs : specI op = false) (hfi : fitI op s.stk.length = true) : Calls Try.prog 13 #[.slice A l.length c, stV s A1 c1 A2 c2] w (RPost (effF l.length ⟨op, ag, v⟩ { s with pc := s.pc + 1 }) w) := by
  have HLOC := Lib.hid hso.2
  have HOP := Lib.hid hop
  clear hso hop
  obtain ⟨RR, hRR⟩ : ∃ R, effF l.length ⟨op, ag, v⟩ { s with pc := s.pc + 1 } = R := ⟨_, rfl⟩
  rw [hRR]
  have HRR := Lib.hid hRR
  clear hRR
  have d : decide (s.pc < 0) = false := decide_eq_false (by omega)
  have d2 : decide (s.pc ≥ (l.length : Int)) = false := decide_eq_false (by omega)
  have d3 : decide ((l.length : Int) ≤ s.pc) = false := d2
  have z1 := (Below.refl w.heap.size w).alloc (Nat.le_refl _) (.cells #[.int .i64 s.pc, .slice A1 s.stk.length c1, .int .u64 s.la, .int .u64 s.lb, .int .u64 s.lc, .int .u64 s.ld, .slice A2 s.out.length c2] 28)
  have z2 := z1.alloc z1.size (.cells #[.int .i64 0, .slice none 0 0, .int .u64 0, .int .u64 0, .int .u64 0, .int .u64 0, .slice none 0 0] 28)
  have X1 := Lib.hid (hp_alloc (heap_alloc_new w (.cells #[.int .i64 s.pc, .slice A1 s.stk.length c1, .int .u64 s.la, .int .u64 s.lb, .int .u64 s.lc, .int .u64 s.ld, .slice A2 s.out.length c2] 28)) (.cells #[.int .i64 0, .slice none 0 0, .int .u64 0, .int .u64 0, .int .u64 0, .int .u64 0, .slice none 0 0] 28))
  have Y1 := Lib.hid (show ((w.alloc (.cells #[.int .i64 s.pc, .slice A1 s.stk.length c1, .int .u64 s.la, .int .u64 s.lb, .int .u64 s.lc, .int .u64 s.ld, .slice A2 s.out.length c2] 28)).alloc (.cells #[.int .i64 0, .slice none 0 0, .int .u64 0, .int .u64 0, .int .u64 0, .int .u64 0, .slice none 0 0] 28)).heap[w.heap.size + 1]? = some (.cells #[.int .i64 0, .slice none 0 0, .int .u64 0, .int .u64 0, .int .u64 0, .int .u64 0, .slice none 0 0] 28 (0, 0)) from (congrArg _ (by simp)).trans (heap_alloc_new (w.alloc (.cells #[.int .i64 s.pc, .slice A1 s.stk.length c1, .int .u64 s.la, .int .u64 s.lb, .int .u64 s.lc, .int .u64 s.ld, .slice A2 s.out.length c2] 28)) (.cells #[.int .i64 0, .slice none 0 0, .int .u64 0, .int .u64 0, .int .u64 0, .int .u64 0, .slice none 0 0] 28)))
  have B1 := Lib.hid z2
  have HI := Lib.hid hi
  have G1 := Lib.hid h1
  have G2 := Lib.hid h2
  clear z1 z2 h1 h2 hi
  unfold stV stC
  go_enter Try.func13, Try.ntmps13
  go_upto_region 1 with fail
  generalize World.alloc _ _ = w2 at X1 Y1 B1 ⊢
  obtain ⟨g, hg⟩ : ∃ g, w.heap.size = g := ⟨_, rfl⟩
  obtain ⟨r, hr⟩ : ∃ r, w.heap.size + 1 = r := ⟨_, rfl⟩
  rw [hg] at X1
  rw [hr] at Y1
  rw [hr, hg]
  have gr : g ≠ r := by omega
  have gb : w.heap.size ≤ g := by omega
  have rb : w.heap.size ≤ r := by omega
  have GR := Lib.hid (And.intro gr (And.intro gb rb))
  clear hg hr gr gb rb
  have x0 : w2.cell? ⟨g, 0, none⟩ = some (.int .i64 s.pc) := hp_cell (X1.out) 0; have x1 : w2.cell? ⟨g, 1, none⟩ = some (.slice A1 s.stk.length c1) := hp_cell (X1.out) 1; have x2 : w2.cell? ⟨g, 2, none⟩ = some (.int .u64 s.la) := hp_cell (X1.out) 2; have x3 : w2.cell? ⟨g, 3, none⟩ = some (.int .u64 s.lb) := hp_cell (X1.out) 3; have x4 : w2.cell? ⟨g, 4, none⟩ = some (.int .u64 s.lc) := hp_cell (X1.out) 4; have x5 : w2.cell? ⟨g, 5, none⟩ = some (.int .u64 s.ld) := hp_cell (X1.out) 5; have x6 : w2.cell? ⟨g, 6, none⟩ = some (.slice A2 s.out.length c2) := hp_cell (X1.out) 6; have xl := hp_lt (X1.out)
  have y0 : w2.cell? ⟨r, 0, none⟩ = some (.int .i64 0) := hp_cell (Y1.out) 0; have yz0 := hp_frozen (Y1.out) 0; have y1 : w2.cell? ⟨r, 1, none⟩ = some (.slice none 0 0) := hp_cell (Y1.out) 1; have yz1 := hp_frozen (Y1.out) 1; have y2 : w2.cell? ⟨r, 2, none⟩ = some (.int .u64 0) := hp_cell (Y1.out) 2; have yz2 := hp_frozen (Y1.out) 2; have y3 : w2.cell? ⟨r, 3, none⟩ = some (.int .u64 0) := hp_cell (Y1.out) 3; have yz3 := hp_frozen (Y1.out) 3; have y4 : w2.cell? ⟨r, 4, none⟩ = some (.int .u64 0) := hp_cell (Y1.out) 4; have yz4 := hp_frozen (Y1.out) 4; have y5 : w2.cell? ⟨r, 5, none⟩ = some (.int .u64 0) := hp_cell (Y1.out) 5; have yz5 := hp_frozen (Y1.out) 5; have y6 : w2.cell? ⟨r, 6, none⟩ = some (.slice none 0 0) := hp_cell (Y1.out) 6; have yz6 := hp_frozen (Y1.out) 6; have yl := hp_lt (Y1.out)
  have ne1 := GR.out.1
  have ne2 : r ≠ g := fun e => ne1 e.symm
  obtain ⟨j, hj⟩ : ∃ j : Nat, s.pc = (j : Int) := ⟨s.pc.toNat, by omega⟩
  have hjl : j < l.length := by omega
  have hjn : s.pc.toNat = j := by omega
  rw [hjn] at hx
  have HJ := Lib.hid (And.intro hj hjl)
  rw [hj] at d d2 d3 x0
  have I2 := Lib.hid (inss_below HI.out B1.out)
  obtain ⟨ad, rfl, _⟩ := xn_at I2.out hjl
  have hI3 := xn_some I2.out hjl
  rw [hx] at hI3
  obtain ⟨hok, a0, a1, a2⟩ := hI3
  dsimp only at a0 a1 a2
  have la : (ad.add (j * 3)).block < w2.heap.size := inAt_lt (xn_some I2.out hjl)
  have la' : ad.block < w2.heap.size := by
    have e : (ad.add (j * 3)).block = ad.block := by unfold Addr.add; split <;> rfl
    omega
  have s3 : (j : Int) < (l.length : Int) := by omega
  have s4 : (0 : Int) ≤ (j : Int) := by omega
  have HOK := Lib.hid hok
  have HC := Lib.hid (fun w => refRight14_any ⟨op, ag, v⟩ hok w)
  unfold inV at HC
  have HP := Lib.hid (fun w => refPlain_any op hok.1.1 w)
  have HR := Lib.hid hr
  clear hok hr hj hjl hjn hx
  have HS := Lib.hid hs
  have HN := Lib.hid hn
  have HFI := Lib.hid hfi
  clear hs hn hfi
  go_upto_region 3 with (first | (go_at_call 33; refine (HC.out _).mono ?_; rintro e w4 ⟨rfl, hb4⟩; rw [HR.out]; have B4 := Lib.hid (B1.out.trans (hb4.mono B1.out.size)); have X4 := Lib.hid (hp_below X1.out hb4); have Y4 := Lib.hid (hp_below Y1.out hb4); have I4 := Lib.hid (inss_below I2.out hb4); have la4 := Nat.lt_of_lt_of_le la' hb4.size; have a0' := (World.cell?_of_block (hb4.block _ la)).trans a0; have a1' := (World.cell?_of_block (a := ⟨(ad.add (j * 3)).block, (ad.add (j * 3)).off + 1, none⟩) (hb4.block _ la)).trans a1; have a2' := (World.cell?_of_block (a := ⟨(ad.add (j * 3)).block, (ad.add (j * 3)).off + 2, none⟩) (hb4.block _ la)).trans a2; clear a0 a1 a2 la hb4; have u0 : w4.cell? ⟨g, 0, none⟩ = some (.int .i64 s.pc) := hp_cell (X4.out) 0; have u1 : w4.cell? ⟨g, 1, none⟩ = some (.slice A1 s.stk.length c1) := hp_cell (X4.out) 1; have u2 : w4.cell? ⟨g, 2, none⟩ = some (.int .u64 s.la) := hp_cell (X4.out) 2; have u3 : w4.cell? ⟨g, 3, none⟩ = some (.int .u64 s.lb) := hp_cell (X4.out) 3; have u4 : w4.cell? ⟨g, 4, none⟩ = some (.int .u64 s.lc) := hp_cell (X4.out) 4; have u5 : w4.cell? ⟨g, 5, none⟩ = some (.int .u64 s.ld) := hp_cell (X4.out) 5; have u6 : w4.cell? ⟨g, 6, none⟩ = some (.slice A2 s.out.length c2) := hp_cell (X4.out) 6; have ul := hp_lt (X4.out); rw [HJ.out.1] at u0; have v0 : w4.cell? ⟨r, 0, none⟩ = some (.int .i64 0) := hp_cell (Y4.out) 0; have vz0 := hp_frozen (Y4.out) 0; have v1 : w4.cell? ⟨r, 1, none⟩ = some (.slice none 0 0) := hp_cell (Y4.out) 1; have vz1 := hp_frozen (Y4.out) 1; have v2 : w4.cell? ⟨r, 2, none⟩ = some (.int .u64 0) := hp_cell (Y4.out) 2; have vz2 := hp_frozen (Y4.out) 2; have v3 : w4.cell? ⟨r, 3, none⟩ = some (.int .u64 0) := hp_cell (Y4.out) 3; have vz3 := hp_frozen (Y4.out) 3; have v4 : w4.cell? ⟨r, 4, none⟩ = some (.int .u64 0) := hp_cell (Y4.out) 4; have vz4 := hp_frozen (Y4.out) 4; have v5 : w4.cell? ⟨r, 5, none⟩ = some (.int .u64 0) := hp_cell (Y4.out) 5; have vz5 := hp_frozen (Y4.out) 5; have v6 : w4.cell? ⟨r, 6, none⟩ = some (.slice none 0 0) := hp_cell (Y4.out) 6; have vz6 := hp_frozen (Y4.out) 6; have vl := hp_lt (Y4.out)) | (go_at_call 34; refine (HP.out _).mono ?_; rintro e w' ⟨rfl, rfl⟩; rw [HS.out]))
  have laj : (ad.add (j * 3)).block < w4.heap.size := inAt_lt (xn_some I4.out HJ.out.2)
  go_upto_region 4 with fail
  have z6 := (Below.refl w4.heap.size w4).alloc (Nat.le_refl _) (.cells #[.int .u8 op, .int .i64 ag, .int .u64 v] 42)
  have X6 := Lib.hid (heap_alloc_new w4 (.cells #[.int .u8 op, .int .i64 ag, .int .u64 v] 42))
  have X5 := Lib.hid (hp_below X4.out z6)
  have Y5 := Lib.hid (hp_below Y4.out z6)
  have B5 := Lib.hid (B4.out.alloc B4.out.size (.cells #[.int .u8 op, .int .i64 ag, .int .u64 v] 42))
  have xne := Lib.hid (show g ≠ w4.heap.size ∧ r ≠ w4.heap.size from ⟨fun e => Nat.lt_irrefl _ (e ▸ ul), fun e => Nat.lt_irrefl _ (e ▸ vl)⟩)
  have S5 := Lib.hid (show w.heap.size ≤ w4.heap.size from B4.out.size)
  clear z6 X4 Y4 B4 I4 la4 laj a0' a1' a2' u0  v0 vz0 u1  v1 vz1 u2  v2 vz2 u3  v3 vz3 u4  v4 vz4 u5  v5 vz5 u6  v6 vz6 ul vl x0 y0 yz0 x1 y1 yz1 x2 y2 yz2 x3 y3 yz3 x4 y4 yz4 x5 y5 yz5 x6 y6 yz6 xl yl
  generalize w4.alloc _ = w5 at X6 X5 Y5 B5 ⊢
  obtain ⟨xi, hxi⟩ : ∃ x, w4.heap.size = x := ⟨_, rfl⟩
  rw [hxi] at X6 xne S5 ⊢
  clear hxi
  have x0 : w5.cell? ⟨g, 0, none⟩ = some (.int .i64 s.pc) := hp_cell (X5.out) 0; have x1 : w5.cell? ⟨g, 1, none⟩ = some (.slice A1 s.stk.length c1) := hp_cell (X5.out) 1; have x2 : w5.cell? ⟨g, 2, none⟩ = some (.int .u64 s.la) := hp_cell (X5.out) 2; have x3 : w5.cell? ⟨g, 3, none⟩ = some (.int .u64 s.lb) := hp_cell (X5.out) 3; have x4 : w5.cell? ⟨g, 4, none⟩ = some (.int .u64 s.lc) := hp_cell (X5.out) 4; have x5 : w5.cell? ⟨g, 5, none⟩ = some (.int .u64 s.ld) := hp_cell (X5.out) 5; have x6 : w5.cell? ⟨g, 6, none⟩ = some (.slice A2 s.out.length c2) := hp_cell (X5.out) 6; have xl := hp_lt (X5.out)
  rw [HJ.out.1] at x0
  have y0 : w5.cell? ⟨r, 0, none⟩ = some (.int .i64 0) := hp_cell (Y5.out) 0; have yz0 := hp_frozen (Y5.out) 0; have y1 : w5.cell? ⟨r, 1, none⟩ = some (.slice none 0 0) := hp_cell (Y5.out) 1; have yz1 := hp_frozen (Y5.out) 1; have y2 : w5.cell? ⟨r, 2, none⟩ = some (.int .u64 0) := hp_cell (Y5.out) 2; have yz2 := hp_frozen (Y5.out) 2; have y3 : w5.cell? ⟨r, 3, none⟩ = some (.int .u64 0) := hp_cell (Y5.out) 3; have yz3 := hp_frozen (Y5.out) 3; have y4 : w5.cell? ⟨r, 4, none⟩ = some (.int .u64 0) := hp_cell (Y5.out) 4; have yz4 := hp_frozen (Y5.out) 4; have y5 : w5.cell? ⟨r, 5, none⟩ = some (.int .u64 0) := hp_cell (Y5.out) 5; have yz5 := hp_frozen (Y5.out) 5; have y6 : w5.cell? ⟨r, 6, none⟩ = some (.slice none 0 0) := hp_cell (Y5.out) 6; have yz6 := hp_frozen (Y5.out) 6; have yl := hp_lt (Y5.out)
  have i0 : w5.cell? ⟨xi, 0, none⟩ = some (.int .u8 op) := hp_cell X6.out 0
  have il := hp_lt X6.out
  have HFT := Lib.hid (show ∀ w : World, Calls Try.prog 35 #[.int .u8 op, .agg #[.int .i64 (j : Int), .slice A1 s.stk.length c1, .int .u64 s.la, .int .u64 s.lb, .int .u64 s.lc, .int .u64 s.ld, .slice A2 s.out.length c2]] w fun e w' => e = .returned (.int .i64 0) ∧ Below w.heap.size w w' from fun w => by have := refFits_any op HOK.out.1.1 s A1 c1 A2 c2 (by have := HN.out; omega) w; unfold stV stC at this; rw [HFI.out, HJ.out.1] at this; exact this)
  have HCP := Lib.hid (show ∀ w' : World, Below w.heap.size w w' → Calls Try.prog 36 #[.agg #[.int .i64 (j : Int), .slice A1 s.stk.length c1, .int .u64 s.la, .int .u64 s.lb, .int .u64 s.lc, .int .u64 s.ld, .slice A2 s.out.length c2]] w' (fun e w2 => ∃ D1 d1 D2 d2, e = .returned (.agg #[.int .i64 (j : Int), .slice D1 s.stk.length d1, .int .u64 s.la, .int .u64 s.lb, .int .u64 s.lc, .int .u64 s.ld, .slice D2 s.out.length d2]) ∧ RowAt w2 w'.heap.size D1 d1 s.stk ∧ RowAt w2 w'.heap.size D2 d2 s.out ∧ (∀ k, blk D1 = some k → blk D2 ≠ some k) ∧ Below w'.heap.size w' w2) from fun w' hb => by have := refCopied_any s A1 c1 A2 c2 w' (G1.out.below hb) (G2.out.below hb); unfold CopyPost stV stC at this; rw [HJ.out.1] at this; exact this)
  go_upto_region 8 with (first | (go_at_call 35; refine (HFT.out _).mono ?_; rintro e w7 ⟨rfl, hb7⟩; have X7 := Lib.hid (hp_below X5.out hb7); have Y7 := Lib.hid (hp_below Y5.out hb7); have I7 := Lib.hid (hp_below X6.out hb7); have B7 := Lib.hid (B5.out.trans (hb7.mono B5.out.size)); clear hb7; clear x0 y0 yz0 x1 y1 yz1 x2 y2 yz2 x3 y3 yz3 x4 y4 yz4 x5 y5 yz5 x6 y6 yz6 xl yl i0 il; have x0 : w7.cell? ⟨g, 0, none⟩ = some (.int .i64 s.pc) := hp_cell (X7.out) 0; have xz0 := hp_frozen (X7.out) 0; have x1 : w7.cell? ⟨g, 1, none⟩ = some (.slice A1 s.stk.length c1) := hp_cell (X7.out) 1; have xz1 := hp_frozen (X7.out) 1; have x2 : w7.cell? ⟨g, 2, none⟩ = some (.int .u64 s.la) := hp_cell (X7.out) 2; have xz2 := hp_frozen (X7.out) 2; have x3 : w7.cell? ⟨g, 3, none⟩ = some (.int .u64 s.lb) := hp_cell (X7.out) 3; have xz3 := hp_frozen (X7.out) 3; have x4 : w7.cell? ⟨g, 4, none⟩ = some (.int .u64 s.lc) := hp_cell (X7.out) 4; have xz4 := hp_frozen (X7.out) 4; have x5 : w7.cell? ⟨g, 5, none⟩ = some (.int .u64 s.ld) := hp_cell (X7.out) 5; have xz5 := hp_frozen (X7.out) 5; have x6 : w7.cell? ⟨g, 6, none⟩ = some (.slice A2 s.out.length c2) := hp_cell (X7.out) 6; have xz6 := hp_frozen (X7.out) 6; have xl := hp_lt (X7.out); rw [HJ.out.1] at x0; have yl := hp_lt Y7.out) | (go_at_call 36; refine (HCP.out _ B7.out).mono ?_; rintro e w8 ⟨D1, d1, D2, d2, rfl, hr1, hr2, hd, hb8⟩; have B8 := Lib.hid (B7.out.trans (hb8.mono B7.out.size)); have X8 := Lib.hid (hp_below X7.out hb8); have Y8 := Lib.hid (hp_below Y7.out hb8); have I8 := Lib.hid (hp_below I7.out hb8); have P8 := Lib.hid (row_base hr1 B7.out.size); have Q8 := Lib.hid (row_base hr2 B7.out.size); have DD := Lib.hid hd; clear hr1 hr2 hd hb8; clear x0 xz0 x1 xz1 x2 xz2 x3 xz3 x4 xz4 x5 xz5 x6 xz6 xl yl; have x0 : w8.cell? ⟨g, 0, none⟩ = some (.int .i64 s.pc) := hp_cell (X8.out) 0; have xz0 := hp_frozen (X8.out) 0; have x1 : w8.cell? ⟨g, 1, none⟩ = some (.slice A1 s.stk.length c1) := hp_cell (X8.out) 1; have xz1 := hp_frozen (X8.out) 1; have x2 : w8.cell? ⟨g, 2, none⟩ = some (.int .u64 s.la) := hp_cell (X8.out) 2; have xz2 := hp_frozen (X8.out) 2; have x3 : w8.cell? ⟨g, 3, none⟩ = some (.int .u64 s.lb) := hp_cell (X8.out) 3; have xz3 := hp_frozen (X8.out) 3; have x4 : w8.cell? ⟨g, 4, none⟩ = some (.int .u64 s.lc) := hp_cell (X8.out) 4; have xz4 := hp_frozen (X8.out) 4; have x5 : w8.cell? ⟨g, 5, none⟩ = some (.int .u64 s.ld) := hp_cell (X8.out) 5; have xz5 := hp_frozen (X8.out) 5; have x6 : w8.cell? ⟨g, 6, none⟩ = some (.slice A2 s.out.length c2) := hp_cell (X8.out) 6; have xz6 := hp_frozen (X8.out) 6; have xl := hp_lt (X8.out); rw [HJ.out.1] at x0))
  clear x0 xz0 x1 xz1 x2 xz2 x3 xz3 x4 xz4 x5 xz5 x6 xz6 xl
  have X8 : Hid (w8.heap[g]? = some (.cells #[.int .i64 (j : Int), .slice A1 s.stk.length c1, .int .u64 s.la, .int .u64 s.lb, .int .u64 s.lc, .int .u64 s.ld, .slice A2 s.out.length c2] 28 (0, 0))) := Lib.hid (by rw [← HJ.out.1]; exact X8.out)
  have k0 := hp_put (cs' := #[.int .i64 (j : Int), .slice A1 s.stk.length c1, .int .u64 s.la, .int .u64 s.lb, .int .u64 s.lc, .int .u64 s.ld, .slice A2 s.out.length c2]) X8.out 0 (.int .i64 (j : Int)) (by simp)
  have k1 := hp_put (cs' := #[.int .i64 (j : Int), .slice D1 s.stk.length d1, .int .u64 s.la, .int .u64 s.lb, .int .u64 s.lc, .int .u64 s.ld, .slice A2 s.out.length c2]) k0 1 (.slice D1 s.stk.length d1) (by simp)
  have k2 := hp_put (cs' := #[.int .i64 (j : Int), .slice D1 s.stk.length d1, .int .u64 s.la, .int .u64 s.lb, .int .u64 s.lc, .int .u64 s.ld, .slice A2 s.out.length c2]) k1 2 (.int .u64 s.la) (by simp)
  have k3 := hp_put (cs' := #[.int .i64 (j : Int), .slice D1 s.stk.length d1, .int .u64 s.la, .int .u64 s.lb, .int .u64 s.lc, .int .u64 s.ld, .slice A2 s.out.length c2]) k2 3 (.int .u64 s.lb) (by simp)
  have k4 := hp_put (cs' := #[.int .i64 (j : Int), .slice D1 s.stk.length d1, .int .u64 s.la, .int .u64 s.lb, .int .u64 s.lc, .int .u64 s.ld, .slice A2 s.out.length c2]) k3 4 (.int .u64 s.lc) (by simp)
  have k5 := hp_put (cs' := #[.int .i64 (j : Int), .slice D1 s.stk.length d1, .int .u64 s.la, .int .u64 s.lb, .int .u64 s.lc, .int .u64 s.ld, .slice A2 s.out.length c2]) k4 5 (.int .u64 s.ld) (by simp)
  have k6 := hp_put (cs' := #[.int .i64 (j : Int), .slice D1 s.stk.length d1, .int .u64 s.la, .int .u64 s.lb, .int .u64 s.lc, .int .u64 s.ld, .slice D2 s.out.length d2]) k5 6 (.slice D2 s.out.length d2) (by simp)
  have hF : Fr (fun k => k ≠ g) w8 ((((((((w8).setCell ⟨g, 0, none⟩ (.int .i64 (j : Int))).setCell ⟨g, 1, none⟩ (.slice D1 s.stk.length d1)).setCell ⟨g, 2, none⟩ (.int .u64 s.la)).setCell ⟨g, 3, none⟩ (.int .u64 s.lb)).setCell ⟨g, 4, none⟩ (.int .u64 s.lc)).setCell ⟨g, 5, none⟩ (.int .u64 s.ld)).setCell ⟨g, 6, none⟩ (.slice D2 s.out.length d2)) := (((((((Fr.refl (fun k => k ≠ g) w8).trans (Fr.set _ (fun e => e rfl) _ _)).trans (Fr.set _ (fun e => e rfl) _ _)).trans (Fr.set _ (fun e => e rfl) _ _)).trans (Fr.set _ (fun e => e rfl) _ _)).trans (Fr.set _ (fun e => e rfl) _ _)).trans (Fr.set _ (fun e => e rfl) _ _)).trans (Fr.set _ (fun e => e rfl) _ _)
  have X9 := Lib.hid k6
  have Y9 := Lib.hid (hF.hp Y8.out ne2)
  have I9 := Lib.hid (hF.hp I8.out (fun e => xne.out.1 e.symm))
  have P9 := Lib.hid (row_fr P8.out hF (row_nx3 P8.out X8.out (by decide)))
  have Q9 := Lib.hid (row_fr Q8.out hF (row_nx3 Q8.out X8.out (by decide)))
  have B9 := Lib.hid (B8.out.trans (hF.toBelow (fun k hk => by have := GR.out.2.1; omega)))
  clear k0 k1 k2 k3 k4 k5 k6 hF X8 Y8 I8 P8 Q8 B8
  generalize (((((((w8).setCell ⟨g, 0, none⟩ (.int .i64 (j : Int))).setCell ⟨g, 1, none⟩ (.slice D1 s.stk.length d1)).setCell ⟨g, 2, none⟩ (.int .u64 s.la)).setCell ⟨g, 3, none⟩ (.int .u64 s.lb)).setCell ⟨g, 4, none⟩ (.int .u64 s.lc)).setCell ⟨g, 5, none⟩ (.int .u64 s.ld)).setCell ⟨g, 6, none⟩ (.slice D2 s.out.length d2) = w9 at X9 Y9 I9 P9 Q9 B9 ⊢
  have x0 : w9.cell? ⟨g, 0, none⟩ = some (.int .i64 (j : Int)) := hp_cell (X9.out) 0; have xz0 := hp_frozen (X9.out) 0; have x1 : w9.cell? ⟨g, 1, none⟩ = some (.slice D1 s.stk.length d1) := hp_cell (X9.out) 1; have xz1 := hp_frozen (X9.out) 1; have x2 : w9.cell? ⟨g, 2, none⟩ = some (.int .u64 s.la) := hp_cell (X9.out) 2; have xz2 := hp_frozen (X9.out) 2; have x3 : w9.cell? ⟨g, 3, none⟩ = some (.int .u64 s.lb) := hp_cell (X9.out) 3; have xz3 := hp_frozen (X9.out) 3; have x4 : w9.cell? ⟨g, 4, none⟩ = some (.int .u64 s.lc) := hp_cell (X9.out) 4; have xz4 := hp_frozen (X9.out) 4; have x5 : w9.cell? ⟨g, 5, none⟩ = some (.int .u64 s.ld) := hp_cell (X9.out) 5; have xz5 := hp_frozen (X9.out) 5; have x6 : w9.cell? ⟨g, 6, none⟩ = some (.slice D2 s.out.length d2) := hp_cell (X9.out) 6; have xz6 := hp_frozen (X9.out) 6; have xl := hp_lt (X9.out)
  have i0 : w9.cell? ⟨xi, 0, none⟩ = some (.int .u8 op) := hp_cell (I9.out) 0; have i1 : w9.cell? ⟨xi, 1, none⟩ = some (.int .i64 ag) := hp_cell (I9.out) 1; have i2 : w9.cell? ⟨xi, 2, none⟩ = some (.int .u64 v) := hp_cell (I9.out) 2; have il := hp_lt (I9.out)
  have yl := hp_lt Y9.out
  have xn1 : g ≠ xi := xne.out.1
  have xn2 : xi ≠ g := fun e => xn1 e.symm
  have hop := HOP.out
  subst hop
  · rcases row_form P9.out with hNE | hNE
    · rw [show s.stk.length = s.stk.length from rfl] at x1
      obtain ⟨eD, hN, ec⟩ := hNE
      subst eD
      subst ec
      rw [hN] at x1 X9
      have hNl : 0 ≤ 800 := by decide
      have kc : 0 ≤ 0 := Nat.le_refl _
      obtain ⟨pz, hpz⟩ : ∃ pz : Int, pz = 0 := ⟨0, rfl⟩
      have kw : wrap64 (-pz) = 0 := by rw [hpz]; kernel_rfl
      have HPZ := Lib.hid hpz
      clear hpz
      have kj : wrap64 ((j : Int) + 1) = (j : Int) + 1 := by have := HJ.out.2; unfold wrap64; omega
      have HEF := Lib.hid (show ∀ w : World, Calls Try.prog 37 #[.int .u8 1] w fun e w' => e = .returned (.tuple #[.int .i64 pz, .int .i64 1]) ∧ w = w' from fun w => by rw [HPZ.out]; have := refEffect_any 1 (by decide) w; rw [show popsI 1 = 0 from by decide, show pushI 1 = 1 from by decide] at this; exact this)
      go_upto_region 12 with (go_at_call 37; refine (HEF.out _).mono ?_; rintro e w' ⟨rfl, rfl⟩)
      have KC := Lib.hid (And.intro hN (And.intro hNl kc)); clear hN hNl kc kw s3 s4 d3 hpc hpl hlc hll hro
      go_upto_block 0 with fail
      have s0 := hp_put (cs' := #[.int .i64 ((j : Int) + 1), .slice none (0) 0, .int .u64 s.la, .int .u64 s.lb, .int .u64 s.lc, .int .u64 s.ld, .slice D2 s.out.length d2]) X9.out 0 (.int .i64 ((j : Int) + 1)) (by simp)
      have hF : Fr (fun k => k ≠ g) w9 ((w9).setCell ⟨g, 0, none⟩ (.int .i64 ((j : Int) + 1))) := (Fr.refl (fun k => k ≠ g) w9).trans (Fr.set _ (fun e => e rfl) _ _)
      have X10 := Lib.hid s0
      have Y10 := Lib.hid (hF.hp Y9.out ne2)
      have I10 := Lib.hid (hF.hp I9.out xn2)
      have P10 := Lib.hid (row_fr P9.out hF (row_nx3 P9.out X9.out (by decide)))
      have Q10 := Lib.hid (row_fr Q9.out hF (row_nx3 Q9.out X9.out (by decide)))
      have B10 := Lib.hid (B9.out.trans (hF.toBelow (fun k hk => by have := GR.out.2.1; omega)))
      clear s0 hF X9 Y9 I9 P9 Q9 B9
      generalize (w9).setCell ⟨g, 0, none⟩ (.int .i64 ((j : Int) + 1)) = w10 at X10 Y10 I10 P10 Q10 B10 ⊢
      clear x0 xz0 x1 xz1 x2 xz2 x3 xz3 x4 xz4 x5 xz5 x6 xz6 xl i0 i1 i2 il yl
      have x0 : w10.cell? ⟨g, 0, none⟩ = some (.int .i64 ((j : Int) + 1)) := hp_cell (X10.out) 0; have xz0 := hp_frozen (X10.out) 0; have x1 : w10.cell? ⟨g, 1, none⟩ = some (.slice none (0) 0) := hp_cell (X10.out) 1; have xz1 := hp_frozen (X10.out) 1; have x2 : w10.cell? ⟨g, 2, none⟩ = some (.int .u64 s.la) := hp_cell (X10.out) 2; have xz2 := hp_frozen (X10.out) 2; have x3 : w10.cell? ⟨g, 3, none⟩ = some (.int .u64 s.lb) := hp_cell (X10.out) 3; have xz3 := hp_frozen (X10.out) 3; have x4 : w10.cell? ⟨g, 4, none⟩ = some (.int .u64 s.lc) := hp_cell (X10.out) 4; have xz4 := hp_frozen (X10.out) 4; have x5 : w10.cell? ⟨g, 5, none⟩ = some (.int .u64 s.ld) := hp_cell (X10.out) 5; have xz5 := hp_frozen (X10.out) 5; have x6 : w10.cell? ⟨g, 6, none⟩ = some (.slice D2 s.out.length d2) := hp_cell (X10.out) 6; have xz6 := hp_frozen (X10.out) 6; have xl := hp_lt (X10.out)
      have i0 : w10.cell? ⟨xi, 0, none⟩ = some (.int .u8 1) := hp_cell (I10.out) 0; have i1 : w10.cell? ⟨xi, 1, none⟩ = some (.int .i64 ag) := hp_cell (I10.out) 1; have i2 : w10.cell? ⟨xi, 2, none⟩ = some (.int .u64 v) := hp_cell (I10.out) 2; have il := hp_lt (I10.out)
      have yl := hp_lt Y10.out
      have hvw := HOK.out.2.2
      have HVW := Lib.hid hvw
      clear hvw
      obtain ⟨L, hL⟩ : ∃ L, s.stk ++ [v] = L := ⟨_, rfl⟩
      have HLL := Lib.hid hL
      clear hL
      go_upto_region 40 with (at_builtin; go_loud (refine append_src rfl (.tmp 99) (.tmp 102) rfl w.heap.size none 0 s.stk (by rw [KC.out.1]; rfl) (row_below P10.out ((Below.refl _ _).alloc (Nat.le_refl _) _)) (some ⟨w10.heap.size, 0, none⟩) 1 [v] rfl (src_made1 HVW.out) (by have a := KC.out.1; have b := KC.out.2.1; show s.stk.length + 1 ≤ 2000; omega) (Nat.le_trans B10.out.size (by simp)) L HLL.out ?_); intro D3 d3 w11 hr11 hg11 hat11; have P11 := Lib.hid hr11; have zz := (Below.refl w10.heap.size w10).alloc (Nat.le_refl _) (.cells #[.int .u64 v] 25); have X11 := Lib.hid (hp_grown (hp_below X10.out zz) hg11 (row_nb (row_below P10.out zz) (hp_below X10.out zz) (by decide))); have Y11 := Lib.hid (hp_grown (hp_below Y10.out zz) hg11 (row_nb (row_below P10.out zz) (hp_below Y10.out zz) (by decide))); have I11 := Lib.hid (hp_grown (hp_below I10.out zz) hg11 (row_nb (row_below P10.out zz) (hp_below I10.out zz) (by decide))); have Q11 := Lib.hid (row_other (row_below Q10.out zz) hg11 (fun k hk e => DD.out k e.symm hk)); have B11 := Lib.hid ((B10.out.trans (zz.mono B10.out.size)).grown hg11 (Nat.le_trans B10.out.size zz.size) (fun k hk => (row_lt P10.out k hk).1)); clear hr11 hg11 hat11 zz; have xl' := hp_lt X11.out; have xz' := hp_frozen X11.out 1; have x1' : w11.cell? ⟨g, 1, none⟩ = some (.slice none (0) 0) := hp_cell X11.out 1)
      clear x0 xz0 x1 xz1 x2 xz2 x3 xz3 x4 xz4 x5 xz5 x6 xz6 xl i0 i1 i2 il yl
      clear xl' xz' x1'
      have s0 := hp_put (cs' := #[.int .i64 ((j : Int) + 1), .slice D3 L.length d3, .int .u64 s.la, .int .u64 s.lb, .int .u64 s.lc, .int .u64 s.ld, .slice D2 s.out.length d2]) X11.out 1 (.slice D3 L.length d3) (by simp)
      have hF : Fr (fun k => k ≠ g) w11 ((w11).setCell ⟨g, 1, none⟩ (.slice D3 L.length d3)) := (Fr.refl (fun k => k ≠ g) w11).trans (Fr.set _ (fun e => e rfl) _ _)
      have X12 := Lib.hid s0
      have Y12 := Lib.hid (hF.hp Y11.out ne2)
      have I12 := Lib.hid (hF.hp I11.out xn2)
      have P12 := Lib.hid (row_fr P11.out hF (row_nx3 P11.out X11.out (by decide)))
      have Q12 := Lib.hid (row_fr Q11.out hF (row_nx3 Q11.out X11.out (by decide)))
      have B12 := Lib.hid (B11.out.trans (hF.toBelow (fun k hk => by have := GR.out.2.1; omega)))
      clear s0 hF X11 Y11 I11 P11 Q11 B11
      generalize (w11).setCell ⟨g, 1, none⟩ (.slice D3 L.length d3) = w12 at X12 Y12 I12 P12 Q12 B12 ⊢
      have x0 : w12.cell? ⟨g, 0, none⟩ = some (.int .i64 ((j : Int) + 1)) := hp_cell (X12.out) 0; have x1 : w12.cell? ⟨g, 1, none⟩ = some (.slice D3 L.length d3) := hp_cell (X12.out) 1; have x2 : w12.cell? ⟨g, 2, none⟩ = some (.int .u64 s.la) := hp_cell (X12.out) 2; have x3 : w12.cell? ⟨g, 3, none⟩ = some (.int .u64 s.lb) := hp_cell (X12.out) 3; have x4 : w12.cell? ⟨g, 4, none⟩ = some (.int .u64 s.lc) := hp_cell (X12.out) 4; have x5 : w12.cell? ⟨g, 5, none⟩ = some (.int .u64 s.ld) := hp_cell (X12.out) 5; have x6 : w12.cell? ⟨g, 6, none⟩ = some (.slice D2 s.out.length d2) := hp_cell (X12.out) 6; have xl := hp_lt (X12.out)
      have y0 : w12.cell? ⟨r, 0, none⟩ = some (.int .i64 0) := hp_cell (Y12.out) 0; have yz0 := hp_frozen (Y12.out) 0; have y1 : w12.cell? ⟨r, 1, none⟩ = some (.slice none 0 0) := hp_cell (Y12.out) 1; have yz1 := hp_frozen (Y12.out) 1; have y2 : w12.cell? ⟨r, 2, none⟩ = some (.int .u64 0) := hp_cell (Y12.out) 2; have yz2 := hp_frozen (Y12.out) 2; have y3 : w12.cell? ⟨r, 3, none⟩ = some (.int .u64 0) := hp_cell (Y12.out) 3; have yz3 := hp_frozen (Y12.out) 3; have y4 : w12.cell? ⟨r, 4, none⟩ = some (.int .u64 0) := hp_cell (Y12.out) 4; have yz4 := hp_frozen (Y12.out) 4; have y5 : w12.cell? ⟨r, 5, none⟩ = some (.int .u64 0) := hp_cell (Y12.out) 5; have yz5 := hp_frozen (Y12.out) 5; have y6 : w12.cell? ⟨r, 6, none⟩ = some (.slice none 0 0) := hp_cell (Y12.out) 6; have yz6 := hp_frozen (Y12.out) 6; have yl := hp_lt (Y12.out)
      repeat (first | go_skip | go_guarded | go_step | go_upon)
      refine bodyPost_ret (by simp [results, Try.results13, go_sem, y0, y1, y2, y3, y4, y5, y6, ne1, ne2]; try rfl) rfl ?_
      have M1 := row_nx3 P12.out Y12.out (by decide)
      have M2 := row_nx3 Q12.out Y12.out (by decide)
      have hres : effF l.length ⟨1, ag, v⟩ { s with pc := s.pc + 1 } = .ok { s with pc := s.pc + 1, stk := L } := by rw [← HLL.out]; rfl
      have hv : #[.int .i64 ((j : Int) + 1), .slice D3 L.length d3, .int .u64 s.la, .int .u64 s.lb, .int .u64 s.lc, .int .u64 s.ld, .slice D2 s.out.length d2] = stC { s with pc := s.pc + 1, stk := L } D3 d3 D2 d2 := by unfold stC; rw [HJ.out.1]
      rw [← HRR.out, hres, hv]
      exact ⟨(bl_new (bl_new (bl_new (bl_new (bl_new (bl_new (bl_new B12.out GR.out.2.2 _) GR.out.2.2 _) GR.out.2.2 _) GR.out.2.2 _) GR.out.2.2 _) GR.out.2.2 _) GR.out.2.2 _), D3, d3, D2, d2, rfl, (row_ne (row_ne (row_ne (row_ne (row_ne (row_ne (row_ne P12.out M1 _ _) M1 _ _) M1 _ _) M1 _ _) M1 _ _) M1 _ _) M1 _ _), (row_ne (row_ne (row_ne (row_ne (row_ne (row_ne (row_ne Q12.out M2 _ _) M2 _ _) M2 _ _) M2 _ _) M2 _ _) M2 _ _) M2 _ _)⟩
    · rw [show s.stk.length = s.stk.length from rfl] at x1
      obtain ⟨N, hN, hNl⟩ : ∃ N, s.stk.length = N ∧ N ≤ 800 := ⟨_, rfl, HN.out⟩
      rw [hN] at x1 X9
      obtain ⟨pz, hpz⟩ : ∃ pz : Int, pz = 0 := ⟨0, rfl⟩
      have kw : wrap64 ((N : Int) - pz) = (N : Int) := by rw [hpz]; unfold wrap64; omega
      have HPZ := Lib.hid hpz
      clear hpz
      have kc := (row_cap P9.out).1
      rw [hN] at kc
      obtain ⟨gd, eD⟩ := hNE
      subst eD
      have kj : wrap64 ((j : Int) + 1) = (j : Int) + 1 := by have := HJ.out.2; unfold wrap64; omega
      have HEF := Lib.hid (show ∀ w : World, Calls Try.prog 37 #[.int .u8 1] w fun e w' => e = .returned (.tuple #[.int .i64 pz, .int .i64 1]) ∧ w = w' from fun w => by rw [HPZ.out]; have := refEffect_any 1 (by decide) w; rw [show popsI 1 = 0 from by decide, show pushI 1 = 1 from by decide] at this; exact this)
      go_upto_region 12 with (go_at_call 37; refine (HEF.out _).mono ?_; rintro e w' ⟨rfl, rfl⟩)
      have KC := Lib.hid (And.intro hN (And.intro hNl kc)); clear hN hNl kc kw s3 s4 d3 hpc hpl hlc hll hro
      go_upto_block 0 with fail
      have s0 := hp_put (cs' := #[.int .i64 ((j : Int) + 1), .slice (some ⟨gd, 0, none⟩) (N) d1, .int .u64 s.la, .int .u64 s.lb, .int .u64 s.lc, .int .u64 s.ld, .slice D2 s.out.length d2]) X9.out 0 (.int .i64 ((j : Int) + 1)) (by simp)
      have hF : Fr (fun k => k ≠ g) w9 ((w9).setCell ⟨g, 0, none⟩ (.int .i64 ((j : Int) + 1))) := (Fr.refl (fun k => k ≠ g) w9).trans (Fr.set _ (fun e => e rfl) _ _)
      have X10 := Lib.hid s0
      have Y10 := Lib.hid (hF.hp Y9.out ne2)
      have I10 := Lib.hid (hF.hp I9.out xn2)
      have P10 := Lib.hid (row_fr P9.out hF (row_nx3 P9.out X9.out (by decide)))
      have Q10 := Lib.hid (row_fr Q9.out hF (row_nx3 Q9.out X9.out (by decide)))
      have B10 := Lib.hid (B9.out.trans (hF.toBelow (fun k hk => by have := GR.out.2.1; omega)))
      clear s0 hF X9 Y9 I9 P9 Q9 B9
      generalize (w9).setCell ⟨g, 0, none⟩ (.int .i64 ((j : Int) + 1)) = w10 at X10 Y10 I10 P10 Q10 B10 ⊢
      clear x0 xz0 x1 xz1 x2 xz2 x3 xz3 x4 xz4 x5 xz5 x6 xz6 xl i0 i1 i2 il yl
      have x0 : w10.cell? ⟨g, 0, none⟩ = some (.int .i64 ((j : Int) + 1)) := hp_cell (X10.out) 0; have xz0 := hp_frozen (X10.out) 0; have x1 : w10.cell? ⟨g, 1, none⟩ = some (.slice (some ⟨gd, 0, none⟩) (N) d1) := hp_cell (X10.out) 1; have xz1 := hp_frozen (X10.out) 1; have x2 : w10.cell? ⟨g, 2, none⟩ = some (.int .u64 s.la) := hp_cell (X10.out) 2; have xz2 := hp_frozen (X10.out) 2; have x3 : w10.cell? ⟨g, 3, none⟩ = some (.int .u64 s.lb) := hp_cell (X10.out) 3; have xz3 := hp_frozen (X10.out) 3; have x4 : w10.cell? ⟨g, 4, none⟩ = some (.int .u64 s.lc) := hp_cell (X10.out) 4; have xz4 := hp_frozen (X10.out) 4; have x5 : w10.cell? ⟨g, 5, none⟩ = some (.int .u64 s.ld) := hp_cell (X10.out) 5; have xz5 := hp_frozen (X10.out) 5; have x6 : w10.cell? ⟨g, 6, none⟩ = some (.slice D2 s.out.length d2) := hp_cell (X10.out) 6; have xz6 := hp_frozen (X10.out) 6; have xl := hp_lt (X10.out)
      have i0 : w10.cell? ⟨xi, 0, none⟩ = some (.int .u8 1) := hp_cell (I10.out) 0; have i1 : w10.cell? ⟨xi, 1, none⟩ = some (.int .i64 ag) := hp_cell (I10.out) 1; have i2 : w10.cell? ⟨xi, 2, none⟩ = some (.int .u64 v) := hp_cell (I10.out) 2; have il := hp_lt (I10.out)
      have yl := hp_lt Y10.out
      have hvw := HOK.out.2.2
      have HVW := Lib.hid hvw
      clear hvw
      obtain ⟨L, hL⟩ : ∃ L, s.stk ++ [v] = L := ⟨_, rfl⟩
      have HLL := Lib.hid hL
      clear hL
      go_upto_region 40 with (at_builtin; go_loud (refine append_src rfl (.tmp 99) (.tmp 102) rfl w.heap.size (some ⟨gd, 0, none⟩) d1 s.stk (by rw [KC.out.1]; rfl) (row_below P10.out ((Below.refl _ _).alloc (Nat.le_refl _) _)) (some ⟨w10.heap.size, 0, none⟩) 1 [v] rfl (src_made1 HVW.out) (by have a := KC.out.1; have b := KC.out.2.1; show s.stk.length + 1 ≤ 2000; omega) (Nat.le_trans B10.out.size (by simp)) L HLL.out ?_); intro D3 d3 w11 hr11 hg11 hat11; have P11 := Lib.hid hr11; have zz := (Below.refl w10.heap.size w10).alloc (Nat.le_refl _) (.cells #[.int .u64 v] 25); have X11 := Lib.hid (hp_grown (hp_below X10.out zz) hg11 (row_nb (row_below P10.out zz) (hp_below X10.out zz) (by decide))); have Y11 := Lib.hid (hp_grown (hp_below Y10.out zz) hg11 (row_nb (row_below P10.out zz) (hp_below Y10.out zz) (by decide))); have I11 := Lib.hid (hp_grown (hp_below I10.out zz) hg11 (row_nb (row_below P10.out zz) (hp_below I10.out zz) (by decide))); have Q11 := Lib.hid (row_other (row_below Q10.out zz) hg11 (fun k hk e => DD.out k e.symm hk)); have B11 := Lib.hid ((B10.out.trans (zz.mono B10.out.size)).grown hg11 (Nat.le_trans B10.out.size zz.size) (fun k hk => (row_lt P10.out k hk).1)); clear hr11 hg11 hat11 zz; have xl' := hp_lt X11.out; have xz' := hp_frozen X11.out 1; have x1' : w11.cell? ⟨g, 1, none⟩ = some (.slice (some ⟨gd, 0, none⟩) (N) d1) := hp_cell X11.out 1)
      clear x0 xz0 x1 xz1 x2 xz2 x3 xz3 x4 xz4 x5 xz5 x6 xz6 xl i0 i1 i2 il yl
      clear xl' xz' x1'
      have s0 := hp_put (cs' := #[.int .i64 ((j : Int) + 1), .slice D3 L.length d3, .int .u64 s.la, .int .u64 s.lb, .int .u64 s.lc, .int .u64 s.ld, .slice D2 s.out.length d2]) X11.out 1 (.slice D3 L.length d3) (by simp)
      have hF : Fr (fun k => k ≠ g) w11 ((w11).setCell ⟨g, 1, none⟩ (.slice D3 L.length d3)) := (Fr.refl (fun k => k ≠ g) w11).trans (Fr.set _ (fun e => e rfl) _ _)
      have X12 := Lib.hid s0
      have Y12 := Lib.hid (hF.hp Y11.out ne2)
      have I12 := Lib.hid (hF.hp I11.out xn2)
      have P12 := Lib.hid (row_fr P11.out hF (row_nx3 P11.out X11.out (by decide)))
      have Q12 := Lib.hid (row_fr Q11.out hF (row_nx3 Q11.out X11.out (by decide)))
      have B12 := Lib.hid (B11.out.trans (hF.toBelow (fun k hk => by have := GR.out.2.1; omega)))
      clear s0 hF X11 Y11 I11 P11 Q11 B11
      generalize (w11).setCell ⟨g, 1, none⟩ (.slice D3 L.length d3) = w12 at X12 Y12 I12 P12 Q12 B12 ⊢
      have x0 : w12.cell? ⟨g, 0, none⟩ = some (.int .i64 ((j : Int) + 1)) := hp_cell (X12.out) 0; have x1 : w12.cell? ⟨g, 1, none⟩ = some (.slice D3 L.length d3) := hp_cell (X12.out) 1; have x2 : w12.cell? ⟨g, 2, none⟩ = some (.int .u64 s.la) := hp_cell (X12.out) 2; have x3 : w12.cell? ⟨g, 3, none⟩ = some (.int .u64 s.lb) := hp_cell (X12.out) 3; have x4 : w12.cell? ⟨g, 4, none⟩ = some (.int .u64 s.lc) := hp_cell (X12.out) 4; have x5 : w12.cell? ⟨g, 5, none⟩ = some (.int .u64 s.ld) := hp_cell (X12.out) 5; have x6 : w12.cell? ⟨g, 6, none⟩ = some (.slice D2 s.out.length d2) := hp_cell (X12.out) 6; have xl := hp_lt (X12.out)
      have y0 : w12.cell? ⟨r, 0, none⟩ = some (.int .i64 0) := hp_cell (Y12.out) 0; have yz0 := hp_frozen (Y12.out) 0; have y1 : w12.cell? ⟨r, 1, none⟩ = some (.slice none 0 0) := hp_cell (Y12.out) 1; have yz1 := hp_frozen (Y12.out) 1; have y2 : w12.cell? ⟨r, 2, none⟩ = some (.int .u64 0) := hp_cell (Y12.out) 2; have yz2 := hp_frozen (Y12.out) 2; have y3 : w12.cell? ⟨r, 3, none⟩ = some (.int .u64 0) := hp_cell (Y12.out) 3; have yz3 := hp_frozen (Y12.out) 3; have y4 : w12.cell? ⟨r, 4, none⟩ = some (.int .u64 0) := hp_cell (Y12.out) 4; have yz4 := hp_frozen (Y12.out) 4; have y5 : w12.cell? ⟨r, 5, none⟩ = some (.int .u64 0) := hp_cell (Y12.out) 5; have yz5 := hp_frozen (Y12.out) 5; have y6 : w12.cell? ⟨r, 6, none⟩ = some (.slice none 0 0) := hp_cell (Y12.out) 6; have yz6 := hp_frozen (Y12.out) 6; have yl := hp_lt (Y12.out)
      repeat (first | go_skip | go_guarded | go_step | go_upon)
      refine bodyPost_ret (by simp [results, Try.results13, go_sem, y0, y1, y2, y3, y4, y5, y6, ne1, ne2]; try rfl) rfl ?_
      have M1 := row_nx3 P12.out Y12.out (by decide)
      have M2 := row_nx3 Q12.out Y12.out (by decide)
      have hres : effF l.length ⟨1, ag, v⟩ { s with pc := s.pc + 1 } = .ok { s with pc := s.pc + 1, stk := L } := by rw [← HLL.out]; rfl
      have hv : #[.int .i64 ((j : Int) + 1), .slice D3 L.length d3, .int .u64 s.la, .int .u64 s.lb, .int .u64 s.lc, .int .u64 s.ld, .slice D2 s.out.length d2] = stC { s with pc := s.pc + 1, stk := L } D3 d3 D2 d2 := by unfold stC; rw [HJ.out.1]
      rw [← HRR.out, hres, hv]
      exact ⟨(bl_new (bl_new (bl_new (bl_new (bl_new (bl_new (bl_new B12.out GR.out.2.2 _) GR.out.2.2 _) GR.out.2.2 _) GR.out.2.2 _) GR.out.2.2 _) GR.out.2.2 _) GR.out.2.2 _), D3, d3, D2, d2, rfl, (row_ne (row_ne (row_ne (row_ne (row_ne (row_ne (row_ne P12.out M1 _ _) M1 _ _) M1 _ _) M1 _ _) M1 _ _) M1 _ _) M1 _ _), (row_ne (row_ne (row_ne (row_ne (row_ne (row_ne (row_ne Q12.out M2 _ _) M2 _ _) M2 _ _) M2 _ _) M2 _ _) M2 _ _) M2 _ _)⟩
set_option maxRecDepth 20000 in
set_option maxHeartbeats 8000000 in
theorem refStep_o19 (l : List Ins3) (c : Nat) (A : Option Addr) (hlc : l.length ≤ c) (hll : l.length ≤ 900) (s : St) (hn : s.stk.length ≤ 800) (hro : s.out.length ≤ 800) (A1 : Option Addr) (c1 : Nat) (A2 : Option Addr) (c2 : Nat) (w : World) (h1 : Src w A1 c1 s.stk) (h2 : Src w A2 c2 s.out) (hi : InssAt w A l) (hpc : 0 ≤ s.pc) (hpl : s.pc < (l.length : Int)) (op ag v : Int) (hx : xn l s.pc.toNat = ⟨op, ag, v⟩) (hop : op = 19) (hso : s.ok) (hr : rightI ⟨op, ag, v⟩ = true) (hs : specI op = false) (hfi : fitI op s.stk.length = true) : Calls Try.prog 13 #[.slice A l.length c, stV s A1 c1 A2 c2] w (RPost (effF l.length ⟨op, ag, v⟩ { s with pc := s.pc + 1 }) w) := by
  have HLOC := Lib.hid hso.2
  have HOP := Lib.hid hop
  clear hso hop
  obtain ⟨RR, hRR⟩ : ∃ R, effF l.length ⟨op, ag, v⟩ { s with pc := s.pc + 1 } = R := ⟨_, rfl⟩
  rw [hRR]
  have HRR := Lib.hid hRR
  clear hRR
  have d : decide (s.pc < 0) = false := decide_eq_false (by omega)
  have d2 : decide (s.pc ≥ (l.length : Int)) = false := decide_eq_false (by omega)
  have d3 : decide ((l.length : Int) ≤ s.pc) = false := d2
  have z1 := (Below.refl w.heap.size w).alloc (Nat.le_refl _) (.cells #[.int .i64 s.pc, .slice A1 s.stk.length c1, .int .u64 s.la, .int .u64 s.lb, .int .u64 s.lc, .int .u64 s.ld, .slice A2 s.out.length c2] 28)
  have z2 := z1.alloc z1.size (.cells #[.int .i64 0, .slice none 0 0, .int .u64 0, .int .u64 0, .int .u64 0, .int .u64 0, .slice none 0 0] 28)
  have X1 := Lib.hid (hp_alloc (heap_alloc_new w (.cells #[.int .i64 s.pc, .slice A1 s.stk.length c1, .int .u64 s.la, .int .u64 s.lb, .int .u64 s.lc, .int .u64 s.ld, .slice A2 s.out.length c2] 28)) (.cells #[.int .i64 0, .slice none 0 0, .int .u64 0, .int .u64 0, .int .u64 0, .int .u64 0, .slice none 0 0] 28))
  have Y1 := Lib.hid (show ((w.alloc (.cells #[.int .i64 s.pc, .slice A1 s.stk.length c1, .int .u64 s.la, .int .u64 s.lb, .int .u64 s.lc, .int .u64 s.ld, .slice A2 s.out.length c2] 28)).alloc (.cells #[.int .i64 0, .slice none 0 0, .int .u64 0, .int .u64 0, .int .u64 0, .int .u64 0, .slice none 0 0] 28)).heap[w.heap.size + 1]? = some (.cells #[.int .i64 0, .slice none 0 0, .int .u64 0, .int .u64 0, .int .u64 0, .int .u64 0, .slice none 0 0] 28 (0, 0)) from (congrArg _ (by simp)).trans (heap_alloc_new (w.alloc (.cells #[.int .i64 s.pc, .slice A1 s.stk.length c1, .int .u64 s.la, .int .u64 s.lb, .int .u64 s.lc, .int .u64 s.ld, .slice A2 s.out.length c2] 28)) (.cells #[.int .i64 0, .slice none 0 0, .int .u64 0, .int .u64 0, .int .u64 0, .int .u64 0, .slice none 0 0] 28)))
  have B1 := Lib.hid z2
  have HI := Lib.hid hi
  have G1 := Lib.hid h1
  have G2 := Lib.hid h2
  clear z1 z2 h1 h2 hi
  unfold stV stC
  go_enter Try.func13, Try.ntmps13
  go_upto_region 1 with fail
  generalize World.alloc _ _ = w2 at X1 Y1 B1 ⊢
  obtain ⟨g, hg⟩ : ∃ g, w.heap.size = g := ⟨_, rfl⟩
  obtain ⟨r, hr⟩ : ∃ r, w.heap.size + 1 = r := ⟨_, rfl⟩
  rw [hg] at X1
  rw [hr] at Y1
  rw [hr, hg]
  have gr : g ≠ r := by omega
  have gb : w.heap.size ≤ g := by omega
  have rb : w.heap.size ≤ r := by omega
  have GR := Lib.hid (And.intro gr (And.intro gb rb))
  clear hg hr gr gb rb
  have x0 : w2.cell? ⟨g, 0, none⟩ = some (.int .i64 s.pc) := hp_cell (X1.out) 0; have x1 : w2.cell? ⟨g, 1, none⟩ = some (.slice A1 s.stk.length c1) := hp_cell (X1.out) 1; have x2 : w2.cell? ⟨g, 2, none⟩ = some (.int .u64 s.la) := hp_cell (X1.out) 2; have x3 : w2.cell? ⟨g, 3, none⟩ = some (.int .u64 s.lb) := hp_cell (X1.out) 3; have x4 : w2.cell? ⟨g, 4, none⟩ = some (.int .u64 s.lc) := hp_cell (X1.out) 4; have x5 : w2.cell? ⟨g, 5, none⟩ = some (.int .u64 s.ld) := hp_cell (X1.out) 5; have x6 : w2.cell? ⟨g, 6, none⟩ = some (.slice A2 s.out.length c2) := hp_cell (X1.out) 6; have xl := hp_lt (X1.out)
  have y0 : w2.cell? ⟨r, 0, none⟩ = some (.int .i64 0) := hp_cell (Y1.out) 0; have yz0 := hp_frozen (Y1.out) 0; have y1 : w2.cell? ⟨r, 1, none⟩ = some (.slice none 0 0) := hp_cell (Y1.out) 1; have yz1 := hp_frozen (Y1.out) 1; have y2 : w2.cell? ⟨r, 2, none⟩ = some (.int .u64 0) := hp_cell (Y1.out) 2; have yz2 := hp_frozen (Y1.out) 2; have y3 : w2.cell? ⟨r, 3, none⟩ = some (.int .u64 0) := hp_cell (Y1.out) 3; have yz3 := hp_frozen (Y1.out) 3; have y4 : w2.cell? ⟨r, 4, none⟩ = some (.int .u64 0) := hp_cell (Y1.out) 4; have yz4 := hp_frozen (Y1.out) 4; have y5 : w2.cell? ⟨r, 5, none⟩ = some (.int .u64 0) := hp_cell (Y1.out) 5; have yz5 := hp_frozen (Y1.out) 5; have y6 : w2.cell? ⟨r, 6, none⟩ = some (.slice none 0 0) := hp_cell (Y1.out) 6; have yz6 := hp_frozen (Y1.out) 6; have yl := hp_lt (Y1.out)
  have ne1 := GR.out.1
  have ne2 : r ≠ g := fun e => ne1 e.symm
  obtain ⟨j, hj⟩ : ∃ j : Nat, s.pc = (j : Int) := ⟨s.pc.toNat, by omega⟩
  have hjl : j < l.length := by omega
  have hjn : s.pc.toNat = j := by omega
  rw [hjn] at hx
  have HJ := Lib.hid (And.intro hj hjl)
  rw [hj] at d d2 d3 x0
  have I2 := Lib.hid (inss_below HI.out B1.out)
  obtain ⟨ad, rfl, _⟩ := xn_at I2.out hjl
  have hI3 := xn_some I2.out hjl
  rw [hx] at hI3
  obtain ⟨hok, a0, a1, a2⟩ := hI3
  dsimp only at a0 a1 a2
  have la : (ad.add (j * 3)).block < w2.heap.size := inAt_lt (xn_some I2.out hjl)
  have la' : ad.block < w2.heap.size := by
    have e : (ad.add (j * 3)).block = ad.block := by unfold Addr.add; split <;> rfl
    omega
  have s3 : (j : Int) < (l.length : Int) := by omega
  have s4 : (0 : Int) ≤ (j : Int) := by omega
  have HOK := Lib.hid hok
  have HC := Lib.hid (fun w => refRight14_any ⟨op, ag, v⟩ hok w)
  unfold inV at HC
  have HP := Lib.hid (fun w => refPlain_any op hok.1.1 w)
  have HR := Lib.hid hr
  clear hok hr hj hjl hjn hx
  have HS := Lib.hid hs
  have HN := Lib.hid hn
  have HFI := Lib.hid hfi
  clear hs hn hfi
  go_upto_region 3 with (first | (go_at_call 33; refine (HC.out _).mono ?_; rintro e w4 ⟨rfl, hb4⟩; rw [HR.out]; have B4 := Lib.hid (B1.out.trans (hb4.mono B1.out.size)); have X4 := Lib.hid (hp_below X1.out hb4); have Y4 := Lib.hid (hp_below Y1.out hb4); have I4 := Lib.hid (inss_below I2.out hb4); have la4 := Nat.lt_of_lt_of_le la' hb4.size; have a0' := (World.cell?_of_block (hb4.block _ la)).trans a0; have a1' := (World.cell?_of_block (a := ⟨(ad.add (j * 3)).block, (ad.add (j * 3)).off + 1, none⟩) (hb4.block _ la)).trans a1; have a2' := (World.cell?_of_block (a := ⟨(ad.add (j * 3)).block, (ad.add (j * 3)).off + 2, none⟩) (hb4.block _ la)).trans a2; clear a0 a1 a2 la hb4; have u0 : w4.cell? ⟨g, 0, none⟩ = some (.int .i64 s.pc) := hp_cell (X4.out) 0; have u1 : w4.cell? ⟨g, 1, none⟩ = some (.slice A1 s.stk.length c1) := hp_cell (X4.out) 1; have u2 : w4.cell? ⟨g, 2, none⟩ = some (.int .u64 s.la) := hp_cell (X4.out) 2; have u3 : w4.cell? ⟨g, 3, none⟩ = some (.int .u64 s.lb) := hp_cell (X4.out) 3; have u4 : w4.cell? ⟨g, 4, none⟩ = some (.int .u64 s.lc) := hp_cell (X4.out) 4; have u5 : w4.cell? ⟨g, 5, none⟩ = some (.int .u64 s.ld) := hp_cell (X4.out) 5; have u6 : w4.cell? ⟨g, 6, none⟩ = some (.slice A2 s.out.length c2) := hp_cell (X4.out) 6; have ul := hp_lt (X4.out); rw [HJ.out.1] at u0; have v0 : w4.cell? ⟨r, 0, none⟩ = some (.int .i64 0) := hp_cell (Y4.out) 0; have vz0 := hp_frozen (Y4.out) 0; have v1 : w4.cell? ⟨r, 1, none⟩ = some (.slice none 0 0) := hp_cell (Y4.out) 1; have vz1 := hp_frozen (Y4.out) 1; have v2 : w4.cell? ⟨r, 2, none⟩ = some (.int .u64 0) := hp_cell (Y4.out) 2; have vz2 := hp_frozen (Y4.out) 2; have v3 : w4.cell? ⟨r, 3, none⟩ = some (.int .u64 0) := hp_cell (Y4.out) 3; have vz3 := hp_frozen (Y4.out) 3; have v4 : w4.cell? ⟨r, 4, none⟩ = some (.int .u64 0) := hp_cell (Y4.out) 4; have vz4 := hp_frozen (Y4.out) 4; have v5 : w4.cell? ⟨r, 5, none⟩ = some (.int .u64 0) := hp_cell (Y4.out) 5; have vz5 := hp_frozen (Y4.out) 5; have v6 : w4.cell? ⟨r, 6, none⟩ = some (.slice none 0 0) := hp_cell (Y4.out) 6; have vz6 := hp_frozen (Y4.out) 6; have vl := hp_lt (Y4.out)) | (go_at_call 34; refine (HP.out _).mono ?_; rintro e w' ⟨rfl, rfl⟩; rw [HS.out]))
  have laj : (ad.add (j * 3)).block < w4.heap.size := inAt_lt (xn_some I4.out HJ.out.2)
  go_upto_region 4 with fail
  have z6 := (Below.refl w4.heap.size w4).alloc (Nat.le_refl _) (.cells #[.int .u8 op, .int .i64 ag, .int .u64 v] 42)
  have X6 := Lib.hid (heap_alloc_new w4 (.cells #[.int .u8 op, .int .i64 ag, .int .u64 v] 42))
  have X5 := Lib.hid (hp_below X4.out z6)
  have Y5 := Lib.hid (hp_below Y4.out z6)
  have B5 := Lib.hid (B4.out.alloc B4.out.size (.cells #[.int .u8 op, .int .i64 ag, .int .u64 v] 42))
  have xne := Lib.hid (show g ≠ w4.heap.size ∧ r ≠ w4.heap.size from ⟨fun e => Nat.lt_irrefl _ (e ▸ ul), fun e => Nat.lt_irrefl _ (e ▸ vl)⟩)
  have S5 := Lib.hid (show w.heap.size ≤ w4.heap.size from B4.out.size)
  clear z6 X4 Y4 B4 I4 la4 laj a0' a1' a2' u0  v0 vz0 u1  v1 vz1 u2  v2 vz2 u3  v3 vz3 u4  v4 vz4 u5  v5 vz5 u6  v6 vz6 ul vl x0 y0 yz0 x1 y1 yz1 x2 y2 yz2 x3 y3 yz3 x4 y4 yz4 x5 y5 yz5 x6 y6 yz6 xl yl
  generalize w4.alloc _ = w5 at X6 X5 Y5 B5 ⊢
  obtain ⟨xi, hxi⟩ : ∃ x, w4.heap.size = x := ⟨_, rfl⟩
  rw [hxi] at X6 xne S5 ⊢
  clear hxi
  have x0 : w5.cell? ⟨g, 0, none⟩ = some (.int .i64 s.pc) := hp_cell (X5.out) 0; have x1 : w5.cell? ⟨g, 1, none⟩ = some (.slice A1 s.stk.length c1) := hp_cell (X5.out) 1; have x2 : w5.cell? ⟨g, 2, none⟩ = some (.int .u64 s.la) := hp_cell (X5.out) 2; have x3 : w5.cell? ⟨g, 3, none⟩ = some (.int .u64 s.lb) := hp_cell (X5.out) 3; have x4 : w5.cell? ⟨g, 4, none⟩ = some (.int .u64 s.lc) := hp_cell (X5.out) 4; have x5 : w5.cell? ⟨g, 5, none⟩ = some (.int .u64 s.ld) := hp_cell (X5.out) 5; have x6 : w5.cell? ⟨g, 6, none⟩ = some (.slice A2 s.out.length c2) := hp_cell (X5.out) 6; have xl := hp_lt (X5.out)
  rw [HJ.out.1] at x0
  have y0 : w5.cell? ⟨r, 0, none⟩ = some (.int .i64 0) := hp_cell (Y5.out) 0; have yz0 := hp_frozen (Y5.out) 0; have y1 : w5.cell? ⟨r, 1, none⟩ = some (.slice none 0 0) := hp_cell (Y5.out) 1; have yz1 := hp_frozen (Y5.out) 1; have y2 : w5.cell? ⟨r, 2, none⟩ = some (.int .u64 0) := hp_cell (Y5.out) 2; have yz2 := hp_frozen (Y5.out) 2; have y3 : w5.cell? ⟨r, 3, none⟩ = some (.int .u64 0) := hp_cell (Y5.out) 3; have yz3 := hp_frozen (Y5.out) 3; have y4 : w5.cell? ⟨r, 4, none⟩ = some (.int .u64 0) := hp_cell (Y5.out) 4; have yz4 := hp_frozen (Y5.out) 4; have y5 : w5.cell? ⟨r, 5, none⟩ = some (.int .u64 0) := hp_cell (Y5.out) 5; have yz5 := hp_frozen (Y5.out) 5; have y6 : w5.cell? ⟨r, 6, none⟩ = some (.slice none 0 0) := hp_cell (Y5.out) 6; have yz6 := hp_frozen (Y5.out) 6; have yl := hp_lt (Y5.out)
  have i0 : w5.cell? ⟨xi, 0, none⟩ = some (.int .u8 op) := hp_cell X6.out 0
  have il := hp_lt X6.out
  have HFT := Lib.hid (show ∀ w : World, Calls Try.prog 35 #[.int .u8 op, .agg #[.int .i64 (j : Int), .slice A1 s.stk.length c1, .int .u64 s.la, .int .u64 s.lb, .int .u64 s.lc, .int .u64 s.ld, .slice A2 s.out.length c2]] w fun e w' => e = .returned (.int .i64 0) ∧ Below w.heap.size w w' from fun w => by have := refFits_any op HOK.out.1.1 s A1 c1 A2 c2 (by have := HN.out; omega) w; unfold stV stC at this; rw [HFI.out, HJ.out.1] at this; exact this)
  have HCP := Lib.hid (show ∀ w' : World, Below w.heap.size w w' → Calls Try.prog 36 #[.agg #[.int .i64 (j : Int), .slice A1 s.stk.length c1, .int .u64 s.la, .int .u64 s.lb, .int .u64 s.lc, .int .u64 s.ld, .slice A2 s.out.length c2]] w' (fun e w2 => ∃ D1 d1 D2 d2, e = .returned (.agg #[.int .i64 (j : Int), .slice D1 s.stk.length d1, .int .u64 s.la, .int .u64 s.lb, .int .u64 s.lc, .int .u64 s.ld, .slice D2 s.out.length d2]) ∧ RowAt w2 w'.heap.size D1 d1 s.stk ∧ RowAt w2 w'.heap.size D2 d2 s.out ∧ (∀ k, blk D1 = some k → blk D2 ≠ some k) ∧ Below w'.heap.size w' w2) from fun w' hb => by have := refCopied_any s A1 c1 A2 c2 w' (G1.out.below hb) (G2.out.below hb); unfold CopyPost stV stC at this; rw [HJ.out.1] at this; exact this)
  go_upto_region 8 with (first | (go_at_call 35; refine (HFT.out _).mono ?_; rintro e w7 ⟨rfl, hb7⟩; have X7 := Lib.hid (hp_below X5.out hb7); have Y7 := Lib.hid (hp_below Y5.out hb7); have I7 := Lib.hid (hp_below X6.out hb7); have B7 := Lib.hid (B5.out.trans (hb7.mono B5.out.size)); clear hb7; clear x0 y0 yz0 x1 y1 yz1 x2 y2 yz2 x3 y3 yz3 x4 y4 yz4 x5 y5 yz5 x6 y6 yz6 xl yl i0 il; have x0 : w7.cell? ⟨g, 0, none⟩ = some (.int .i64 s.pc) := hp_cell (X7.out) 0; have xz0 := hp_frozen (X7.out) 0; have x1 : w7.cell? ⟨g, 1, none⟩ = some (.slice A1 s.stk.length c1) := hp_cell (X7.out) 1; have xz1 := hp_frozen (X7.out) 1; have x2 : w7.cell? ⟨g, 2, none⟩ = some (.int .u64 s.la) := hp_cell (X7.out) 2; have xz2 := hp_frozen (X7.out) 2; have x3 : w7.cell? ⟨g, 3, none⟩ = some (.int .u64 s.lb) := hp_cell (X7.out) 3; have xz3 := hp_frozen (X7.out) 3; have x4 : w7.cell? ⟨g, 4, none⟩ = some (.int .u64 s.lc) := hp_cell (X7.out) 4; have xz4 := hp_frozen (X7.out) 4; have x5 : w7.cell? ⟨g, 5, none⟩ = some (.int .u64 s.ld) := hp_cell (X7.out) 5; have xz5 := hp_frozen (X7.out) 5; have x6 : w7.cell? ⟨g, 6, none⟩ = some (.slice A2 s.out.length c2) := hp_cell (X7.out) 6; have xz6 := hp_frozen (X7.out) 6; have xl := hp_lt (X7.out); rw [HJ.out.1] at x0; have yl := hp_lt Y7.out) | (go_at_call 36; refine (HCP.out _ B7.out).mono ?_; rintro e w8 ⟨D1, d1, D2, d2, rfl, hr1, hr2, hd, hb8⟩; have B8 := Lib.hid (B7.out.trans (hb8.mono B7.out.size)); have X8 := Lib.hid (hp_below X7.out hb8); have Y8 := Lib.hid (hp_below Y7.out hb8); have I8 := Lib.hid (hp_below I7.out hb8); have P8 := Lib.hid (row_base hr1 B7.out.size); have Q8 := Lib.hid (row_base hr2 B7.out.size); have DD := Lib.hid hd; clear hr1 hr2 hd hb8; clear x0 xz0 x1 xz1 x2 xz2 x3 xz3 x4 xz4 x5 xz5 x6 xz6 xl yl; have x0 : w8.cell? ⟨g, 0, none⟩ = some (.int .i64 s.pc) := hp_cell (X8.out) 0; have xz0 := hp_frozen (X8.out) 0; have x1 : w8.cell? ⟨g, 1, none⟩ = some (.slice A1 s.stk.length c1) := hp_cell (X8.out) 1; have xz1 := hp_frozen (X8.out) 1; have x2 : w8.cell? ⟨g, 2, none⟩ = some (.int .u64 s.la) := hp_cell (X8.out) 2; have xz2 := hp_frozen (X8.out) 2; have x3 : w8.cell? ⟨g, 3, none⟩ = some (.int .u64 s.lb) := hp_cell (X8.out) 3; have xz3 := hp_frozen (X8.out) 3; have x4 : w8.cell? ⟨g, 4, none⟩ = some (.int .u64 s.lc) := hp_cell (X8.out) 4; have xz4 := hp_frozen (X8.out) 4; have x5 : w8.cell? ⟨g, 5, none⟩ = some (.int .u64 s.ld) := hp_cell (X8.out) 5; have xz5 := hp_frozen (X8.out) 5; have x6 : w8.cell? ⟨g, 6, none⟩ = some (.slice A2 s.out.length c2) := hp_cell (X8.out) 6; have xz6 := hp_frozen (X8.out) 6; have xl := hp_lt (X8.out); rw [HJ.out.1] at x0))
  clear x0 xz0 x1 xz1 x2 xz2 x3 xz3 x4 xz4 x5 xz5 x6 xz6 xl
  have X8 : Hid (w8.heap[g]? = some (.cells #[.int .i64 (j : Int), .slice A1 s.stk.length c1, .int .u64 s.la, .int .u64 s.lb, .int .u64 s.lc, .int .u64 s.ld, .slice A2 s.out.length c2] 28 (0, 0))) := Lib.hid (by rw [← HJ.out.1]; exact X8.out)
  have k0 := hp_put (cs' := #[.int .i64 (j : Int), .slice A1 s.stk.length c1, .int .u64 s.la, .int .u64 s.lb, .int .u64 s.lc, .int .u64 s.ld, .slice A2 s.out.length c2]) X8.out 0 (.int .i64 (j : Int)) (by simp)
  have k1 := hp_put (cs' := #[.int .i64 (j : Int), .slice D1 s.stk.length d1, .int .u64 s.la, .int .u64 s.lb, .int .u64 s.lc, .int .u64 s.ld, .slice A2 s.out.length c2]) k0 1 (.slice D1 s.stk.length d1) (by simp)
  have k2 := hp_put (cs' := #[.int .i64 (j : Int), .slice D1 s.stk.length d1, .int .u64 s.la, .int .u64 s.lb, .int .u64 s.lc, .int .u64 s.ld, .slice A2 s.out.length c2]) k1 2 (.int .u64 s.la) (by simp)
  have k3 := hp_put (cs' := #[.int .i64 (j : Int), .slice D1 s.stk.length d1, .int .u64 s.la, .int .u64 s.lb, .int .u64 s.lc, .int .u64 s.ld, .slice A2 s.out.length c2]) k2 3 (.int .u64 s.lb) (by simp)
  have k4 := hp_put (cs' := #[.int .i64 (j : Int), .slice D1 s.stk.length d1, .int .u64 s.la, .int .u64 s.lb, .int .u64 s.lc, .int .u64 s.ld, .slice A2 s.out.length c2]) k3 4 (.int .u64 s.lc) (by simp)
  have k5 := hp_put (cs' := #[.int .i64 (j : Int), .slice D1 s.stk.length d1, .int .u64 s.la, .int .u64 s.lb, .int .u64 s.lc, .int .u64 s.ld, .slice A2 s.out.length c2]) k4 5 (.int .u64 s.ld) (by simp)
  have k6 := hp_put (cs' := #[.int .i64 (j : Int), .slice D1 s.stk.length d1, .int .u64 s.la, .int .u64 s.lb, .int .u64 s.lc, .int .u64 s.ld, .slice D2 s.out.length d2]) k5 6 (.slice D2 s.out.length d2) (by simp)
  have hF : Fr (fun k => k ≠ g) w8 ((((((((w8).setCell ⟨g, 0, none⟩ (.int .i64 (j : Int))).setCell ⟨g, 1, none⟩ (.slice D1 s.stk.length d1)).setCell ⟨g, 2, none⟩ (.int .u64 s.la)).setCell ⟨g, 3, none⟩ (.int .u64 s.lb)).setCell ⟨g, 4, none⟩ (.int .u64 s.lc)).setCell ⟨g, 5, none⟩ (.int .u64 s.ld)).setCell ⟨g, 6, none⟩ (.slice D2 s.out.length d2)) := (((((((Fr.refl (fun k => k ≠ g) w8).trans (Fr.set _ (fun e => e rfl) _ _)).trans (Fr.set _ (fun e => e rfl) _ _)).trans (Fr.set _ (fun e => e rfl) _ _)).trans (Fr.set _ (fun e => e rfl) _ _)).trans (Fr.set _ (fun e => e rfl) _ _)).trans (Fr.set _ (fun e => e rfl) _ _)).trans (Fr.set _ (fun e => e rfl) _ _)
  have X9 := Lib.hid k6
  have Y9 := Lib.hid (hF.hp Y8.out ne2)
  have I9 := Lib.hid (hF.hp I8.out (fun e => xne.out.1 e.symm))
  have P9 := Lib.hid (row_fr P8.out hF (row_nx3 P8.out X8.out (by decide)))
  have Q9 := Lib.hid (row_fr Q8.out hF (row_nx3 Q8.out X8.out (by decide)))
  have B9 := Lib.hid (B8.out.trans (hF.toBelow (fun k hk => by have := GR.out.2.1; omega)))
  clear k0 k1 k2 k3 k4 k5 k6 hF X8 Y8 I8 P8 Q8 B8
  generalize (((((((w8).setCell ⟨g, 0, none⟩ (.int .i64 (j : Int))).setCell ⟨g, 1, none⟩ (.slice D1 s.stk.length d1)).setCell ⟨g, 2, none⟩ (.int .u64 s.la)).setCell ⟨g, 3, none⟩ (.int .u64 s.lb)).setCell ⟨g, 4, none⟩ (.int .u64 s.lc)).setCell ⟨g, 5, none⟩ (.int .u64 s.ld)).setCell ⟨g, 6, none⟩ (.slice D2 s.out.length d2) = w9 at X9 Y9 I9 P9 Q9 B9 ⊢
  have x0 : w9.cell? ⟨g, 0, none⟩ = some (.int .i64 (j : Int)) := hp_cell (X9.out) 0; have xz0 := hp_frozen (X9.out) 0; have x1 : w9.cell? ⟨g, 1, none⟩ = some (.slice D1 s.stk.length d1) := hp_cell (X9.out) 1; have xz1 := hp_frozen (X9.out) 1; have x2 : w9.cell? ⟨g, 2, none⟩ = some (.int .u64 s.la) := hp_cell (X9.out) 2; have xz2 := hp_frozen (X9.out) 2; have x3 : w9.cell? ⟨g, 3, none⟩ = some (.int .u64 s.lb) := hp_cell (X9.out) 3; have xz3 := hp_frozen (X9.out) 3; have x4 : w9.cell? ⟨g, 4, none⟩ = some (.int .u64 s.lc) := hp_cell (X9.out) 4; have xz4 := hp_frozen (X9.out) 4; have x5 : w9.cell? ⟨g, 5, none⟩ = some (.int .u64 s.ld) := hp_cell (X9.out) 5; have xz5 := hp_frozen (X9.out) 5; have x6 : w9.cell? ⟨g, 6, none⟩ = some (.slice D2 s.out.length d2) := hp_cell (X9.out) 6; have xz6 := hp_frozen (X9.out) 6; have xl := hp_lt (X9.out)
  have i0 : w9.cell? ⟨xi, 0, none⟩ = some (.int .u8 op) := hp_cell (I9.out) 0; have i1 : w9.cell? ⟨xi, 1, none⟩ = some (.int .i64 ag) := hp_cell (I9.out) 1; have i2 : w9.cell? ⟨xi, 2, none⟩ = some (.int .u64 v) := hp_cell (I9.out) 2; have il := hp_lt (I9.out)
  have yl := hp_lt Y9.out
  have xn1 : g ≠ xi := xne.out.1
  have xn2 : xi ≠ g := fun e => xn1 e.symm
  have hop := HOP.out
  subst hop
  · rcases row_form P9.out with hNE | hNE
    · rw [show s.stk.length = s.stk.length from rfl] at x1
      obtain ⟨eD, hN, ec⟩ := hNE
      subst eD
      subst ec
      rw [hN] at x1 X9
      have hNl : 0 ≤ 800 := by decide
      have kc : 0 ≤ 0 := Nat.le_refl _
      obtain ⟨pz, hpz⟩ : ∃ pz : Int, pz = 0 := ⟨0, rfl⟩
      have kw : wrap64 (-pz) = 0 := by rw [hpz]; kernel_rfl
      have HPZ := Lib.hid hpz
      clear hpz
      have kj : wrap64 ((j : Int) + 1) = (j : Int) + 1 := by have := HJ.out.2; unfold wrap64; omega
      have HEF := Lib.hid (show ∀ w : World, Calls Try.prog 37 #[.int .u8 19] w fun e w' => e = .returned (.tuple #[.int .i64 pz, .int .i64 0]) ∧ w = w' from fun w => by rw [HPZ.out]; have := refEffect_any 19 (by decide) w; rw [show popsI 19 = 0 from by decide, show pushI 19 = 0 from by decide] at this; exact this)
      go_upto_region 12 with (go_at_call 37; refine (HEF.out _).mono ?_; rintro e w' ⟨rfl, rfl⟩)
      have KC := Lib.hid (And.intro hN (And.intro hNl kc)); clear hN hNl kc kw s3 s4 d3 hpc hpl hlc hll hro
      go_upto_block 0 with fail
      have s0 := hp_put (cs' := #[.int .i64 ((j : Int) + 1), .slice none (0) 0, .int .u64 s.la, .int .u64 s.lb, .int .u64 s.lc, .int .u64 s.ld, .slice D2 s.out.length d2]) X9.out 0 (.int .i64 ((j : Int) + 1)) (by simp)
      have hF : Fr (fun k => k ≠ g) w9 ((w9).setCell ⟨g, 0, none⟩ (.int .i64 ((j : Int) + 1))) := (Fr.refl (fun k => k ≠ g) w9).trans (Fr.set _ (fun e => e rfl) _ _)
      have X10 := Lib.hid s0
      have Y10 := Lib.hid (hF.hp Y9.out ne2)
      have I10 := Lib.hid (hF.hp I9.out xn2)
      have P10 := Lib.hid (row_fr P9.out hF (row_nx3 P9.out X9.out (by decide)))
      have Q10 := Lib.hid (row_fr Q9.out hF (row_nx3 Q9.out X9.out (by decide)))
      have B10 := Lib.hid (B9.out.trans (hF.toBelow (fun k hk => by have := GR.out.2.1; omega)))
      clear s0 hF X9 Y9 I9 P9 Q9 B9
      generalize (w9).setCell ⟨g, 0, none⟩ (.int .i64 ((j : Int) + 1)) = w10 at X10 Y10 I10 P10 Q10 B10 ⊢
      clear x0 xz0 x1 xz1 x2 xz2 x3 xz3 x4 xz4 x5 xz5 x6 xz6 xl i0 i1 i2 il yl
      by_cases hag : ag ≤ (l.length : Int)
      · have q1 : decide (ag > (l.length : Int)) = false := decide_eq_false (by omega)
        have q2 : decide ((l.length : Int) < ag) = false := q1
        have HAG := Lib.hid hag
        clear hag
        have x0 : w10.cell? ⟨g, 0, none⟩ = some (.int .i64 ((j : Int) + 1)) := hp_cell (X10.out) 0; have xz0 := hp_frozen (X10.out) 0; have x1 : w10.cell? ⟨g, 1, none⟩ = some (.slice none (0) 0) := hp_cell (X10.out) 1; have xz1 := hp_frozen (X10.out) 1; have x2 : w10.cell? ⟨g, 2, none⟩ = some (.int .u64 s.la) := hp_cell (X10.out) 2; have xz2 := hp_frozen (X10.out) 2; have x3 : w10.cell? ⟨g, 3, none⟩ = some (.int .u64 s.lb) := hp_cell (X10.out) 3; have xz3 := hp_frozen (X10.out) 3; have x4 : w10.cell? ⟨g, 4, none⟩ = some (.int .u64 s.lc) := hp_cell (X10.out) 4; have xz4 := hp_frozen (X10.out) 4; have x5 : w10.cell? ⟨g, 5, none⟩ = some (.int .u64 s.ld) := hp_cell (X10.out) 5; have xz5 := hp_frozen (X10.out) 5; have x6 : w10.cell? ⟨g, 6, none⟩ = some (.slice D2 s.out.length d2) := hp_cell (X10.out) 6; have xz6 := hp_frozen (X10.out) 6; have xl := hp_lt (X10.out)
        have i0 : w10.cell? ⟨xi, 0, none⟩ = some (.int .u8 19) := hp_cell (I10.out) 0; have i1 : w10.cell? ⟨xi, 1, none⟩ = some (.int .i64 ag) := hp_cell (I10.out) 1; have i2 : w10.cell? ⟨xi, 2, none⟩ = some (.int .u64 v) := hp_cell (I10.out) 2; have il := hp_lt (I10.out)
        have yl := hp_lt Y10.out
        go_upto_region 40 with fail
        have s0 := hp_put (cs' := #[.int .i64 ag, .slice none (0) 0, .int .u64 s.la, .int .u64 s.lb, .int .u64 s.lc, .int .u64 s.ld, .slice D2 s.out.length d2]) X10.out 0 (.int .i64 ag) (by simp)
        have s1 := hp_put (cs' := #[.int .i64 ag, .slice none 0 0, .int .u64 s.la, .int .u64 s.lb, .int .u64 s.lc, .int .u64 s.ld, .slice D2 s.out.length d2]) s0 1 (.slice none 0 0) (by simp)
        have hF : Fr (fun k => k ≠ g) w10 (((w10).setCell ⟨g, 0, none⟩ (.int .i64 ag)).setCell ⟨g, 1, none⟩ (.slice none 0 0)) := ((Fr.refl (fun k => k ≠ g) w10).trans (Fr.set _ (fun e => e rfl) _ _)).trans (Fr.set _ (fun e => e rfl) _ _)
        have X11 := Lib.hid s1
        have Y11 := Lib.hid (hF.hp Y10.out ne2)
        have I11 := Lib.hid (hF.hp I10.out xn2)
        have P11 := Lib.hid (row_fr P10.out hF (row_nx3 P10.out X10.out (by decide)))
        have Q11 := Lib.hid (row_fr Q10.out hF (row_nx3 Q10.out X10.out (by decide)))
        have B11 := Lib.hid (B10.out.trans (hF.toBelow (fun k hk => by have := GR.out.2.1; omega)))
        clear s0 s1 hF X10 Y10 I10 P10 Q10 B10
        generalize ((w10).setCell ⟨g, 0, none⟩ (.int .i64 ag)).setCell ⟨g, 1, none⟩ (.slice none 0 0) = w11 at X11 Y11 I11 P11 Q11 B11 ⊢
        clear x0 xz0 x1 xz1 x2 xz2 x3 xz3 x4 xz4 x5 xz5 x6 xz6 xl i0 i1 i2 il yl
        have x0 : w11.cell? ⟨g, 0, none⟩ = some (.int .i64 ag) := hp_cell (X11.out) 0; have x1 : w11.cell? ⟨g, 1, none⟩ = some (.slice none 0 0) := hp_cell (X11.out) 1; have x2 : w11.cell? ⟨g, 2, none⟩ = some (.int .u64 s.la) := hp_cell (X11.out) 2; have x3 : w11.cell? ⟨g, 3, none⟩ = some (.int .u64 s.lb) := hp_cell (X11.out) 3; have x4 : w11.cell? ⟨g, 4, none⟩ = some (.int .u64 s.lc) := hp_cell (X11.out) 4; have x5 : w11.cell? ⟨g, 5, none⟩ = some (.int .u64 s.ld) := hp_cell (X11.out) 5; have x6 : w11.cell? ⟨g, 6, none⟩ = some (.slice D2 s.out.length d2) := hp_cell (X11.out) 6; have xl := hp_lt (X11.out)
        have y0 : w11.cell? ⟨r, 0, none⟩ = some (.int .i64 0) := hp_cell (Y11.out) 0; have yz0 := hp_frozen (Y11.out) 0; have y1 : w11.cell? ⟨r, 1, none⟩ = some (.slice none 0 0) := hp_cell (Y11.out) 1; have yz1 := hp_frozen (Y11.out) 1; have y2 : w11.cell? ⟨r, 2, none⟩ = some (.int .u64 0) := hp_cell (Y11.out) 2; have yz2 := hp_frozen (Y11.out) 2; have y3 : w11.cell? ⟨r, 3, none⟩ = some (.int .u64 0) := hp_cell (Y11.out) 3; have yz3 := hp_frozen (Y11.out) 3; have y4 : w11.cell? ⟨r, 4, none⟩ = some (.int .u64 0) := hp_cell (Y11.out) 4; have yz4 := hp_frozen (Y11.out) 4; have y5 : w11.cell? ⟨r, 5, none⟩ = some (.int .u64 0) := hp_cell (Y11.out) 5; have yz5 := hp_frozen (Y11.out) 5; have y6 : w11.cell? ⟨r, 6, none⟩ = some (.slice none 0 0) := hp_cell (Y11.out) 6; have yz6 := hp_frozen (Y11.out) 6; have yl := hp_lt (Y11.out)
        repeat (first | go_skip | go_guarded | go_step | go_upon)
        refine bodyPost_ret (by simp [results, Try.results13, go_sem, y0, y1, y2, y3, y4, y5, y6, ne1, ne2]; try rfl) rfl ?_
        have M1 := row_nx3 P11.out Y11.out (by decide)
        have M2 := row_nx3 Q11.out Y11.out (by decide)
        have hres : effF l.length ⟨19, ag, v⟩ { s with pc := s.pc + 1 } = .ok { s with pc := ag } := by unfold effF jumpF; simp only [Int.reduceEq, if_false, if_true]; rw [if_pos HAG.out]
        have hv : #[.int .i64 ag, .slice none 0 0, .int .u64 s.la, .int .u64 s.lb, .int .u64 s.lc, .int .u64 s.ld, .slice D2 s.out.length d2] = stC { s with pc := ag } none 0 D2 d2 := by unfold stC; rw [KC.out.1]
        rw [← HRR.out, hres, hv]
        exact ⟨(bl_new (bl_new (bl_new (bl_new (bl_new (bl_new (bl_new B11.out GR.out.2.2 _) GR.out.2.2 _) GR.out.2.2 _) GR.out.2.2 _) GR.out.2.2 _) GR.out.2.2 _) GR.out.2.2 _), none, 0, D2, d2, rfl, (row_ne (row_ne (row_ne (row_ne (row_ne (row_ne (row_ne P11.out M1 _ _) M1 _ _) M1 _ _) M1 _ _) M1 _ _) M1 _ _) M1 _ _), (row_ne (row_ne (row_ne (row_ne (row_ne (row_ne (row_ne Q11.out M2 _ _) M2 _ _) M2 _ _) M2 _ _) M2 _ _) M2 _ _) M2 _ _)⟩
      · have q1 : decide (ag > (l.length : Int)) = true := decide_eq_true (by omega)
        have q2 : decide ((l.length : Int) < ag) = true := q1
        have HAG := Lib.hid hag
        clear hag
        have x0 : w10.cell? ⟨g, 0, none⟩ = some (.int .i64 ((j : Int) + 1)) := hp_cell (X10.out) 0; have xz0 := hp_frozen (X10.out) 0; have x1 : w10.cell? ⟨g, 1, none⟩ = some (.slice none (0) 0) := hp_cell (X10.out) 1; have xz1 := hp_frozen (X10.out) 1; have x2 : w10.cell? ⟨g, 2, none⟩ = some (.int .u64 s.la) := hp_cell (X10.out) 2; have xz2 := hp_frozen (X10.out) 2; have x3 : w10.cell? ⟨g, 3, none⟩ = some (.int .u64 s.lb) := hp_cell (X10.out) 3; have xz3 := hp_frozen (X10.out) 3; have x4 : w10.cell? ⟨g, 4, none⟩ = some (.int .u64 s.lc) := hp_cell (X10.out) 4; have xz4 := hp_frozen (X10.out) 4; have x5 : w10.cell? ⟨g, 5, none⟩ = some (.int .u64 s.ld) := hp_cell (X10.out) 5; have xz5 := hp_frozen (X10.out) 5; have x6 : w10.cell? ⟨g, 6, none⟩ = some (.slice D2 s.out.length d2) := hp_cell (X10.out) 6; have xz6 := hp_frozen (X10.out) 6; have xl := hp_lt (X10.out)
        have i0 : w10.cell? ⟨xi, 0, none⟩ = some (.int .u8 19) := hp_cell (I10.out) 0; have i1 : w10.cell? ⟨xi, 1, none⟩ = some (.int .i64 ag) := hp_cell (I10.out) 1; have i2 : w10.cell? ⟨xi, 2, none⟩ = some (.int .u64 v) := hp_cell (I10.out) 2; have il := hp_lt (I10.out)
        have yl := hp_lt Y10.out
        have y0 : w10.cell? ⟨r, 0, none⟩ = some (.int .i64 0) := hp_cell (Y10.out) 0; have yz0 := hp_frozen (Y10.out) 0; have y1 : w10.cell? ⟨r, 1, none⟩ = some (.slice none 0 0) := hp_cell (Y10.out) 1; have yz1 := hp_frozen (Y10.out) 1; have y2 : w10.cell? ⟨r, 2, none⟩ = some (.int .u64 0) := hp_cell (Y10.out) 2; have yz2 := hp_frozen (Y10.out) 2; have y3 : w10.cell? ⟨r, 3, none⟩ = some (.int .u64 0) := hp_cell (Y10.out) 3; have yz3 := hp_frozen (Y10.out) 3; have y4 : w10.cell? ⟨r, 4, none⟩ = some (.int .u64 0) := hp_cell (Y10.out) 4; have yz4 := hp_frozen (Y10.out) 4; have y5 : w10.cell? ⟨r, 5, none⟩ = some (.int .u64 0) := hp_cell (Y10.out) 5; have yz5 := hp_frozen (Y10.out) 5; have y6 : w10.cell? ⟨r, 6, none⟩ = some (.slice none 0 0) := hp_cell (Y10.out) 6; have yz6 := hp_frozen (Y10.out) 6; have yl := hp_lt (Y10.out)
        go_upto_region 35 with fail
        repeat (first | go_skip | go_guarded | go_step | go_upon)
        refine bodyPost_ret (by simp [results, Try.results13, go_sem, y0, y1, y2, y3, y4, y5, y6, ne1, ne2]; try rfl) rfl ?_
        have hres : effF l.length ⟨19, ag, v⟩ { s with pc := s.pc + 1 } = .error 2 := by unfold effF jumpF; simp only [Int.reduceEq, if_false, if_true]; rw [if_neg HAG.out]
        rw [← HRR.out, hres]
        exact ⟨(bl_new (bl_new (bl_new (bl_new (bl_new (bl_new (bl_new B10.out GR.out.2.2 _) GR.out.2.2 _) GR.out.2.2 _) GR.out.2.2 _) GR.out.2.2 _) GR.out.2.2 _) GR.out.2.2 _), rfl⟩
    · rw [show s.stk.length = s.stk.length from rfl] at x1
      obtain ⟨N, hN, hNl⟩ : ∃ N, s.stk.length = N ∧ N ≤ 800 := ⟨_, rfl, HN.out⟩
      rw [hN] at x1 X9
      obtain ⟨pz, hpz⟩ : ∃ pz : Int, pz = 0 := ⟨0, rfl⟩
      have kw : wrap64 ((N : Int) - pz) = (N : Int) := by rw [hpz]; unfold wrap64; omega
      have HPZ := Lib.hid hpz
      clear hpz
      have kc := (row_cap P9.out).1
      rw [hN] at kc
      obtain ⟨gd, eD⟩ := hNE
      subst eD
      have kj : wrap64 ((j : Int) + 1) = (j : Int) + 1 := by have := HJ.out.2; unfold wrap64; omega
      have HEF := Lib.hid (show ∀ w : World, Calls Try.prog 37 #[.int .u8 19] w fun e w' => e = .returned (.tuple #[.int .i64 pz, .int .i64 0]) ∧ w = w' from fun w => by rw [HPZ.out]; have := refEffect_any 19 (by decide) w; rw [show popsI 19 = 0 from by decide, show pushI 19 = 0 from by decide] at this; exact this)
      go_upto_region 12 with (go_at_call 37; refine (HEF.out _).mono ?_; rintro e w' ⟨rfl, rfl⟩)
      have KC := Lib.hid (And.intro hN (And.intro hNl kc)); clear hN hNl kc kw s3 s4 d3 hpc hpl hlc hll hro
      go_upto_block 0 with fail
      have s0 := hp_put (cs' := #[.int .i64 ((j : Int) + 1), .slice (some ⟨gd, 0, none⟩) (N) d1, .int .u64 s.la, .int .u64 s.lb, .int .u64 s.lc, .int .u64 s.ld, .slice D2 s.out.length d2]) X9.out 0 (.int .i64 ((j : Int) + 1)) (by simp)
      have hF : Fr (fun k => k ≠ g) w9 ((w9).setCell ⟨g, 0, none⟩ (.int .i64 ((j : Int) + 1))) := (Fr.refl (fun k => k ≠ g) w9).trans (Fr.set _ (fun e => e rfl) _ _)
      have X10 := Lib.hid s0
      have Y10 := Lib.hid (hF.hp Y9.out ne2)
      have I10 := Lib.hid (hF.hp I9.out xn2)
      have P10 := Lib.hid (row_fr P9.out hF (row_nx3 P9.out X9.out (by decide)))
      have Q10 := Lib.hid (row_fr Q9.out hF (row_nx3 Q9.out X9.out (by decide)))
      have B10 := Lib.hid (B9.out.trans (hF.toBelow (fun k hk => by have := GR.out.2.1; omega)))
      clear s0 hF X9 Y9 I9 P9 Q9 B9
      generalize (w9).setCell ⟨g, 0, none⟩ (.int .i64 ((j : Int) + 1)) = w10 at X10 Y10 I10 P10 Q10 B10 ⊢
      clear x0 xz0 x1 xz1 x2 xz2 x3 xz3 x4 xz4 x5 xz5 x6 xz6 xl i0 i1 i2 il yl
      by_cases hag : ag ≤ (l.length : Int)
      · have q1 : decide (ag > (l.length : Int)) = false := decide_eq_false (by omega)
        have q2 : decide ((l.length : Int) < ag) = false := q1
        have HAG := Lib.hid hag
        clear hag
        have x0 : w10.cell? ⟨g, 0, none⟩ = some (.int .i64 ((j : Int) + 1)) := hp_cell (X10.out) 0; have xz0 := hp_frozen (X10.out) 0; have x1 : w10.cell? ⟨g, 1, none⟩ = some (.slice (some ⟨gd, 0, none⟩) (N) d1) := hp_cell (X10.out) 1; have xz1 := hp_frozen (X10.out) 1; have x2 : w10.cell? ⟨g, 2, none⟩ = some (.int .u64 s.la) := hp_cell (X10.out) 2; have xz2 := hp_frozen (X10.out) 2; have x3 : w10.cell? ⟨g, 3, none⟩ = some (.int .u64 s.lb) := hp_cell (X10.out) 3; have xz3 := hp_frozen (X10.out) 3; have x4 : w10.cell? ⟨g, 4, none⟩ = some (.int .u64 s.lc) := hp_cell (X10.out) 4; have xz4 := hp_frozen (X10.out) 4; have x5 : w10.cell? ⟨g, 5, none⟩ = some (.int .u64 s.ld) := hp_cell (X10.out) 5; have xz5 := hp_frozen (X10.out) 5; have x6 : w10.cell? ⟨g, 6, none⟩ = some (.slice D2 s.out.length d2) := hp_cell (X10.out) 6; have xz6 := hp_frozen (X10.out) 6; have xl := hp_lt (X10.out)
        have i0 : w10.cell? ⟨xi, 0, none⟩ = some (.int .u8 19) := hp_cell (I10.out) 0; have i1 : w10.cell? ⟨xi, 1, none⟩ = some (.int .i64 ag) := hp_cell (I10.out) 1; have i2 : w10.cell? ⟨xi, 2, none⟩ = some (.int .u64 v) := hp_cell (I10.out) 2; have il := hp_lt (I10.out)
        have yl := hp_lt Y10.out
        go_upto_region 40 with fail
        have s0 := hp_put (cs' := #[.int .i64 ag, .slice (some ⟨gd, 0, none⟩) (N) d1, .int .u64 s.la, .int .u64 s.lb, .int .u64 s.lc, .int .u64 s.ld, .slice D2 s.out.length d2]) X10.out 0 (.int .i64 ag) (by simp)
        have s1 := hp_put (cs' := #[.int .i64 ag, .slice (some ⟨gd, 0, none⟩) N d1, .int .u64 s.la, .int .u64 s.lb, .int .u64 s.lc, .int .u64 s.ld, .slice D2 s.out.length d2]) s0 1 (.slice (some ⟨gd, 0, none⟩) N d1) (by simp)
        have hF : Fr (fun k => k ≠ g) w10 (((w10).setCell ⟨g, 0, none⟩ (.int .i64 ag)).setCell ⟨g, 1, none⟩ (.slice (some ⟨gd, 0, none⟩) N d1)) := ((Fr.refl (fun k => k ≠ g) w10).trans (Fr.set _ (fun e => e rfl) _ _)).trans (Fr.set _ (fun e => e rfl) _ _)
        have X11 := Lib.hid s1
        have Y11 := Lib.hid (hF.hp Y10.out ne2)
        have I11 := Lib.hid (hF.hp I10.out xn2)
        have P11 := Lib.hid (row_fr P10.out hF (row_nx3 P10.out X10.out (by decide)))
        have Q11 := Lib.hid (row_fr Q10.out hF (row_nx3 Q10.out X10.out (by decide)))
        have B11 := Lib.hid (B10.out.trans (hF.toBelow (fun k hk => by have := GR.out.2.1; omega)))
        clear s0 s1 hF X10 Y10 I10 P10 Q10 B10
        generalize ((w10).setCell ⟨g, 0, none⟩ (.int .i64 ag)).setCell ⟨g, 1, none⟩ (.slice (some ⟨gd, 0, none⟩) N d1) = w11 at X11 Y11 I11 P11 Q11 B11 ⊢
        clear x0 xz0 x1 xz1 x2 xz2 x3 xz3 x4 xz4 x5 xz5 x6 xz6 xl i0 i1 i2 il yl
        have x0 : w11.cell? ⟨g, 0, none⟩ = some (.int .i64 ag) := hp_cell (X11.out) 0; have x1 : w11.cell? ⟨g, 1, none⟩ = some (.slice (some ⟨gd, 0, none⟩) N d1) := hp_cell (X11.out) 1; have x2 : w11.cell? ⟨g, 2, none⟩ = some (.int .u64 s.la) := hp_cell (X11.out) 2; have x3 : w11.cell? ⟨g, 3, none⟩ = some (.int .u64 s.lb) := hp_cell (X11.out) 3; have x4 : w11.cell? ⟨g, 4, none⟩ = some (.int .u64 s.lc) := hp_cell (X11.out) 4; have x5 : w11.cell? ⟨g, 5, none⟩ = some (.int .u64 s.ld) := hp_cell (X11.out) 5; have x6 : w11.cell? ⟨g, 6, none⟩ = some (.slice D2 s.out.length d2) := hp_cell (X11.out) 6; have xl := hp_lt (X11.out)
        have y0 : w11.cell? ⟨r, 0, none⟩ = some (.int .i64 0) := hp_cell (Y11.out) 0; have yz0 := hp_frozen (Y11.out) 0; have y1 : w11.cell? ⟨r, 1, none⟩ = some (.slice none 0 0) := hp_cell (Y11.out) 1; have yz1 := hp_frozen (Y11.out) 1; have y2 : w11.cell? ⟨r, 2, none⟩ = some (.int .u64 0) := hp_cell (Y11.out) 2; have yz2 := hp_frozen (Y11.out) 2; have y3 : w11.cell? ⟨r, 3, none⟩ = some (.int .u64 0) := hp_cell (Y11.out) 3; have yz3 := hp_frozen (Y11.out) 3; have y4 : w11.cell? ⟨r, 4, none⟩ = some (.int .u64 0) := hp_cell (Y11.out) 4; have yz4 := hp_frozen (Y11.out) 4; have y5 : w11.cell? ⟨r, 5, none⟩ = some (.int .u64 0) := hp_cell (Y11.out) 5; have yz5 := hp_frozen (Y11.out) 5; have y6 : w11.cell? ⟨r, 6, none⟩ = some (.slice none 0 0) := hp_cell (Y11.out) 6; have yz6 := hp_frozen (Y11.out) 6; have yl := hp_lt (Y11.out)
        repeat (first | go_skip | go_guarded | go_step | go_upon)
        refine bodyPost_ret (by simp [results, Try.results13, go_sem, y0, y1, y2, y3, y4, y5, y6, ne1, ne2]; try rfl) rfl ?_
        have M1 := row_nx3 P11.out Y11.out (by decide)
        have M2 := row_nx3 Q11.out Y11.out (by decide)
        have hres : effF l.length ⟨19, ag, v⟩ { s with pc := s.pc + 1 } = .ok { s with pc := ag } := by unfold effF jumpF; simp only [Int.reduceEq, if_false, if_true]; rw [if_pos HAG.out]
        have hv : #[.int .i64 ag, .slice (some ⟨gd, 0, none⟩) N d1, .int .u64 s.la, .int .u64 s.lb, .int .u64 s.lc, .int .u64 s.ld, .slice D2 s.out.length d2] = stC { s with pc := ag } (some ⟨gd, 0, none⟩) d1 D2 d2 := by unfold stC; rw [KC.out.1]
        rw [← HRR.out, hres, hv]
        exact ⟨(bl_new (bl_new (bl_new (bl_new (bl_new (bl_new (bl_new B11.out GR.out.2.2 _) GR.out.2.2 _) GR.out.2.2 _) GR.out.2.2 _) GR.out.2.2 _) GR.out.2.2 _) GR.out.2.2 _), (some ⟨gd, 0, none⟩), d1, D2, d2, rfl, (row_ne (row_ne (row_ne (row_ne (row_ne (row_ne (row_ne P11.out M1 _ _) M1 _ _) M1 _ _) M1 _ _) M1 _ _) M1 _ _) M1 _ _), (row_ne (row_ne (row_ne (row_ne (row_ne (row_ne (row_ne Q11.out M2 _ _) M2 _ _) M2 _ _) M2 _ _) M2 _ _) M2 _ _) M2 _ _)⟩
      · have q1 : decide (ag > (l.length : Int)) = true := decide_eq_true (by omega)
        have q2 : decide ((l.length : Int) < ag) = true := q1
        have HAG := Lib.hid hag
        clear hag
        have x0 : w10.cell? ⟨g, 0, none⟩ = some (.int .i64 ((j : Int) + 1)) := hp_cell (X10.out) 0; have xz0 := hp_frozen (X10.out) 0; have x1 : w10.cell? ⟨g, 1, none⟩ = some (.slice (some ⟨gd, 0, none⟩) (N) d1) := hp_cell (X10.out) 1; have xz1 := hp_frozen (X10.out) 1; have x2 : w10.cell? ⟨g, 2, none⟩ = some (.int .u64 s.la) := hp_cell (X10.out) 2; have xz2 := hp_frozen (X10.out) 2; have x3 : w10.cell? ⟨g, 3, none⟩ = some (.int .u64 s.lb) := hp_cell (X10.out) 3; have xz3 := hp_frozen (X10.out) 3; have x4 : w10.cell? ⟨g, 4, none⟩ = some (.int .u64 s.lc) := hp_cell (X10.out) 4; have xz4 := hp_frozen (X10.out) 4; have x5 : w10.cell? ⟨g, 5, none⟩ = some (.int .u64 s.ld) := hp_cell (X10.out) 5; have xz5 := hp_frozen (X10.out) 5; have x6 : w10.cell? ⟨g, 6, none⟩ = some (.slice D2 s.out.length d2) := hp_cell (X10.out) 6; have xz6 := hp_frozen (X10.out) 6; have xl := hp_lt (X10.out)
        have i0 : w10.cell? ⟨xi, 0, none⟩ = some (.int .u8 19) := hp_cell (I10.out) 0; have i1 : w10.cell? ⟨xi, 1, none⟩ = some (.int .i64 ag) := hp_cell (I10.out) 1; have i2 : w10.cell? ⟨xi, 2, none⟩ = some (.int .u64 v) := hp_cell (I10.out) 2; have il := hp_lt (I10.out)
        have yl := hp_lt Y10.out
        have y0 : w10.cell? ⟨r, 0, none⟩ = some (.int .i64 0) := hp_cell (Y10.out) 0; have yz0 := hp_frozen (Y10.out) 0; have y1 : w10.cell? ⟨r, 1, none⟩ = some (.slice none 0 0) := hp_cell (Y10.out) 1; have yz1 := hp_frozen (Y10.out) 1; have y2 : w10.cell? ⟨r, 2, none⟩ = some (.int .u64 0) := hp_cell (Y10.out) 2; have yz2 := hp_frozen (Y10.out) 2; have y3 : w10.cell? ⟨r, 3, none⟩ = some (.int .u64 0) := hp_cell (Y10.out) 3; have yz3 := hp_frozen (Y10.out) 3; have y4 : w10.cell? ⟨r, 4, none⟩ = some (.int .u64 0) := hp_cell (Y10.out) 4; have yz4 := hp_frozen (Y10.out) 4; have y5 : w10.cell? ⟨r, 5, none⟩ = some (.int .u64 0) := hp_cell (Y10.out) 5; have yz5 := hp_frozen (Y10.out) 5; have y6 : w10.cell? ⟨r, 6, none⟩ = some (.slice none 0 0) := hp_cell (Y10.out) 6; have yz6 := hp_frozen (Y10.out) 6; have yl := hp_lt (Y10.out)
        go_upto_region 35 with fail
        repeat (first | go_skip | go_guarded | go_step | go_upon)
        refine bodyPost_ret (by simp [results, Try.results13, go_sem, y0, y1, y2, y3, y4, y5, y6, ne1, ne2]; try rfl) rfl ?_
        have hres : effF l.length ⟨19, ag, v⟩ { s with pc := s.pc + 1 } = .error 2 := by unfold effF jumpF; simp only [Int.reduceEq, if_false, if_true]; rw [if_neg HAG.out]
        rw [← HRR.out, hres]
        exact ⟨(bl_new (bl_new (bl_new (bl_new (bl_new (bl_new (bl_new B10.out GR.out.2.2 _) GR.out.2.2 _) GR.out.2.2 _) GR.out.2.2 _) GR.out.2.2 _) GR.out.2.2 _) GR.out.2.2 _), rfl⟩
set_option maxRecDepth 20000 in
set_option maxHeartbeats 8000000 in
theorem refStep_o17 (l : List Ins3) (c : Nat) (A : Option Addr) (hlc : l.length ≤ c) (hll : l.length ≤ 900) (s : St) (hn : s.stk.length ≤ 800) (hro : s.out.length ≤ 800) (A1 : Option Addr) (c1 : Nat) (A2 : Option Addr) (c2 : Nat) (w : World) (h1 : Src w A1 c1 s.stk) (h2 : Src w A2 c2 s.out) (hi : InssAt w A l) (hpc : 0 ≤ s.pc) (hpl : s.pc < (l.length : Int)) (op ag v : Int) (hx : xn l s.pc.toNat = ⟨op, ag, v⟩) (hop : op = 17) (hso : s.ok) (hr : rightI ⟨op, ag, v⟩ = true) (hs : specI op = false) (hfi : fitI op s.stk.length = true) : Calls Try.prog 13 #[.slice A l.length c, stV s A1 c1 A2 c2] w (RPost (effF l.length ⟨op, ag, v⟩ { s with pc := s.pc + 1 }) w) := by
  have HLOC := Lib.hid hso.2
  have HOP := Lib.hid hop
  clear hso hop
  obtain ⟨RR, hRR⟩ : ∃ R, effF l.length ⟨op, ag, v⟩ { s with pc := s.pc + 1 } = R := ⟨_, rfl⟩
  rw [hRR]
  have HRR := Lib.hid hRR
  clear hRR
  have d : decide (s.pc < 0) = false := decide_eq_false (by omega)
  have d2 : decide (s.pc ≥ (l.length : Int)) = false := decide_eq_false (by omega)
  have d3 : decide ((l.length : Int) ≤ s.pc) = false := d2
  have z1 := (Below.refl w.heap.size w).alloc (Nat.le_refl _) (.cells #[.int .i64 s.pc, .slice A1 s.stk.length c1, .int .u64 s.la, .int .u64 s.lb, .int .u64 s.lc, .int .u64 s.ld, .slice A2 s.out.length c2] 28)
  have z2 := z1.alloc z1.size (.cells #[.int .i64 0, .slice none 0 0, .int .u64 0, .int .u64 0, .int .u64 0, .int .u64 0, .slice none 0 0] 28)
  have X1 := Lib.hid (hp_alloc (heap_alloc_new w (.cells #[.int .i64 s.pc, .slice A1 s.stk.length c1, .int .u64 s.la, .int .u64 s.lb, .int .u64 s.lc, .int .u64 s.ld, .slice A2 s.out.length c2] 28)) (.cells #[.int .i64 0, .slice none 0 0, .int .u64 0, .int .u64 0, .int .u64 0, .int .u64 0, .slice none 0 0] 28))
  have Y1 := Lib.hid (show ((w.alloc (.cells #[.int .i64 s.pc, .slice A1 s.stk.length c1, .int .u64 s.la, .int .u64 s.lb, .int .u64 s.lc, .int .u64 s.ld, .slice A2 s.out.length c2] 28)).alloc (.cells #[.int .i64 0, .slice none 0 0, .int .u64 0, .int .u64 0, .int .u64 0, .int .u64 0, .slice none 0 0] 28)).heap[w.heap.size + 1]? = some (.cells #[.int .i64 0, .slice none 0 0, .int .u64 0, .int .u64 0, .int .u64 0, .int .u64 0, .slice none 0 0] 28 (0, 0)) from (congrArg _ (by simp)).trans (heap_alloc_new (w.alloc (.cells #[.int .i64 s.pc, .slice A1 s.stk.length c1, .int .u64 s.la, .int .u64 s.lb, .int .u64 s.lc, .int .u64 s.ld, .slice A2 s.out.length c2] 28)) (.cells #[.int .i64 0, .slice none 0 0, .int .u64 0, .int .u64 0, .int .u64 0, .int .u64 0, .slice none 0 0] 28)))
  have B1 := Lib.hid z2
  have HI := Lib.hid hi
  have G1 := Lib.hid h1
  have G2 := Lib.hid h2
  clear z1 z2 h1 h2 hi
  unfold stV stC
  go_enter Try.func13, Try.ntmps13
  go_upto_region 1 with fail
  generalize World.alloc _ _ = w2 at X1 Y1 B1 ⊢
  obtain ⟨g, hg⟩ : ∃ g, w.heap.size = g := ⟨_, rfl⟩
  obtain ⟨r, hr⟩ : ∃ r, w.heap.size + 1 = r := ⟨_, rfl⟩
  rw [hg] at X1
  rw [hr] at Y1
  rw [hr, hg]
  have gr : g ≠ r := by omega
  have gb : w.heap.size ≤ g := by omega
  have rb : w.heap.size ≤ r := by omega
  have GR := Lib.hid (And.intro gr (And.intro gb rb))
  clear hg hr gr gb rb
  have x0 : w2.cell? ⟨g, 0, none⟩ = some (.int .i64 s.pc) := hp_cell (X1.out) 0; have x1 : w2.cell? ⟨g, 1, none⟩ = some (.slice A1 s.stk.length c1) := hp_cell (X1.out) 1; have x2 : w2.cell? ⟨g, 2, none⟩ = some (.int .u64 s.la) := hp_cell (X1.out) 2; have x3 : w2.cell? ⟨g, 3, none⟩ = some (.int .u64 s.lb) := hp_cell (X1.out) 3; have x4 : w2.cell? ⟨g, 4, none⟩ = some (.int .u64 s.lc) := hp_cell (X1.out) 4; have x5 : w2.cell? ⟨g, 5, none⟩ = some (.int .u64 s.ld) := hp_cell (X1.out) 5; have x6 : w2.cell? ⟨g, 6, none⟩ = some (.slice A2 s.out.length c2) := hp_cell (X1.out) 6; have xl := hp_lt (X1.out)
  have y0 : w2.cell? ⟨r, 0, none⟩ = some (.int .i64 0) := hp_cell (Y1.out) 0; have yz0 := hp_frozen (Y1.out) 0; have y1 : w2.cell? ⟨r, 1, none⟩ = some (.slice none 0 0) := hp_cell (Y1.out) 1; have yz1 := hp_frozen (Y1.out) 1; have y2 : w2.cell? ⟨r, 2, none⟩ = some (.int .u64 0) := hp_cell (Y1.out) 2; have yz2 := hp_frozen (Y1.out) 2; have y3 : w2.cell? ⟨r, 3, none⟩ = some (.int .u64 0) := hp_cell (Y1.out) 3; have yz3 := hp_frozen (Y1.out) 3; have y4 : w2.cell? ⟨r, 4, none⟩ = some (.int .u64 0) := hp_cell (Y1.out) 4; have yz4 := hp_frozen (Y1.out) 4; have y5 : w2.cell? ⟨r, 5, none⟩ = some (.int .u64 0) := hp_cell (Y1.out) 5; have yz5 := hp_frozen (Y1.out) 5; have y6 : w2.cell? ⟨r, 6, none⟩ = some (.slice none 0 0) := hp_cell (Y1.out) 6; have yz6 := hp_frozen (Y1.out) 6; have yl := hp_lt (Y1.out)
  have ne1 := GR.out.1
  have ne2 : r ≠ g := fun e => ne1 e.symm
  obtain ⟨j, hj⟩ : ∃ j : Nat, s.pc = (j : Int) := ⟨s.pc.toNat, by omega⟩
  have hjl : j < l.length := by omega
  have hjn : s.pc.toNat = j := by omega
  rw [hjn] at hx
  have HJ := Lib.hid (And.intro hj hjl)
  rw [hj] at d d2 d3 x0
  have I2 := Lib.hid (inss_below HI.out B1.out)
  obtain ⟨ad, rfl, _⟩ := xn_at I2.out hjl
  have hI3 := xn_some I2.out hjl
  rw [hx] at hI3
  obtain ⟨hok, a0, a1, a2⟩ := hI3
  dsimp only at a0 a1 a2
  have la : (ad.add (j * 3)).block < w2.heap.size := inAt_lt (xn_some I2.out hjl)
  have la' : ad.block < w2.heap.size := by
    have e : (ad.add (j * 3)).block = ad.block := by unfold Addr.add; split <;> rfl
    omega
  have s3 : (j : Int) < (l.length : Int) := by omega
  have s4 : (0 : Int) ≤ (j : Int) := by omega
  have HOK := Lib.hid hok
  have HC := Lib.hid (fun w => refRight14_any ⟨op, ag, v⟩ hok w)
  unfold inV at HC
  have HP := Lib.hid (fun w => refPlain_any op hok.1.1 w)
  have HR := Lib.hid hr
  clear hok hr hj hjl hjn hx
  have HS := Lib.hid hs
  have HN := Lib.hid hn
  have HFI := Lib.hid hfi
  clear hs hn hfi
  go_upto_region 3 with (first | (go_at_call 33; refine (HC.out _).mono ?_; rintro e w4 ⟨rfl, hb4⟩; rw [HR.out]; have B4 := Lib.hid (B1.out.trans (hb4.mono B1.out.size)); have X4 := Lib.hid (hp_below X1.out hb4); have Y4 := Lib.hid (hp_below Y1.out hb4); have I4 := Lib.hid (inss_below I2.out hb4); have la4 := Nat.lt_of_lt_of_le la' hb4.size; have a0' := (World.cell?_of_block (hb4.block _ la)).trans a0; have a1' := (World.cell?_of_block (a := ⟨(ad.add (j * 3)).block, (ad.add (j * 3)).off + 1, none⟩) (hb4.block _ la)).trans a1; have a2' := (World.cell?_of_block (a := ⟨(ad.add (j * 3)).block, (ad.add (j * 3)).off + 2, none⟩) (hb4.block _ la)).trans a2; clear a0 a1 a2 la hb4; have u0 : w4.cell? ⟨g, 0, none⟩ = some (.int .i64 s.pc) := hp_cell (X4.out) 0; have u1 : w4.cell? ⟨g, 1, none⟩ = some (.slice A1 s.stk.length c1) := hp_cell (X4.out) 1; have u2 : w4.cell? ⟨g, 2, none⟩ = some (.int .u64 s.la) := hp_cell (X4.out) 2; have u3 : w4.cell? ⟨g, 3, none⟩ = some (.int .u64 s.lb) := hp_cell (X4.out) 3; have u4 : w4.cell? ⟨g, 4, none⟩ = some (.int .u64 s.lc) := hp_cell (X4.out) 4; have u5 : w4.cell? ⟨g, 5, none⟩ = some (.int .u64 s.ld) := hp_cell (X4.out) 5; have u6 : w4.cell? ⟨g, 6, none⟩ = some (.slice A2 s.out.length c2) := hp_cell (X4.out) 6; have ul := hp_lt (X4.out); rw [HJ.out.1] at u0; have v0 : w4.cell? ⟨r, 0, none⟩ = some (.int .i64 0) := hp_cell (Y4.out) 0; have vz0 := hp_frozen (Y4.out) 0; have v1 : w4.cell? ⟨r, 1, none⟩ = some (.slice none 0 0) := hp_cell (Y4.out) 1; have vz1 := hp_frozen (Y4.out) 1; have v2 : w4.cell? ⟨r, 2, none⟩ = some (.int .u64 0) := hp_cell (Y4.out) 2; have vz2 := hp_frozen (Y4.out) 2; have v3 : w4.cell? ⟨r, 3, none⟩ = some (.int .u64 0) := hp_cell (Y4.out) 3; have vz3 := hp_frozen (Y4.out) 3; have v4 : w4.cell? ⟨r, 4, none⟩ = some (.int .u64 0) := hp_cell (Y4.out) 4; have vz4 := hp_frozen (Y4.out) 4; have v5 : w4.cell? ⟨r, 5, none⟩ = some (.int .u64 0) := hp_cell (Y4.out) 5; have vz5 := hp_frozen (Y4.out) 5; have v6 : w4.cell? ⟨r, 6, none⟩ = some (.slice none 0 0) := hp_cell (Y4.out) 6; have vz6 := hp_frozen (Y4.out) 6; have vl := hp_lt (Y4.out)) | (go_at_call 34; refine (HP.out _).mono ?_; rintro e w' ⟨rfl, rfl⟩; rw [HS.out]))
  have laj : (ad.add (j * 3)).block < w4.heap.size := inAt_lt (xn_some I4.out HJ.out.2)
  go_upto_region 4 with fail
  have z6 := (Below.refl w4.heap.size w4).alloc (Nat.le_refl _) (.cells #[.int .u8 op, .int .i64 ag, .int .u64 v] 42)
  have X6 := Lib.hid (heap_alloc_new w4 (.cells #[.int .u8 op, .int .i64 ag, .int .u64 v] 42))
  have X5 := Lib.hid (hp_below X4.out z6)
  have Y5 := Lib.hid (hp_below Y4.out z6)
  have B5 := Lib.hid (B4.out.alloc B4.out.size (.cells #[.int .u8 op, .int .i64 ag, .int .u64 v] 42))
  have xne := Lib.hid (show g ≠ w4.heap.size ∧ r ≠ w4.heap.size from ⟨fun e => Nat.lt_irrefl _ (e ▸ ul), fun e => Nat.lt_irrefl _ (e ▸ vl)⟩)
  have S5 := Lib.hid (show w.heap.size ≤ w4.heap.size from B4.out.size)
  clear z6 X4 Y4 B4 I4 la4 laj a0' a1' a2' u0  v0 vz0 u1  v1 vz1 u2  v2 vz2 u3  v3 vz3 u4  v4 vz4 u5  v5 vz5 u6  v6 vz6 ul vl x0 y0 yz0 x1 y1 yz1 x2 y2 yz2 x3 y3 yz3 x4 y4 yz4 x5 y5 yz5 x6 y6 yz6 xl yl
  generalize w4.alloc _ = w5 at X6 X5 Y5 B5 ⊢
  obtain ⟨xi, hxi⟩ : ∃ x, w4.heap.size = x := ⟨_, rfl⟩
  rw [hxi] at X6 xne S5 ⊢
  clear hxi
  have x0 : w5.cell? ⟨g, 0, none⟩ = some (.int .i64 s.pc) := hp_cell (X5.out) 0; have x1 : w5.cell? ⟨g, 1, none⟩ = some (.slice A1 s.stk.length c1) := hp_cell (X5.out) 1; have x2 : w5.cell? ⟨g, 2, none⟩ = some (.int .u64 s.la) := hp_cell (X5.out) 2; have x3 : w5.cell? ⟨g, 3, none⟩ = some (.int .u64 s.lb) := hp_cell (X5.out) 3; have x4 : w5.cell? ⟨g, 4, none⟩ = some (.int .u64 s.lc) := hp_cell (X5.out) 4; have x5 : w5.cell? ⟨g, 5, none⟩ = some (.int .u64 s.ld) := hp_cell (X5.out) 5; have x6 : w5.cell? ⟨g, 6, none⟩ = some (.slice A2 s.out.length c2) := hp_cell (X5.out) 6; have xl := hp_lt (X5.out)
  rw [HJ.out.1] at x0
  have y0 : w5.cell? ⟨r, 0, none⟩ = some (.int .i64 0) := hp_cell (Y5.out) 0; have yz0 := hp_frozen (Y5.out) 0; have y1 : w5.cell? ⟨r, 1, none⟩ = some (.slice none 0 0) := hp_cell (Y5.out) 1; have yz1 := hp_frozen (Y5.out) 1; have y2 : w5.cell? ⟨r, 2, none⟩ = some (.int .u64 0) := hp_cell (Y5.out) 2; have yz2 := hp_frozen (Y5.out) 2; have y3 : w5.cell? ⟨r, 3, none⟩ = some (.int .u64 0) := hp_cell (Y5.out) 3; have yz3 := hp_frozen (Y5.out) 3; have y4 : w5.cell? ⟨r, 4, none⟩ = some (.int .u64 0) := hp_cell (Y5.out) 4; have yz4 := hp_frozen (Y5.out) 4; have y5 : w5.cell? ⟨r, 5, none⟩ = some (.int .u64 0) := hp_cell (Y5.out) 5; have yz5 := hp_frozen (Y5.out) 5; have y6 : w5.cell? ⟨r, 6, none⟩ = some (.slice none 0 0) := hp_cell (Y5.out) 6; have yz6 := hp_frozen (Y5.out) 6; have yl := hp_lt (Y5.out)
  have i0 : w5.cell? ⟨xi, 0, none⟩ = some (.int .u8 op) := hp_cell X6.out 0
  have il := hp_lt X6.out
  have HFT := Lib.hid (show ∀ w : World, Calls Try.prog 35 #[.int .u8 op, .agg #[.int .i64 (j : Int), .slice A1 s.stk.length c1, .int .u64 s.la, .int .u64 s.lb, .int .u64 s.lc, .int .u64 s.ld, .slice A2 s.out.length c2]] w fun e w' => e = .returned (.int .i64 0) ∧ Below w.heap.size w w' from fun w => by have := refFits_any op HOK.out.1.1 s A1 c1 A2 c2 (by have := HN.out; omega) w; unfold stV stC at this; rw [HFI.out, HJ.out.1] at this; exact this)
  have HCP := Lib.hid (show ∀ w' : World, Below w.heap.size w w' → Calls Try.prog 36 #[.agg #[.int .i64 (j : Int), .slice A1 s.stk.length c1, .int .u64 s.la, .int .u64 s.lb, .int .u64 s.lc, .int .u64 s.ld, .slice A2 s.out.length c2]] w' (fun e w2 => ∃ D1 d1 D2 d2, e = .returned (.agg #[.int .i64 (j : Int), .slice D1 s.stk.length d1, .int .u64 s.la, .int .u64 s.lb, .int .u64 s.lc, .int .u64 s.ld, .slice D2 s.out.length d2]) ∧ RowAt w2 w'.heap.size D1 d1 s.stk ∧ RowAt w2 w'.heap.size D2 d2 s.out ∧ (∀ k, blk D1 = some k → blk D2 ≠ some k) ∧ Below w'.heap.size w' w2) from fun w' hb => by have := refCopied_any s A1 c1 A2 c2 w' (G1.out.below hb) (G2.out.below hb); unfold CopyPost stV stC at this; rw [HJ.out.1] at this; exact this)
  go_upto_region 8 with (first | (go_at_call 35; refine (HFT.out _).mono ?_; rintro e w7 ⟨rfl, hb7⟩; have X7 := Lib.hid (hp_below X5.out hb7); have Y7 := Lib.hid (hp_below Y5.out hb7); have I7 := Lib.hid (hp_below X6.out hb7); have B7 := Lib.hid (B5.out.trans (hb7.mono B5.out.size)); clear hb7; clear x0 y0 yz0 x1 y1 yz1 x2 y2 yz2 x3 y3 yz3 x4 y4 yz4 x5 y5 yz5 x6 y6 yz6 xl yl i0 il; have x0 : w7.cell? ⟨g, 0, none⟩ = some (.int .i64 s.pc) := hp_cell (X7.out) 0; have xz0 := hp_frozen (X7.out) 0; have x1 : w7.cell? ⟨g, 1, none⟩ = some (.slice A1 s.stk.length c1) := hp_cell (X7.out) 1; have xz1 := hp_frozen (X7.out) 1; have x2 : w7.cell? ⟨g, 2, none⟩ = some (.int .u64 s.la) := hp_cell (X7.out) 2; have xz2 := hp_frozen (X7.out) 2; have x3 : w7.cell? ⟨g, 3, none⟩ = some (.int .u64 s.lb) := hp_cell (X7.out) 3; have xz3 := hp_frozen (X7.out) 3; have x4 : w7.cell? ⟨g, 4, none⟩ = some (.int .u64 s.lc) := hp_cell (X7.out) 4; have xz4 := hp_frozen (X7.out) 4; have x5 : w7.cell? ⟨g, 5, none⟩ = some (.int .u64 s.ld) := hp_cell (X7.out) 5; have xz5 := hp_frozen (X7.out) 5; have x6 : w7.cell? ⟨g, 6, none⟩ = some (.slice A2 s.out.length c2) := hp_cell (X7.out) 6; have xz6 := hp_frozen (X7.out) 6; have xl := hp_lt (X7.out); rw [HJ.out.1] at x0; have yl := hp_lt Y7.out) | (go_at_call 36; refine (HCP.out _ B7.out).mono ?_; rintro e w8 ⟨D1, d1, D2, d2, rfl, hr1, hr2, hd, hb8⟩; have B8 := Lib.hid (B7.out.trans (hb8.mono B7.out.size)); have X8 := Lib.hid (hp_below X7.out hb8); have Y8 := Lib.hid (hp_below Y7.out hb8); have I8 := Lib.hid (hp_below I7.out hb8); have P8 := Lib.hid (row_base hr1 B7.out.size); have Q8 := Lib.hid (row_base hr2 B7.out.size); have DD := Lib.hid hd; clear hr1 hr2 hd hb8; clear x0 xz0 x1 xz1 x2 xz2 x3 xz3 x4 xz4 x5 xz5 x6 xz6 xl yl; have x0 : w8.cell? ⟨g, 0, none⟩ = some (.int .i64 s.pc) := hp_cell (X8.out) 0; have xz0 := hp_frozen (X8.out) 0; have x1 : w8.cell? ⟨g, 1, none⟩ = some (.slice A1 s.stk.length c1) := hp_cell (X8.out) 1; have xz1 := hp_frozen (X8.out) 1; have x2 : w8.cell? ⟨g, 2, none⟩ = some (.int .u64 s.la) := hp_cell (X8.out) 2; have xz2 := hp_frozen (X8.out) 2; have x3 : w8.cell? ⟨g, 3, none⟩ = some (.int .u64 s.lb) := hp_cell (X8.out) 3; have xz3 := hp_frozen (X8.out) 3; have x4 : w8.cell? ⟨g, 4, none⟩ = some (.int .u64 s.lc) := hp_cell (X8.out) 4; have xz4 := hp_frozen (X8.out) 4; have x5 : w8.cell? ⟨g, 5, none⟩ = some (.int .u64 s.ld) := hp_cell (X8.out) 5; have xz5 := hp_frozen (X8.out) 5; have x6 : w8.cell? ⟨g, 6, none⟩ = some (.slice A2 s.out.length c2) := hp_cell (X8.out) 6; have xz6 := hp_frozen (X8.out) 6; have xl := hp_lt (X8.out); rw [HJ.out.1] at x0))
  clear x0 xz0 x1 xz1 x2 xz2 x3 xz3 x4 xz4 x5 xz5 x6 xz6 xl
  have X8 : Hid (w8.heap[g]? = some (.cells #[.int .i64 (j : Int), .slice A1 s.stk.length c1, .int .u64 s.la, .int .u64 s.lb, .int .u64 s.lc, .int .u64 s.ld, .slice A2 s.out.length c2] 28 (0, 0))) := Lib.hid (by rw [← HJ.out.1]; exact X8.out)
  have k0 := hp_put (cs' := #[.int .i64 (j : Int), .slice A1 s.stk.length c1, .int .u64 s.la, .int .u64 s.lb, .int .u64 s.lc, .int .u64 s.ld, .slice A2 s.out.length c2]) X8.out 0 (.int .i64 (j : Int)) (by simp)
  have k1 := hp_put (cs' := #[.int .i64 (j : Int), .slice D1 s.stk.length d1, .int .u64 s.la, .int .u64 s.lb, .int .u64 s.lc, .int .u64 s.ld, .slice A2 s.out.length c2]) k0 1 (.slice D1 s.stk.length d1) (by simp)
  have k2 := hp_put (cs' := #[.int .i64 (j : Int), .slice D1 s.stk.length d1, .int .u64 s.la, .int .u64 s.lb, .int .u64 s.lc, .int .u64 s.ld, .slice A2 s.out.length c2]) k1 2 (.int .u64 s.la) (by simp)
  have k3 := hp_put (cs' := #[.int .i64 (j : Int), .slice D1 s.stk.length d1, .int .u64 s.la, .int .u64 s.lb, .int .u64 s.lc, .int .u64 s.ld, .slice A2 s.out.length c2]) k2 3 (.int .u64 s.lb) (by simp)
  have k4 := hp_put (cs' := #[.int .i64 (j : Int), .slice D1 s.stk.length d1, .int .u64 s.la, .int .u64 s.lb, .int .u64 s.lc, .int .u64 s.ld, .slice A2 s.out.length c2]) k3 4 (.int .u64 s.lc) (by simp)
  have k5 := hp_put (cs' := #[.int .i64 (j : Int), .slice D1 s.stk.length d1, .int .u64 s.la, .int .u64 s.lb, .int .u64 s.lc, .int .u64 s.ld, .slice A2 s.out.length c2]) k4 5 (.int .u64 s.ld) (by simp)
  have k6 := hp_put (cs' := #[.int .i64 (j : Int), .slice D1 s.stk.length d1, .int .u64 s.la, .int .u64 s.lb, .int .u64 s.lc, .int .u64 s.ld, .slice D2 s.out.length d2]) k5 6 (.slice D2 s.out.length d2) (by simp)
  have hF : Fr (fun k => k ≠ g) w8 ((((((((w8).setCell ⟨g, 0, none⟩ (.int .i64 (j : Int))).setCell ⟨g, 1, none⟩ (.slice D1 s.stk.length d1)).setCell ⟨g, 2, none⟩ (.int .u64 s.la)).setCell ⟨g, 3, none⟩ (.int .u64 s.lb)).setCell ⟨g, 4, none⟩ (.int .u64 s.lc)).setCell ⟨g, 5, none⟩ (.int .u64 s.ld)).setCell ⟨g, 6, none⟩ (.slice D2 s.out.length d2)) := (((((((Fr.refl (fun k => k ≠ g) w8).trans (Fr.set _ (fun e => e rfl) _ _)).trans (Fr.set _ (fun e => e rfl) _ _)).trans (Fr.set _ (fun e => e rfl) _ _)).trans (Fr.set _ (fun e => e rfl) _ _)).trans (Fr.set _ (fun e => e rfl) _ _)).trans (Fr.set _ (fun e => e rfl) _ _)).trans (Fr.set _ (fun e => e rfl) _ _)
  have X9 := Lib.hid k6
  have Y9 := Lib.hid (hF.hp Y8.out ne2)
  have I9 := Lib.hid (hF.hp I8.out (fun e => xne.out.1 e.symm))
  have P9 := Lib.hid (row_fr P8.out hF (row_nx3 P8.out X8.out (by decide)))
  have Q9 := Lib.hid (row_fr Q8.out hF (row_nx3 Q8.out X8.out (by decide)))
  have B9 := Lib.hid (B8.out.trans (hF.toBelow (fun k hk => by have := GR.out.2.1; omega)))
  clear k0 k1 k2 k3 k4 k5 k6 hF X8 Y8 I8 P8 Q8 B8
  generalize (((((((w8).setCell ⟨g, 0, none⟩ (.int .i64 (j : Int))).setCell ⟨g, 1, none⟩ (.slice D1 s.stk.length d1)).setCell ⟨g, 2, none⟩ (.int .u64 s.la)).setCell ⟨g, 3, none⟩ (.int .u64 s.lb)).setCell ⟨g, 4, none⟩ (.int .u64 s.lc)).setCell ⟨g, 5, none⟩ (.int .u64 s.ld)).setCell ⟨g, 6, none⟩ (.slice D2 s.out.length d2) = w9 at X9 Y9 I9 P9 Q9 B9 ⊢
  have x0 : w9.cell? ⟨g, 0, none⟩ = some (.int .i64 (j : Int)) := hp_cell (X9.out) 0; have xz0 := hp_frozen (X9.out) 0; have x1 : w9.cell? ⟨g, 1, none⟩ = some (.slice D1 s.stk.length d1) := hp_cell (X9.out) 1; have xz1 := hp_frozen (X9.out) 1; have x2 : w9.cell? ⟨g, 2, none⟩ = some (.int .u64 s.la) := hp_cell (X9.out) 2; have xz2 := hp_frozen (X9.out) 2; have x3 : w9.cell? ⟨g, 3, none⟩ = some (.int .u64 s.lb) := hp_cell (X9.out) 3; have xz3 := hp_frozen (X9.out) 3; have x4 : w9.cell? ⟨g, 4, none⟩ = some (.int .u64 s.lc) := hp_cell (X9.out) 4; have xz4 := hp_frozen (X9.out) 4; have x5 : w9.cell? ⟨g, 5, none⟩ = some (.int .u64 s.ld) := hp_cell (X9.out) 5; have xz5 := hp_frozen (X9.out) 5; have x6 : w9.cell? ⟨g, 6, none⟩ = some (.slice D2 s.out.length d2) := hp_cell (X9.out) 6; have xz6 := hp_frozen (X9.out) 6; have xl := hp_lt (X9.out)
  have i0 : w9.cell? ⟨xi, 0, none⟩ = some (.int .u8 op) := hp_cell (I9.out) 0; have i1 : w9.cell? ⟨xi, 1, none⟩ = some (.int .i64 ag) := hp_cell (I9.out) 1; have i2 : w9.cell? ⟨xi, 2, none⟩ = some (.int .u64 v) := hp_cell (I9.out) 2; have il := hp_lt (I9.out)
  have yl := hp_lt Y9.out
  have xn1 : g ≠ xi := xne.out.1
  have xn2 : xi ≠ g := fun e => xn1 e.symm
  have hop := HOP.out
  subst hop
  · rw [show s.stk.length = s.stk.length from rfl] at x1
    obtain ⟨m, a, hst⟩ := snoc_of (l := s.stk) (by have := fit_pops HFI.out; rw [show popsI 17 = 1 from by decide] at this; omega)
    obtain ⟨N, hN⟩ : ∃ N, m.length = N := ⟨_, rfl⟩
    have hl : s.stk.length = N + 1 := by rw [hst]; simp [hN]
    have hNl : N ≤ 800 := by have := HN.out; omega
    have kc := (row_cap P9.out).1
    rw [hl] at x1 X9 kc
    obtain ⟨gd, eD, xa, _, ld⟩ := row_head P9.out (i := N) (by omega)
    subst eD
    have hva : hvAt s.stk N = a := by rw [hst]; unfold hvAt; simp [← hN]
    rw [hva] at xa
    have hwa : W64 a := P9.out.2 a (by rw [hst]; simp)
    have kw : wrap64 (((N + 1 : Nat) : Int) - 1) = (N : Int) := by unfold wrap64; omega
    have kw' : wrap64 ((N : Int) + 1 - 1) = (N : Int) := by unfold wrap64; omega
    have k1 : N ≤ N + 1 := by omega
    have kj : wrap64 ((j : Int) + 1) = (j : Int) + 1 := by have := HJ.out.2; unfold wrap64; omega
    have HEF := Lib.hid (show ∀ w : World, Calls Try.prog 37 #[.int .u8 17] w fun e w' => e = .returned (.tuple #[.int .i64 1, .int .i64 0]) ∧ w = w' from fun w => by have := refEffect_any 17 (by decide) w; rw [show popsI 17 = 1 from by decide, show pushI 17 = 0 from by decide] at this; exact this)
    go_upto_region 12 with (go_at_call 37; refine (HEF.out _).mono ?_; rintro e w' ⟨rfl, rfl⟩)
    have KC := Lib.hid (And.intro hst (And.intro hN (And.intro hl (And.intro hNl (And.intro kc hwa))))); clear hst hN hl hNl kc hwa hva kw kw' k1 s3 s4 d3 hpc hpl hlc hll hro
    go_upto_block 0 with fail
    have s0 := hp_put (cs' := #[.int .i64 ((j : Int) + 1), .slice (some ⟨gd, 0, none⟩) (N + 1) d1, .int .u64 s.la, .int .u64 s.lb, .int .u64 s.lc, .int .u64 s.ld, .slice D2 s.out.length d2]) X9.out 0 (.int .i64 ((j : Int) + 1)) (by simp)
    have hF : Fr (fun k => k ≠ g) w9 ((w9).setCell ⟨g, 0, none⟩ (.int .i64 ((j : Int) + 1))) := (Fr.refl (fun k => k ≠ g) w9).trans (Fr.set _ (fun e => e rfl) _ _)
    have X10 := Lib.hid s0
    have Y10 := Lib.hid (hF.hp Y9.out ne2)
    have I10 := Lib.hid (hF.hp I9.out xn2)
    have P10 := Lib.hid (row_fr P9.out hF (row_nx3 P9.out X9.out (by decide)))
    have Q10 := Lib.hid (row_fr Q9.out hF (row_nx3 Q9.out X9.out (by decide)))
    have B10 := Lib.hid (B9.out.trans (hF.toBelow (fun k hk => by have := GR.out.2.1; omega)))
    clear s0 hF X9 Y9 I9 P9 Q9 B9
    generalize (w9).setCell ⟨g, 0, none⟩ (.int .i64 ((j : Int) + 1)) = w10 at X10 Y10 I10 P10 Q10 B10 ⊢
    clear x0 xz0 x1 xz1 x2 xz2 x3 xz3 x4 xz4 x5 xz5 x6 xz6 xl i0 i1 i2 il yl
    have x0 : w10.cell? ⟨g, 0, none⟩ = some (.int .i64 ((j : Int) + 1)) := hp_cell (X10.out) 0; have xz0 := hp_frozen (X10.out) 0; have x1 : w10.cell? ⟨g, 1, none⟩ = some (.slice (some ⟨gd, 0, none⟩) (N + 1) d1) := hp_cell (X10.out) 1; have xz1 := hp_frozen (X10.out) 1; have x2 : w10.cell? ⟨g, 2, none⟩ = some (.int .u64 s.la) := hp_cell (X10.out) 2; have xz2 := hp_frozen (X10.out) 2; have x3 : w10.cell? ⟨g, 3, none⟩ = some (.int .u64 s.lb) := hp_cell (X10.out) 3; have xz3 := hp_frozen (X10.out) 3; have x4 : w10.cell? ⟨g, 4, none⟩ = some (.int .u64 s.lc) := hp_cell (X10.out) 4; have xz4 := hp_frozen (X10.out) 4; have x5 : w10.cell? ⟨g, 5, none⟩ = some (.int .u64 s.ld) := hp_cell (X10.out) 5; have xz5 := hp_frozen (X10.out) 5; have x6 : w10.cell? ⟨g, 6, none⟩ = some (.slice D2 s.out.length d2) := hp_cell (X10.out) 6; have xz6 := hp_frozen (X10.out) 6; have xl := hp_lt (X10.out)
    have i0 : w10.cell? ⟨xi, 0, none⟩ = some (.int .u8 17) := hp_cell (I10.out) 0; have i1 : w10.cell? ⟨xi, 1, none⟩ = some (.int .i64 ag) := hp_cell (I10.out) 1; have i2 : w10.cell? ⟨xi, 2, none⟩ = some (.int .u64 v) := hp_cell (I10.out) 2; have il := hp_lt (I10.out)
    have yl := hp_lt Y10.out
    go_upto_region 40 with fail
    have s0 := hp_put (cs' := #[.int .i64 ((j : Int) + 1), .slice (some ⟨gd, 0, none⟩) N d1, .int .u64 s.la, .int .u64 s.lb, .int .u64 s.lc, .int .u64 s.ld, .slice D2 s.out.length d2]) X10.out 1 (.slice (some ⟨gd, 0, none⟩) N d1) (by simp)
    have hF : Fr (fun k => k ≠ g) w10 ((w10).setCell ⟨g, 1, none⟩ (.slice (some ⟨gd, 0, none⟩) N d1)) := (Fr.refl (fun k => k ≠ g) w10).trans (Fr.set _ (fun e => e rfl) _ _)
    have X11 := Lib.hid s0
    have Y11 := Lib.hid (hF.hp Y10.out ne2)
    have I11 := Lib.hid (hF.hp I10.out xn2)
    have P11 := Lib.hid (row_fr P10.out hF (row_nx3 P10.out X10.out (by decide)))
    have Q11 := Lib.hid (row_fr Q10.out hF (row_nx3 Q10.out X10.out (by decide)))
    have B11 := Lib.hid (B10.out.trans (hF.toBelow (fun k hk => by have := GR.out.2.1; omega)))
    clear s0 hF X10 Y10 I10 P10 Q10 B10
    generalize (w10).setCell ⟨g, 1, none⟩ (.slice (some ⟨gd, 0, none⟩) N d1) = w11 at X11 Y11 I11 P11 Q11 B11 ⊢
    clear x0 xz0 x1 xz1 x2 xz2 x3 xz3 x4 xz4 x5 xz5 x6 xz6 xl i0 i1 i2 il yl
    have P11 := Lib.hid (row_pop (by rw [← KC.out.1]; exact P11.out))
    have x0 : w11.cell? ⟨g, 0, none⟩ = some (.int .i64 ((j : Int) + 1)) := hp_cell (X11.out) 0; have x1 : w11.cell? ⟨g, 1, none⟩ = some (.slice (some ⟨gd, 0, none⟩) N d1) := hp_cell (X11.out) 1; have x2 : w11.cell? ⟨g, 2, none⟩ = some (.int .u64 s.la) := hp_cell (X11.out) 2; have x3 : w11.cell? ⟨g, 3, none⟩ = some (.int .u64 s.lb) := hp_cell (X11.out) 3; have x4 : w11.cell? ⟨g, 4, none⟩ = some (.int .u64 s.lc) := hp_cell (X11.out) 4; have x5 : w11.cell? ⟨g, 5, none⟩ = some (.int .u64 s.ld) := hp_cell (X11.out) 5; have x6 : w11.cell? ⟨g, 6, none⟩ = some (.slice D2 s.out.length d2) := hp_cell (X11.out) 6; have xl := hp_lt (X11.out)
    have y0 : w11.cell? ⟨r, 0, none⟩ = some (.int .i64 0) := hp_cell (Y11.out) 0; have yz0 := hp_frozen (Y11.out) 0; have y1 : w11.cell? ⟨r, 1, none⟩ = some (.slice none 0 0) := hp_cell (Y11.out) 1; have yz1 := hp_frozen (Y11.out) 1; have y2 : w11.cell? ⟨r, 2, none⟩ = some (.int .u64 0) := hp_cell (Y11.out) 2; have yz2 := hp_frozen (Y11.out) 2; have y3 : w11.cell? ⟨r, 3, none⟩ = some (.int .u64 0) := hp_cell (Y11.out) 3; have yz3 := hp_frozen (Y11.out) 3; have y4 : w11.cell? ⟨r, 4, none⟩ = some (.int .u64 0) := hp_cell (Y11.out) 4; have yz4 := hp_frozen (Y11.out) 4; have y5 : w11.cell? ⟨r, 5, none⟩ = some (.int .u64 0) := hp_cell (Y11.out) 5; have yz5 := hp_frozen (Y11.out) 5; have y6 : w11.cell? ⟨r, 6, none⟩ = some (.slice none 0 0) := hp_cell (Y11.out) 6; have yz6 := hp_frozen (Y11.out) 6; have yl := hp_lt (Y11.out)
    repeat (first | go_skip | go_guarded | go_step | go_upon)
    refine bodyPost_ret (by simp [results, Try.results13, go_sem, y0, y1, y2, y3, y4, y5, y6, ne1, ne2]; try rfl) rfl ?_
    have M1 := row_nx3 P11.out Y11.out (by decide)
    have M2 := row_nx3 Q11.out Y11.out (by decide)
    have hres : effF l.length ⟨17, ag, v⟩ { s with pc := s.pc + 1 } = .ok { s with pc := s.pc + 1, stk := m } := by unfold effF; simp only [Int.reduceEq, if_false, if_true]; rw [KC.out.1]; simp
    have hv : #[.int .i64 ((j : Int) + 1), .slice (some ⟨gd, 0, none⟩) N d1, .int .u64 s.la, .int .u64 s.lb, .int .u64 s.lc, .int .u64 s.ld, .slice D2 s.out.length d2] = stC { s with pc := s.pc + 1, stk := m } (some ⟨gd, 0, none⟩) d1 D2 d2 := by unfold stC; rw [HJ.out.1, KC.out.2.1]
    rw [← HRR.out, hres, hv]
    exact ⟨(bl_new (bl_new (bl_new (bl_new (bl_new (bl_new (bl_new B11.out GR.out.2.2 _) GR.out.2.2 _) GR.out.2.2 _) GR.out.2.2 _) GR.out.2.2 _) GR.out.2.2 _) GR.out.2.2 _), (some ⟨gd, 0, none⟩), d1, D2, d2, rfl, (row_ne (row_ne (row_ne (row_ne (row_ne (row_ne (row_ne P11.out M1 _ _) M1 _ _) M1 _ _) M1 _ _) M1 _ _) M1 _ _) M1 _ _), (row_ne (row_ne (row_ne (row_ne (row_ne (row_ne (row_ne Q11.out M2 _ _) M2 _ _) M2 _ _) M2 _ _) M2 _ _) M2 _ _) M2 _ _)⟩
set_option maxRecDepth 20000 in
set_option maxHeartbeats 8000000 in
theorem refStep_o20 (l : List Ins3) (c : Nat) (A : Option Addr) (hlc : l.length ≤ c) (hll : l.length ≤ 900) (s : St) (hn : s.stk.length ≤ 800) (hro : s.out.length ≤ 800) (A1 : Option Addr) (c1 : Nat) (A2 : Option Addr) (c2 : Nat) (w : World) (h1 : Src w A1 c1 s.stk) (h2 : Src w A2 c2 s.out) (hi : InssAt w A l) (hpc : 0 ≤ s.pc) (hpl : s.pc < (l.length : Int)) (op ag v : Int) (hx : xn l s.pc.toNat = ⟨op, ag, v⟩) (hop : op = 20) (hso : s.ok) (hr : rightI ⟨op, ag, v⟩ = true) (hs : specI op = false) (hfi : fitI op s.stk.length = true) : Calls Try.prog 13 #[.slice A l.length c, stV s A1 c1 A2 c2] w (RPost (effF l.length ⟨op, ag, v⟩ { s with pc := s.pc + 1 }) w) := by
  have HLOC := Lib.hid hso.2
  have HOP := Lib.hid hop
  clear hso hop
  obtain ⟨RR, hRR⟩ : ∃ R, effF l.length ⟨op, ag, v⟩ { s with pc := s.pc + 1 } = R := ⟨_, rfl⟩
  rw [hRR]
  have HRR := Lib.hid hRR
  clear hRR
  have d : decide (s.pc < 0) = false := decide_eq_false (by omega)
  have d2 : decide (s.pc ≥ (l.length : Int)) = false := decide_eq_false (by omega)
  have d3 : decide ((l.length : Int) ≤ s.pc) = false := d2
  have z1 := (Below.refl w.heap.size w).alloc (Nat.le_refl _) (.cells #[.int .i64 s.pc, .slice A1 s.stk.length c1, .int .u64 s.la, .int .u64 s.lb, .int .u64 s.lc, .int .u64 s.ld, .slice A2 s.out.length c2] 28)
  have z2 := z1.alloc z1.size (.cells #[.int .i64 0, .slice none 0 0, .int .u64 0, .int .u64 0, .int .u64 0, .int .u64 0, .slice none 0 0] 28)
  have X1 := Lib.hid (hp_alloc (heap_alloc_new w (.cells #[.int .i64 s.pc, .slice A1 s.stk.length c1, .int .u64 s.la, .int .u64 s.lb, .int .u64 s.lc, .int .u64 s.ld, .slice A2 s.out.length c2] 28)) (.cells #[.int .i64 0, .slice none 0 0, .int .u64 0, .int .u64 0, .int .u64 0, .int .u64 0, .slice none 0 0] 28))
  have Y1 := Lib.hid (show ((w.alloc (.cells #[.int .i64 s.pc, .slice A1 s.stk.length c1, .int .u64 s.la, .int .u64 s.lb, .int .u64 s.lc, .int .u64 s.ld, .slice A2 s.out.length c2] 28)).alloc (.cells #[.int .i64 0, .slice none 0 0, .int .u64 0, .int .u64 0, .int .u64 0, .int .u64 0, .slice none 0 0] 28)).heap[w.heap.size + 1]? = some (.cells #[.int .i64 0, .slice none 0 0, .int .u64 0, .int .u64 0, .int .u64 0, .int .u64 0, .slice none 0 0] 28 (0, 0)) from (congrArg _ (by simp)).trans (heap_alloc_new (w.alloc (.cells #[.int .i64 s.pc, .slice A1 s.stk.length c1, .int .u64 s.la, .int .u64 s.lb, .int .u64 s.lc, .int .u64 s.ld, .slice A2 s.out.length c2] 28)) (.cells #[.int .i64 0, .slice none 0 0, .int .u64 0, .int .u64 0, .int .u64 0, .int .u64 0, .slice none 0 0] 28)))
  have B1 := Lib.hid z2
  have HI := Lib.hid hi
  have G1 := Lib.hid h1
  have G2 := Lib.hid h2
  clear z1 z2 h1 h2 hi
  unfold stV stC
  go_enter Try.func13, Try.ntmps13
  go_upto_region 1 with fail
  generalize World.alloc _ _ = w2 at X1 Y1 B1 ⊢
  obtain ⟨g, hg⟩ : ∃ g, w.heap.size = g := ⟨_, rfl⟩
  obtain ⟨r, hr⟩ : ∃ r, w.heap.size + 1 = r := ⟨_, rfl⟩
  rw [hg] at X1
  rw [hr] at Y1
  rw [hr, hg]
  have gr : g ≠ r := by omega
  have gb : w.heap.size ≤ g := by omega
  have rb : w.heap.size ≤ r := by omega
  have GR := Lib.hid (And.intro gr (And.intro gb rb))
  clear hg hr gr gb rb
  have x0 : w2.cell? ⟨g, 0, none⟩ = some (.int .i64 s.pc) := hp_cell (X1.out) 0; have x1 : w2.cell? ⟨g, 1, none⟩ = some (.slice A1 s.stk.length c1) := hp_cell (X1.out) 1; have x2 : w2.cell? ⟨g, 2, none⟩ = some (.int .u64 s.la) := hp_cell (X1.out) 2; have x3 : w2.cell? ⟨g, 3, none⟩ = some (.int .u64 s.lb) := hp_cell (X1.out) 3; have x4 : w2.cell? ⟨g, 4, none⟩ = some (.int .u64 s.lc) := hp_cell (X1.out) 4; have x5 : w2.cell? ⟨g, 5, none⟩ = some (.int .u64 s.ld) := hp_cell (X1.out) 5; have x6 : w2.cell? ⟨g, 6, none⟩ = some (.slice A2 s.out.length c2) := hp_cell (X1.out) 6; have xl := hp_lt (X1.out)
  have y0 : w2.cell? ⟨r, 0, none⟩ = some (.int .i64 0) := hp_cell (Y1.out) 0; have yz0 := hp_frozen (Y1.out) 0; have y1 : w2.cell? ⟨r, 1, none⟩ = some (.slice none 0 0) := hp_cell (Y1.out) 1; have yz1 := hp_frozen (Y1.out) 1; have y2 : w2.cell? ⟨r, 2, none⟩ = some (.int .u64 0) := hp_cell (Y1.out) 2; have yz2 := hp_frozen (Y1.out) 2; have y3 : w2.cell? ⟨r, 3, none⟩ = some (.int .u64 0) := hp_cell (Y1.out) 3; have yz3 := hp_frozen (Y1.out) 3; have y4 : w2.cell? ⟨r, 4, none⟩ = some (.int .u64 0) := hp_cell (Y1.out) 4; have yz4 := hp_frozen (Y1.out) 4; have y5 : w2.cell? ⟨r, 5, none⟩ = some (.int .u64 0) := hp_cell (Y1.out) 5; have yz5 := hp_frozen (Y1.out) 5; have y6 : w2.cell? ⟨r, 6, none⟩ = some (.slice none 0 0) := hp_cell (Y1.out) 6; have yz6 := hp_frozen (Y1.out) 6; have yl := hp_lt (Y1.out)
  have ne1 := GR.out.1
  have ne2 : r ≠ g := fun e => ne1 e.symm
  obtain ⟨j, hj⟩ : ∃ j : Nat, s.pc = (j : Int) := ⟨s.pc.toNat, by omega⟩
  have hjl : j < l.length := by omega
  have hjn : s.pc.toNat = j := by omega
  rw [hjn] at hx
  have HJ := Lib.hid (And.intro hj hjl)
  rw [hj] at d d2 d3 x0
  have I2 := Lib.hid (inss_below HI.out B1.out)
  obtain ⟨ad, rfl, _⟩ := xn_at I2.out hjl
  have hI3 := xn_some I2.out hjl
  rw [hx] at hI3
  obtain ⟨hok, a0, a1, a2⟩ := hI3
  dsimp only at a0 a1 a2
  have la : (ad.add (j * 3)).block < w2.heap.size := inAt_lt (xn_some I2.out hjl)
  have la' : ad.block < w2.heap.size := by
    have e : (ad.add (j * 3)).block = ad.block := by unfold Addr.add; split <;> rfl
    omega
  have s3 : (j : Int) < (l.length : Int) := by omega
  have s4 : (0 : Int) ≤ (j : Int) := by omega
  have HOK := Lib.hid hok
  have HC := Lib.hid (fun w => refRight14_any ⟨op, ag, v⟩ hok w)
  unfold inV at HC
  have HP := Lib.hid (fun w => refPlain_any op hok.1.1 w)
  have HR := Lib.hid hr
  clear hok hr hj hjl hjn hx
  have HS := Lib.hid hs
  have HN := Lib.hid hn
  have HFI := Lib.hid hfi
  clear hs hn hfi
  go_upto_region 3 with (first | (go_at_call 33; refine (HC.out _).mono ?_; rintro e w4 ⟨rfl, hb4⟩; rw [HR.out]; have B4 := Lib.hid (B1.out.trans (hb4.mono B1.out.size)); have X4 := Lib.hid (hp_below X1.out hb4); have Y4 := Lib.hid (hp_below Y1.out hb4); have I4 := Lib.hid (inss_below I2.out hb4); have la4 := Nat.lt_of_lt_of_le la' hb4.size; have a0' := (World.cell?_of_block (hb4.block _ la)).trans a0; have a1' := (World.cell?_of_block (a := ⟨(ad.add (j * 3)).block, (ad.add (j * 3)).off + 1, none⟩) (hb4.block _ la)).trans a1; have a2' := (World.cell?_of_block (a := ⟨(ad.add (j * 3)).block, (ad.add (j * 3)).off + 2, none⟩) (hb4.block _ la)).trans a2; clear a0 a1 a2 la hb4; have u0 : w4.cell? ⟨g, 0, none⟩ = some (.int .i64 s.pc) := hp_cell (X4.out) 0; have u1 : w4.cell? ⟨g, 1, none⟩ = some (.slice A1 s.stk.length c1) := hp_cell (X4.out) 1; have u2 : w4.cell? ⟨g, 2, none⟩ = some (.int .u64 s.la) := hp_cell (X4.out) 2; have u3 : w4.cell? ⟨g, 3, none⟩ = some (.int .u64 s.lb) := hp_cell (X4.out) 3; have u4 : w4.cell? ⟨g, 4, none⟩ = some (.int .u64 s.lc) := hp_cell (X4.out) 4; have u5 : w4.cell? ⟨g, 5, none⟩ = some (.int .u64 s.ld) := hp_cell (X4.out) 5; have u6 : w4.cell? ⟨g, 6, none⟩ = some (.slice A2 s.out.length c2) := hp_cell (X4.out) 6; have ul := hp_lt (X4.out); rw [HJ.out.1] at u0; have v0 : w4.cell? ⟨r, 0, none⟩ = some (.int .i64 0) := hp_cell (Y4.out) 0; have vz0 := hp_frozen (Y4.out) 0; have v1 : w4.cell? ⟨r, 1, none⟩ = some (.slice none 0 0) := hp_cell (Y4.out) 1; have vz1 := hp_frozen (Y4.out) 1; have v2 : w4.cell? ⟨r, 2, none⟩ = some (.int .u64 0) := hp_cell (Y4.out) 2; have vz2 := hp_frozen (Y4.out) 2; have v3 : w4.cell? ⟨r, 3, none⟩ = some (.int .u64 0) := hp_cell (Y4.out) 3; have vz3 := hp_frozen (Y4.out) 3; have v4 : w4.cell? ⟨r, 4, none⟩ = some (.int .u64 0) := hp_cell (Y4.out) 4; have vz4 := hp_frozen (Y4.out) 4; have v5 : w4.cell? ⟨r, 5, none⟩ = some (.int .u64 0) := hp_cell (Y4.out) 5; have vz5 := hp_frozen (Y4.out) 5; have v6 : w4.cell? ⟨r, 6, none⟩ = some (.slice none 0 0) := hp_cell (Y4.out) 6; have vz6 := hp_frozen (Y4.out) 6; have vl := hp_lt (Y4.out)) | (go_at_call 34; refine (HP.out _).mono ?_; rintro e w' ⟨rfl, rfl⟩; rw [HS.out]))
  have laj : (ad.add (j * 3)).block < w4.heap.size := inAt_lt (xn_some I4.out HJ.out.2)
  go_upto_region 4 with fail
  have z6 := (Below.refl w4.heap.size w4).alloc (Nat.le_refl _) (.cells #[.int .u8 op, .int .i64 ag, .int .u64 v] 42)
  have X6 := Lib.hid (heap_alloc_new w4 (.cells #[.int .u8 op, .int .i64 ag, .int .u64 v] 42))
  have X5 := Lib.hid (hp_below X4.out z6)
  have Y5 := Lib.hid (hp_below Y4.out z6)
  have B5 := Lib.hid (B4.out.alloc B4.out.size (.cells #[.int .u8 op, .int .i64 ag, .int .u64 v] 42))
  have xne := Lib.hid (show g ≠ w4.heap.size ∧ r ≠ w4.heap.size from ⟨fun e => Nat.lt_irrefl _ (e ▸ ul), fun e => Nat.lt_irrefl _ (e ▸ vl)⟩)
  have S5 := Lib.hid (show w.heap.size ≤ w4.heap.size from B4.out.size)
  clear z6 X4 Y4 B4 I4 la4 laj a0' a1' a2' u0  v0 vz0 u1  v1 vz1 u2  v2 vz2 u3  v3 vz3 u4  v4 vz4 u5  v5 vz5 u6  v6 vz6 ul vl x0 y0 yz0 x1 y1 yz1 x2 y2 yz2 x3 y3 yz3 x4 y4 yz4 x5 y5 yz5 x6 y6 yz6 xl yl
  generalize w4.alloc _ = w5 at X6 X5 Y5 B5 ⊢
  obtain ⟨xi, hxi⟩ : ∃ x, w4.heap.size = x := ⟨_, rfl⟩
  rw [hxi] at X6 xne S5 ⊢
  clear hxi
  have x0 : w5.cell? ⟨g, 0, none⟩ = some (.int .i64 s.pc) := hp_cell (X5.out) 0; have x1 : w5.cell? ⟨g, 1, none⟩ = some (.slice A1 s.stk.length c1) := hp_cell (X5.out) 1; have x2 : w5.cell? ⟨g, 2, none⟩ = some (.int .u64 s.la) := hp_cell (X5.out) 2; have x3 : w5.cell? ⟨g, 3, none⟩ = some (.int .u64 s.lb) := hp_cell (X5.out) 3; have x4 : w5.cell? ⟨g, 4, none⟩ = some (.int .u64 s.lc) := hp_cell (X5.out) 4; have x5 : w5.cell? ⟨g, 5, none⟩ = some (.int .u64 s.ld) := hp_cell (X5.out) 5; have x6 : w5.cell? ⟨g, 6, none⟩ = some (.slice A2 s.out.length c2) := hp_cell (X5.out) 6; have xl := hp_lt (X5.out)
  rw [HJ.out.1] at x0
  have y0 : w5.cell? ⟨r, 0, none⟩ = some (.int .i64 0) := hp_cell (Y5.out) 0; have yz0 := hp_frozen (Y5.out) 0; have y1 : w5.cell? ⟨r, 1, none⟩ = some (.slice none 0 0) := hp_cell (Y5.out) 1; have yz1 := hp_frozen (Y5.out) 1; have y2 : w5.cell? ⟨r, 2, none⟩ = some (.int .u64 0) := hp_cell (Y5.out) 2; have yz2 := hp_frozen (Y5.out) 2; have y3 : w5.cell? ⟨r, 3, none⟩ = some (.int .u64 0) := hp_cell (Y5.out) 3; have yz3 := hp_frozen (Y5.out) 3; have y4 : w5.cell? ⟨r, 4, none⟩ = some (.int .u64 0) := hp_cell (Y5.out) 4; have yz4 := hp_frozen (Y5.out) 4; have y5 : w5.cell? ⟨r, 5, none⟩ = some (.int .u64 0) := hp_cell (Y5.out) 5; have yz5 := hp_frozen (Y5.out) 5; have y6 : w5.cell? ⟨r, 6, none⟩ = some (.slice none 0 0) := hp_cell (Y5.out) 6; have yz6 := hp_frozen (Y5.out) 6; have yl := hp_lt (Y5.out)
  have i0 : w5.cell? ⟨xi, 0, none⟩ = some (.int .u8 op) := hp_cell X6.out 0
  have il := hp_lt X6.out
  have HFT := Lib.hid (show ∀ w : World, Calls Try.prog 35 #[.int .u8 op, .agg #[.int .i64 (j : Int), .slice A1 s.stk.length c1, .int .u64 s.la, .int .u64 s.lb, .int .u64 s.lc, .int .u64 s.ld, .slice A2 s.out.length c2]] w fun e w' => e = .returned (.int .i64 0) ∧ Below w.heap.size w w' from fun w => by have := refFits_any op HOK.out.1.1 s A1 c1 A2 c2 (by have := HN.out; omega) w; unfold stV stC at this; rw [HFI.out, HJ.out.1] at this; exact this)
  have HCP := Lib.hid (show ∀ w' : World, Below w.heap.size w w' → Calls Try.prog 36 #[.agg #[.int .i64 (j : Int), .slice A1 s.stk.length c1, .int .u64 s.la, .int .u64 s.lb, .int .u64 s.lc, .int .u64 s.ld, .slice A2 s.out.length c2]] w' (fun e w2 => ∃ D1 d1 D2 d2, e = .returned (.agg #[.int .i64 (j : Int), .slice D1 s.stk.length d1, .int .u64 s.la, .int .u64 s.lb, .int .u64 s.lc, .int .u64 s.ld, .slice D2 s.out.length d2]) ∧ RowAt w2 w'.heap.size D1 d1 s.stk ∧ RowAt w2 w'.heap.size D2 d2 s.out ∧ (∀ k, blk D1 = some k → blk D2 ≠ some k) ∧ Below w'.heap.size w' w2) from fun w' hb => by have := refCopied_any s A1 c1 A2 c2 w' (G1.out.below hb) (G2.out.below hb); unfold CopyPost stV stC at this; rw [HJ.out.1] at this; exact this)
  go_upto_region 8 with (first | (go_at_call 35; refine (HFT.out _).mono ?_; rintro e w7 ⟨rfl, hb7⟩; have X7 := Lib.hid (hp_below X5.out hb7); have Y7 := Lib.hid (hp_below Y5.out hb7); have I7 := Lib.hid (hp_below X6.out hb7); have B7 := Lib.hid (B5.out.trans (hb7.mono B5.out.size)); clear hb7; clear x0 y0 yz0 x1 y1 yz1 x2 y2 yz2 x3 y3 yz3 x4 y4 yz4 x5 y5 yz5 x6 y6 yz6 xl yl i0 il; have x0 : w7.cell? ⟨g, 0, none⟩ = some (.int .i64 s.pc) := hp_cell (X7.out) 0; have xz0 := hp_frozen (X7.out) 0; have x1 : w7.cell? ⟨g, 1, none⟩ = some (.slice A1 s.stk.length c1) := hp_cell (X7.out) 1; have xz1 := hp_frozen (X7.out) 1; have x2 : w7.cell? ⟨g, 2, none⟩ = some (.int .u64 s.la) := hp_cell (X7.out) 2; have xz2 := hp_frozen (X7.out) 2; have x3 : w7.cell? ⟨g, 3, none⟩ = some (.int .u64 s.lb) := hp_cell (X7.out) 3; have xz3 := hp_frozen (X7.out) 3; have x4 : w7.cell? ⟨g, 4, none⟩ = some (.int .u64 s.lc) := hp_cell (X7.out) 4; have xz4 := hp_frozen (X7.out) 4; have x5 : w7.cell? ⟨g, 5, none⟩ = some (.int .u64 s.ld) := hp_cell (X7.out) 5; have xz5 := hp_frozen (X7.out) 5; have x6 : w7.cell? ⟨g, 6, none⟩ = some (.slice A2 s.out.length c2) := hp_cell (X7.out) 6; have xz6 := hp_frozen (X7.out) 6; have xl := hp_lt (X7.out); rw [HJ.out.1] at x0; have yl := hp_lt Y7.out) | (go_at_call 36; refine (HCP.out _ B7.out).mono ?_; rintro e w8 ⟨D1, d1, D2, d2, rfl, hr1, hr2, hd, hb8⟩; have B8 := Lib.hid (B7.out.trans (hb8.mono B7.out.size)); have X8 := Lib.hid (hp_below X7.out hb8); have Y8 := Lib.hid (hp_below Y7.out hb8); have I8 := Lib.hid (hp_below I7.out hb8); have P8 := Lib.hid (row_base hr1 B7.out.size); have Q8 := Lib.hid (row_base hr2 B7.out.size); have DD := Lib.hid hd; clear hr1 hr2 hd hb8; clear x0 xz0 x1 xz1 x2 xz2 x3 xz3 x4 xz4 x5 xz5 x6 xz6 xl yl; have x0 : w8.cell? ⟨g, 0, none⟩ = some (.int .i64 s.pc) := hp_cell (X8.out) 0; have xz0 := hp_frozen (X8.out) 0; have x1 : w8.cell? ⟨g, 1, none⟩ = some (.slice A1 s.stk.length c1) := hp_cell (X8.out) 1; have xz1 := hp_frozen (X8.out) 1; have x2 : w8.cell? ⟨g, 2, none⟩ = some (.int .u64 s.la) := hp_cell (X8.out) 2; have xz2 := hp_frozen (X8.out) 2; have x3 : w8.cell? ⟨g, 3, none⟩ = some (.int .u64 s.lb) := hp_cell (X8.out) 3; have xz3 := hp_frozen (X8.out) 3; have x4 : w8.cell? ⟨g, 4, none⟩ = some (.int .u64 s.lc) := hp_cell (X8.out) 4; have xz4 := hp_frozen (X8.out) 4; have x5 : w8.cell? ⟨g, 5, none⟩ = some (.int .u64 s.ld) := hp_cell (X8.out) 5; have xz5 := hp_frozen (X8.out) 5; have x6 : w8.cell? ⟨g, 6, none⟩ = some (.slice A2 s.out.length c2) := hp_cell (X8.out) 6; have xz6 := hp_frozen (X8.out) 6; have xl := hp_lt (X8.out); rw [HJ.out.1] at x0))
  clear x0 xz0 x1 xz1 x2 xz2 x3 xz3 x4 xz4 x5 xz5 x6 xz6 xl
  have X8 : Hid (w8.heap[g]? = some (.cells #[.int .i64 (j : Int), .slice A1 s.stk.length c1, .int .u64 s.la, .int .u64 s.lb, .int .u64 s.lc, .int .u64 s.ld, .slice A2 s.out.length c2] 28 (0, 0))) := Lib.hid (by rw [← HJ.out.1]; exact X8.out)
  have k0 := hp_put (cs' := #[.int .i64 (j : Int), .slice A1 s.stk.length c1, .int .u64 s.la, .int .u64 s.lb, .int .u64 s.lc, .int .u64 s.ld, .slice A2 s.out.length c2]) X8.out 0 (.int .i64 (j : Int)) (by simp)
  have k1 := hp_put (cs' := #[.int .i64 (j : Int), .slice D1 s.stk.length d1, .int .u64 s.la, .int .u64 s.lb, .int .u64 s.lc, .int .u64 s.ld, .slice A2 s.out.length c2]) k0 1 (.slice D1 s.stk.length d1) (by simp)
  have k2 := hp_put (cs' := #[.int .i64 (j : Int), .slice D1 s.stk.length d1, .int .u64 s.la, .int .u64 s.lb, .int .u64 s.lc, .int .u64 s.ld, .slice A2 s.out.length c2]) k1 2 (.int .u64 s.la) (by simp)
  have k3 := hp_put (cs' := #[.int .i64 (j : Int), .slice D1 s.stk.length d1, .int .u64 s.la, .int .u64 s.lb, .int .u64 s.lc, .int .u64 s.ld, .slice A2 s.out.length c2]) k2 3 (.int .u64 s.lb) (by simp)
  have k4 := hp_put (cs' := #[.int .i64 (j : Int), .slice D1 s.stk.length d1, .int .u64 s.la, .int .u64 s.lb, .int .u64 s.lc, .int .u64 s.ld, .slice A2 s.out.length c2]) k3 4 (.int .u64 s.lc) (by simp)
  have k5 := hp_put (cs' := #[.int .i64 (j : Int), .slice D1 s.stk.length d1, .int .u64 s.la, .int .u64 s.lb, .int .u64 s.lc, .int .u64 s.ld, .slice A2 s.out.length c2]) k4 5 (.int .u64 s.ld) (by simp)
  have k6 := hp_put (cs' := #[.int .i64 (j : Int), .slice D1 s.stk.length d1, .int .u64 s.la, .int .u64 s.lb, .int .u64 s.lc, .int .u64 s.ld, .slice D2 s.out.length d2]) k5 6 (.slice D2 s.out.length d2) (by simp)
  have hF : Fr (fun k => k ≠ g) w8 ((((((((w8).setCell ⟨g, 0, none⟩ (.int .i64 (j : Int))).setCell ⟨g, 1, none⟩ (.slice D1 s.stk.length d1)).setCell ⟨g, 2, none⟩ (.int .u64 s.la)).setCell ⟨g, 3, none⟩ (.int .u64 s.lb)).setCell ⟨g, 4, none⟩ (.int .u64 s.lc)).setCell ⟨g, 5, none⟩ (.int .u64 s.ld)).setCell ⟨g, 6, none⟩ (.slice D2 s.out.length d2)) := (((((((Fr.refl (fun k => k ≠ g) w8).trans (Fr.set _ (fun e => e rfl) _ _)).trans (Fr.set _ (fun e => e rfl) _ _)).trans (Fr.set _ (fun e => e rfl) _ _)).trans (Fr.set _ (fun e => e rfl) _ _)).trans (Fr.set _ (fun e => e rfl) _ _)).trans (Fr.set _ (fun e => e rfl) _ _)).trans (Fr.set _ (fun e => e rfl) _ _)
  have X9 := Lib.hid k6
  have Y9 := Lib.hid (hF.hp Y8.out ne2)
  have I9 := Lib.hid (hF.hp I8.out (fun e => xne.out.1 e.symm))
  have P9 := Lib.hid (row_fr P8.out hF (row_nx3 P8.out X8.out (by decide)))
  have Q9 := Lib.hid (row_fr Q8.out hF (row_nx3 Q8.out X8.out (by decide)))
  have B9 := Lib.hid (B8.out.trans (hF.toBelow (fun k hk => by have := GR.out.2.1; omega)))
  clear k0 k1 k2 k3 k4 k5 k6 hF X8 Y8 I8 P8 Q8 B8
  generalize (((((((w8).setCell ⟨g, 0, none⟩ (.int .i64 (j : Int))).setCell ⟨g, 1, none⟩ (.slice D1 s.stk.length d1)).setCell ⟨g, 2, none⟩ (.int .u64 s.la)).setCell ⟨g, 3, none⟩ (.int .u64 s.lb)).setCell ⟨g, 4, none⟩ (.int .u64 s.lc)).setCell ⟨g, 5, none⟩ (.int .u64 s.ld)).setCell ⟨g, 6, none⟩ (.slice D2 s.out.length d2) = w9 at X9 Y9 I9 P9 Q9 B9 ⊢
  have x0 : w9.cell? ⟨g, 0, none⟩ = some (.int .i64 (j : Int)) := hp_cell (X9.out) 0; have xz0 := hp_frozen (X9.out) 0; have x1 : w9.cell? ⟨g, 1, none⟩ = some (.slice D1 s.stk.length d1) := hp_cell (X9.out) 1; have xz1 := hp_frozen (X9.out) 1; have x2 : w9.cell? ⟨g, 2, none⟩ = some (.int .u64 s.la) := hp_cell (X9.out) 2; have xz2 := hp_frozen (X9.out) 2; have x3 : w9.cell? ⟨g, 3, none⟩ = some (.int .u64 s.lb) := hp_cell (X9.out) 3; have xz3 := hp_frozen (X9.out) 3; have x4 : w9.cell? ⟨g, 4, none⟩ = some (.int .u64 s.lc) := hp_cell (X9.out) 4; have xz4 := hp_frozen (X9.out) 4; have x5 : w9.cell? ⟨g, 5, none⟩ = some (.int .u64 s.ld) := hp_cell (X9.out) 5; have xz5 := hp_frozen (X9.out) 5; have x6 : w9.cell? ⟨g, 6, none⟩ = some (.slice D2 s.out.length d2) := hp_cell (X9.out) 6; have xz6 := hp_frozen (X9.out) 6; have xl := hp_lt (X9.out)
  have i0 : w9.cell? ⟨xi, 0, none⟩ = some (.int .u8 op) := hp_cell (I9.out) 0; have i1 : w9.cell? ⟨xi, 1, none⟩ = some (.int .i64 ag) := hp_cell (I9.out) 1; have i2 : w9.cell? ⟨xi, 2, none⟩ = some (.int .u64 v) := hp_cell (I9.out) 2; have il := hp_lt (I9.out)
  have yl := hp_lt Y9.out
  have xn1 : g ≠ xi := xne.out.1
  have xn2 : xi ≠ g := fun e => xn1 e.symm
  have hop := HOP.out
  subst hop
  · rw [show s.stk.length = s.stk.length from rfl] at x1
    obtain ⟨m, a, hst⟩ := snoc_of (l := s.stk) (by have := fit_pops HFI.out; rw [show popsI 20 = 1 from by decide] at this; omega)
    obtain ⟨N, hN⟩ : ∃ N, m.length = N := ⟨_, rfl⟩
    have hl : s.stk.length = N + 1 := by rw [hst]; simp [hN]
    have hNl : N ≤ 800 := by have := HN.out; omega
    have kc := (row_cap P9.out).1
    rw [hl] at x1 X9 kc
    obtain ⟨gd, eD, xa, _, ld⟩ := row_head P9.out (i := N) (by omega)
    subst eD
    have hva : hvAt s.stk N = a := by rw [hst]; unfold hvAt; simp [← hN]
    rw [hva] at xa
    have hwa : W64 a := P9.out.2 a (by rw [hst]; simp)
    have kw : wrap64 (((N + 1 : Nat) : Int) - 1) = (N : Int) := by unfold wrap64; omega
    have kw' : wrap64 ((N : Int) + 1 - 1) = (N : Int) := by unfold wrap64; omega
    have k1 : N ≤ N + 1 := by omega
    have kj : wrap64 ((j : Int) + 1) = (j : Int) + 1 := by have := HJ.out.2; unfold wrap64; omega
    have HEF := Lib.hid (show ∀ w : World, Calls Try.prog 37 #[.int .u8 20] w fun e w' => e = .returned (.tuple #[.int .i64 1, .int .i64 0]) ∧ w = w' from fun w => by have := refEffect_any 20 (by decide) w; rw [show popsI 20 = 1 from by decide, show pushI 20 = 0 from by decide] at this; exact this)
    go_upto_region 12 with (go_at_call 37; refine (HEF.out _).mono ?_; rintro e w' ⟨rfl, rfl⟩)
    have KC := Lib.hid (And.intro hst (And.intro hN (And.intro hl (And.intro hNl (And.intro kc hwa))))); clear hst hN hl hNl kc hwa hva kw kw' k1 s3 s4 d3 hpc hpl hlc hll hro
    go_upto_block 0 with fail
    have s0 := hp_put (cs' := #[.int .i64 ((j : Int) + 1), .slice (some ⟨gd, 0, none⟩) (N + 1) d1, .int .u64 s.la, .int .u64 s.lb, .int .u64 s.lc, .int .u64 s.ld, .slice D2 s.out.length d2]) X9.out 0 (.int .i64 ((j : Int) + 1)) (by simp)
    have hF : Fr (fun k => k ≠ g) w9 ((w9).setCell ⟨g, 0, none⟩ (.int .i64 ((j : Int) + 1))) := (Fr.refl (fun k => k ≠ g) w9).trans (Fr.set _ (fun e => e rfl) _ _)
    have X10 := Lib.hid s0
    have Y10 := Lib.hid (hF.hp Y9.out ne2)
    have I10 := Lib.hid (hF.hp I9.out xn2)
    have P10 := Lib.hid (row_fr P9.out hF (row_nx3 P9.out X9.out (by decide)))
    have Q10 := Lib.hid (row_fr Q9.out hF (row_nx3 Q9.out X9.out (by decide)))
    have B10 := Lib.hid (B9.out.trans (hF.toBelow (fun k hk => by have := GR.out.2.1; omega)))
    clear s0 hF X9 Y9 I9 P9 Q9 B9
    generalize (w9).setCell ⟨g, 0, none⟩ (.int .i64 ((j : Int) + 1)) = w10 at X10 Y10 I10 P10 Q10 B10 ⊢
    clear x0 xz0 x1 xz1 x2 xz2 x3 xz3 x4 xz4 x5 xz5 x6 xz6 xl i0 i1 i2 il yl
    obtain tb | tb : truthB a = true ∨ truthB a = false := by cases truthB a <;> simp
    · have TB := Lib.hid tb
      clear tb
      have x0 : w10.cell? ⟨g, 0, none⟩ = some (.int .i64 ((j : Int) + 1)) := hp_cell (X10.out) 0; have xz0 := hp_frozen (X10.out) 0; have x1 : w10.cell? ⟨g, 1, none⟩ = some (.slice (some ⟨gd, 0, none⟩) (N + 1) d1) := hp_cell (X10.out) 1; have xz1 := hp_frozen (X10.out) 1; have x2 : w10.cell? ⟨g, 2, none⟩ = some (.int .u64 s.la) := hp_cell (X10.out) 2; have xz2 := hp_frozen (X10.out) 2; have x3 : w10.cell? ⟨g, 3, none⟩ = some (.int .u64 s.lb) := hp_cell (X10.out) 3; have xz3 := hp_frozen (X10.out) 3; have x4 : w10.cell? ⟨g, 4, none⟩ = some (.int .u64 s.lc) := hp_cell (X10.out) 4; have xz4 := hp_frozen (X10.out) 4; have x5 : w10.cell? ⟨g, 5, none⟩ = some (.int .u64 s.ld) := hp_cell (X10.out) 5; have xz5 := hp_frozen (X10.out) 5; have x6 : w10.cell? ⟨g, 6, none⟩ = some (.slice D2 s.out.length d2) := hp_cell (X10.out) 6; have xz6 := hp_frozen (X10.out) 6; have xl := hp_lt (X10.out)
      have i0 : w10.cell? ⟨xi, 0, none⟩ = some (.int .u8 20) := hp_cell (I10.out) 0; have i1 : w10.cell? ⟨xi, 1, none⟩ = some (.int .i64 ag) := hp_cell (I10.out) 1; have i2 : w10.cell? ⟨xi, 2, none⟩ = some (.int .u64 v) := hp_cell (I10.out) 2; have il := hp_lt (I10.out)
      have yl := hp_lt Y10.out
      have xa10 := row_at2 P10.out KC.out.1 KC.out.2.1
      have la10 := World.block_lt_of_cell? w10 _ xa10
      go_upto_region 40 with (go_at_call 38; refine (refTruth_any a KC.out.2.2.2.2.2 _).mono ?_; rintro e w' ⟨rfl, rfl⟩; rw [TB.out])
      have s0 := hp_put (cs' := #[.int .i64 ((j : Int) + 1), .slice (some ⟨gd, 0, none⟩) N d1, .int .u64 s.la, .int .u64 s.lb, .int .u64 s.lc, .int .u64 s.ld, .slice D2 s.out.length d2]) X10.out 1 (.slice (some ⟨gd, 0, none⟩) N d1) (by simp)
      have hF : Fr (fun k => k ≠ g) w10 ((w10).setCell ⟨g, 1, none⟩ (.slice (some ⟨gd, 0, none⟩) N d1)) := (Fr.refl (fun k => k ≠ g) w10).trans (Fr.set _ (fun e => e rfl) _ _)
      have X11 := Lib.hid s0
      have Y11 := Lib.hid (hF.hp Y10.out ne2)
      have I11 := Lib.hid (hF.hp I10.out xn2)
      have P11 := Lib.hid (row_fr P10.out hF (row_nx3 P10.out X10.out (by decide)))
      have Q11 := Lib.hid (row_fr Q10.out hF (row_nx3 Q10.out X10.out (by decide)))
      have B11 := Lib.hid (B10.out.trans (hF.toBelow (fun k hk => by have := GR.out.2.1; omega)))
      clear s0 hF X10 Y10 I10 P10 Q10 B10
      generalize (w10).setCell ⟨g, 1, none⟩ (.slice (some ⟨gd, 0, none⟩) N d1) = w11 at X11 Y11 I11 P11 Q11 B11 ⊢
      clear x0 xz0 x1 xz1 x2 xz2 x3 xz3 x4 xz4 x5 xz5 x6 xz6 xl i0 i1 i2 il yl xa10 la10
      have P11 := Lib.hid (row_pop (by rw [← KC.out.1]; exact P11.out))
      have x0 : w11.cell? ⟨g, 0, none⟩ = some (.int .i64 ((j : Int) + 1)) := hp_cell (X11.out) 0; have x1 : w11.cell? ⟨g, 1, none⟩ = some (.slice (some ⟨gd, 0, none⟩) N d1) := hp_cell (X11.out) 1; have x2 : w11.cell? ⟨g, 2, none⟩ = some (.int .u64 s.la) := hp_cell (X11.out) 2; have x3 : w11.cell? ⟨g, 3, none⟩ = some (.int .u64 s.lb) := hp_cell (X11.out) 3; have x4 : w11.cell? ⟨g, 4, none⟩ = some (.int .u64 s.lc) := hp_cell (X11.out) 4; have x5 : w11.cell? ⟨g, 5, none⟩ = some (.int .u64 s.ld) := hp_cell (X11.out) 5; have x6 : w11.cell? ⟨g, 6, none⟩ = some (.slice D2 s.out.length d2) := hp_cell (X11.out) 6; have xl := hp_lt (X11.out)
      have y0 : w11.cell? ⟨r, 0, none⟩ = some (.int .i64 0) := hp_cell (Y11.out) 0; have yz0 := hp_frozen (Y11.out) 0; have y1 : w11.cell? ⟨r, 1, none⟩ = some (.slice none 0 0) := hp_cell (Y11.out) 1; have yz1 := hp_frozen (Y11.out) 1; have y2 : w11.cell? ⟨r, 2, none⟩ = some (.int .u64 0) := hp_cell (Y11.out) 2; have yz2 := hp_frozen (Y11.out) 2; have y3 : w11.cell? ⟨r, 3, none⟩ = some (.int .u64 0) := hp_cell (Y11.out) 3; have yz3 := hp_frozen (Y11.out) 3; have y4 : w11.cell? ⟨r, 4, none⟩ = some (.int .u64 0) := hp_cell (Y11.out) 4; have yz4 := hp_frozen (Y11.out) 4; have y5 : w11.cell? ⟨r, 5, none⟩ = some (.int .u64 0) := hp_cell (Y11.out) 5; have yz5 := hp_frozen (Y11.out) 5; have y6 : w11.cell? ⟨r, 6, none⟩ = some (.slice none 0 0) := hp_cell (Y11.out) 6; have yz6 := hp_frozen (Y11.out) 6; have yl := hp_lt (Y11.out)
      repeat (first | go_skip | go_guarded | go_step | go_upon)
      refine bodyPost_ret (by simp [results, Try.results13, go_sem, y0, y1, y2, y3, y4, y5, y6, ne1, ne2]; try rfl) rfl ?_
      have M1 := row_nx3 P11.out Y11.out (by decide)
      have M2 := row_nx3 Q11.out Y11.out (by decide)
      have hres : effF l.length ⟨20, ag, v⟩ { s with pc := s.pc + 1 } = .ok { s with pc := s.pc + 1, stk := m } := by unfold effF; simp only [Int.reduceEq, if_false, if_true]; rw [KC.out.1, topI_snoc, TB.out]; simp
      have hv : #[.int .i64 ((j : Int) + 1), .slice (some ⟨gd, 0, none⟩) N d1, .int .u64 s.la, .int .u64 s.lb, .int .u64 s.lc, .int .u64 s.ld, .slice D2 s.out.length d2] = stC { s with pc := s.pc + 1, stk := m } (some ⟨gd, 0, none⟩) d1 D2 d2 := by unfold stC; rw [HJ.out.1, KC.out.2.1]
      rw [← HRR.out, hres, hv]
      exact ⟨(bl_new (bl_new (bl_new (bl_new (bl_new (bl_new (bl_new B11.out GR.out.2.2 _) GR.out.2.2 _) GR.out.2.2 _) GR.out.2.2 _) GR.out.2.2 _) GR.out.2.2 _) GR.out.2.2 _), (some ⟨gd, 0, none⟩), d1, D2, d2, rfl, (row_ne (row_ne (row_ne (row_ne (row_ne (row_ne (row_ne P11.out M1 _ _) M1 _ _) M1 _ _) M1 _ _) M1 _ _) M1 _ _) M1 _ _), (row_ne (row_ne (row_ne (row_ne (row_ne (row_ne (row_ne Q11.out M2 _ _) M2 _ _) M2 _ _) M2 _ _) M2 _ _) M2 _ _) M2 _ _)⟩
    · have TB := Lib.hid tb
      clear tb
      by_cases hag : ag ≤ (l.length : Int)
      · have q1 : decide (ag > (l.length : Int)) = false := decide_eq_false (by omega)
        have q2 : decide ((l.length : Int) < ag) = false := q1
        have HAG := Lib.hid hag
        clear hag
        have x0 : w10.cell? ⟨g, 0, none⟩ = some (.int .i64 ((j : Int) + 1)) := hp_cell (X10.out) 0; have xz0 := hp_frozen (X10.out) 0; have x1 : w10.cell? ⟨g, 1, none⟩ = some (.slice (some ⟨gd, 0, none⟩) (N + 1) d1) := hp_cell (X10.out) 1; have xz1 := hp_frozen (X10.out) 1; have x2 : w10.cell? ⟨g, 2, none⟩ = some (.int .u64 s.la) := hp_cell (X10.out) 2; have xz2 := hp_frozen (X10.out) 2; have x3 : w10.cell? ⟨g, 3, none⟩ = some (.int .u64 s.lb) := hp_cell (X10.out) 3; have xz3 := hp_frozen (X10.out) 3; have x4 : w10.cell? ⟨g, 4, none⟩ = some (.int .u64 s.lc) := hp_cell (X10.out) 4; have xz4 := hp_frozen (X10.out) 4; have x5 : w10.cell? ⟨g, 5, none⟩ = some (.int .u64 s.ld) := hp_cell (X10.out) 5; have xz5 := hp_frozen (X10.out) 5; have x6 : w10.cell? ⟨g, 6, none⟩ = some (.slice D2 s.out.length d2) := hp_cell (X10.out) 6; have xz6 := hp_frozen (X10.out) 6; have xl := hp_lt (X10.out)
        have i0 : w10.cell? ⟨xi, 0, none⟩ = some (.int .u8 20) := hp_cell (I10.out) 0; have i1 : w10.cell? ⟨xi, 1, none⟩ = some (.int .i64 ag) := hp_cell (I10.out) 1; have i2 : w10.cell? ⟨xi, 2, none⟩ = some (.int .u64 v) := hp_cell (I10.out) 2; have il := hp_lt (I10.out)
        have yl := hp_lt Y10.out
        have xa10 := row_at2 P10.out KC.out.1 KC.out.2.1
        have la10 := World.block_lt_of_cell? w10 _ xa10
        go_upto_region 40 with (go_at_call 38; refine (refTruth_any a KC.out.2.2.2.2.2 _).mono ?_; rintro e w' ⟨rfl, rfl⟩; rw [TB.out])
        have s0 := hp_put (cs' := #[.int .i64 ag, .slice (some ⟨gd, 0, none⟩) (N + 1) d1, .int .u64 s.la, .int .u64 s.lb, .int .u64 s.lc, .int .u64 s.ld, .slice D2 s.out.length d2]) X10.out 0 (.int .i64 ag) (by simp)
        have s1 := hp_put (cs' := #[.int .i64 ag, .slice (some ⟨gd, 0, none⟩) N d1, .int .u64 s.la, .int .u64 s.lb, .int .u64 s.lc, .int .u64 s.ld, .slice D2 s.out.length d2]) s0 1 (.slice (some ⟨gd, 0, none⟩) N d1) (by simp)
        have hF : Fr (fun k => k ≠ g) w10 (((w10).setCell ⟨g, 0, none⟩ (.int .i64 ag)).setCell ⟨g, 1, none⟩ (.slice (some ⟨gd, 0, none⟩) N d1)) := ((Fr.refl (fun k => k ≠ g) w10).trans (Fr.set _ (fun e => e rfl) _ _)).trans (Fr.set _ (fun e => e rfl) _ _)
        have X11 := Lib.hid s1
        have Y11 := Lib.hid (hF.hp Y10.out ne2)
        have I11 := Lib.hid (hF.hp I10.out xn2)
        have P11 := Lib.hid (row_fr P10.out hF (row_nx3 P10.out X10.out (by decide)))
        have Q11 := Lib.hid (row_fr Q10.out hF (row_nx3 Q10.out X10.out (by decide)))
        have B11 := Lib.hid (B10.out.trans (hF.toBelow (fun k hk => by have := GR.out.2.1; omega)))
        clear s0 s1 hF X10 Y10 I10 P10 Q10 B10
        generalize ((w10).setCell ⟨g, 0, none⟩ (.int .i64 ag)).setCell ⟨g, 1, none⟩ (.slice (some ⟨gd, 0, none⟩) N d1) = w11 at X11 Y11 I11 P11 Q11 B11 ⊢
        clear x0 xz0 x1 xz1 x2 xz2 x3 xz3 x4 xz4 x5 xz5 x6 xz6 xl i0 i1 i2 il yl xa10 la10
        have P11 := Lib.hid (row_pop (by rw [← KC.out.1]; exact P11.out))
        have x0 : w11.cell? ⟨g, 0, none⟩ = some (.int .i64 ag) := hp_cell (X11.out) 0; have x1 : w11.cell? ⟨g, 1, none⟩ = some (.slice (some ⟨gd, 0, none⟩) N d1) := hp_cell (X11.out) 1; have x2 : w11.cell? ⟨g, 2, none⟩ = some (.int .u64 s.la) := hp_cell (X11.out) 2; have x3 : w11.cell? ⟨g, 3, none⟩ = some (.int .u64 s.lb) := hp_cell (X11.out) 3; have x4 : w11.cell? ⟨g, 4, none⟩ = some (.int .u64 s.lc) := hp_cell (X11.out) 4; have x5 : w11.cell? ⟨g, 5, none⟩ = some (.int .u64 s.ld) := hp_cell (X11.out) 5; have x6 : w11.cell? ⟨g, 6, none⟩ = some (.slice D2 s.out.length d2) := hp_cell (X11.out) 6; have xl := hp_lt (X11.out)
        have y0 : w11.cell? ⟨r, 0, none⟩ = some (.int .i64 0) := hp_cell (Y11.out) 0; have yz0 := hp_frozen (Y11.out) 0; have y1 : w11.cell? ⟨r, 1, none⟩ = some (.slice none 0 0) := hp_cell (Y11.out) 1; have yz1 := hp_frozen (Y11.out) 1; have y2 : w11.cell? ⟨r, 2, none⟩ = some (.int .u64 0) := hp_cell (Y11.out) 2; have yz2 := hp_frozen (Y11.out) 2; have y3 : w11.cell? ⟨r, 3, none⟩ = some (.int .u64 0) := hp_cell (Y11.out) 3; have yz3 := hp_frozen (Y11.out) 3; have y4 : w11.cell? ⟨r, 4, none⟩ = some (.int .u64 0) := hp_cell (Y11.out) 4; have yz4 := hp_frozen (Y11.out) 4; have y5 : w11.cell? ⟨r, 5, none⟩ = some (.int .u64 0) := hp_cell (Y11.out) 5; have yz5 := hp_frozen (Y11.out) 5; have y6 : w11.cell? ⟨r, 6, none⟩ = some (.slice none 0 0) := hp_cell (Y11.out) 6; have yz6 := hp_frozen (Y11.out) 6; have yl := hp_lt (Y11.out)
        repeat (first | go_skip | go_guarded | go_step | go_upon)
        refine bodyPost_ret (by simp [results, Try.results13, go_sem, y0, y1, y2, y3, y4, y5, y6, ne1, ne2]; try rfl) rfl ?_
        have M1 := row_nx3 P11.out Y11.out (by decide)
        have M2 := row_nx3 Q11.out Y11.out (by decide)
        have hres : effF l.length ⟨20, ag, v⟩ { s with pc := s.pc + 1 } = .ok { s with pc := ag, stk := m } := by unfold effF; simp only [Int.reduceEq, if_false, if_true]; rw [KC.out.1, topI_snoc, TB.out]; unfold jumpF; simp [HAG.out]
        have hv : #[.int .i64 ag, .slice (some ⟨gd, 0, none⟩) N d1, .int .u64 s.la, .int .u64 s.lb, .int .u64 s.lc, .int .u64 s.ld, .slice D2 s.out.length d2] = stC { s with pc := ag, stk := m } (some ⟨gd, 0, none⟩) d1 D2 d2 := by unfold stC; rw [KC.out.2.1]
        rw [← HRR.out, hres, hv]
        exact ⟨(bl_new (bl_new (bl_new (bl_new (bl_new (bl_new (bl_new B11.out GR.out.2.2 _) GR.out.2.2 _) GR.out.2.2 _) GR.out.2.2 _) GR.out.2.2 _) GR.out.2.2 _) GR.out.2.2 _), (some ⟨gd, 0, none⟩), d1, D2, d2, rfl, (row_ne (row_ne (row_ne (row_ne (row_ne (row_ne (row_ne P11.out M1 _ _) M1 _ _) M1 _ _) M1 _ _) M1 _ _) M1 _ _) M1 _ _), (row_ne (row_ne (row_ne (row_ne (row_ne (row_ne (row_ne Q11.out M2 _ _) M2 _ _) M2 _ _) M2 _ _) M2 _ _) M2 _ _) M2 _ _)⟩
      · have q1 : decide (ag > (l.length : Int)) = true := decide_eq_true (by omega)
        have q2 : decide ((l.length : Int) < ag) = true := q1
        have HAG := Lib.hid hag
        clear hag
        have x0 : w10.cell? ⟨g, 0, none⟩ = some (.int .i64 ((j : Int) + 1)) := hp_cell (X10.out) 0; have xz0 := hp_frozen (X10.out) 0; have x1 : w10.cell? ⟨g, 1, none⟩ = some (.slice (some ⟨gd, 0, none⟩) (N + 1) d1) := hp_cell (X10.out) 1; have xz1 := hp_frozen (X10.out) 1; have x2 : w10.cell? ⟨g, 2, none⟩ = some (.int .u64 s.la) := hp_cell (X10.out) 2; have xz2 := hp_frozen (X10.out) 2; have x3 : w10.cell? ⟨g, 3, none⟩ = some (.int .u64 s.lb) := hp_cell (X10.out) 3; have xz3 := hp_frozen (X10.out) 3; have x4 : w10.cell? ⟨g, 4, none⟩ = some (.int .u64 s.lc) := hp_cell (X10.out) 4; have xz4 := hp_frozen (X10.out) 4; have x5 : w10.cell? ⟨g, 5, none⟩ = some (.int .u64 s.ld) := hp_cell (X10.out) 5; have xz5 := hp_frozen (X10.out) 5; have x6 : w10.cell? ⟨g, 6, none⟩ = some (.slice D2 s.out.length d2) := hp_cell (X10.out) 6; have xz6 := hp_frozen (X10.out) 6; have xl := hp_lt (X10.out)
        have i0 : w10.cell? ⟨xi, 0, none⟩ = some (.int .u8 20) := hp_cell (I10.out) 0; have i1 : w10.cell? ⟨xi, 1, none⟩ = some (.int .i64 ag) := hp_cell (I10.out) 1; have i2 : w10.cell? ⟨xi, 2, none⟩ = some (.int .u64 v) := hp_cell (I10.out) 2; have il := hp_lt (I10.out)
        have yl := hp_lt Y10.out
        have xa10 := row_at2 P10.out KC.out.1 KC.out.2.1
        have la10 := World.block_lt_of_cell? w10 _ xa10
        have y0 : w10.cell? ⟨r, 0, none⟩ = some (.int .i64 0) := hp_cell (Y10.out) 0; have yz0 := hp_frozen (Y10.out) 0; have y1 : w10.cell? ⟨r, 1, none⟩ = some (.slice none 0 0) := hp_cell (Y10.out) 1; have yz1 := hp_frozen (Y10.out) 1; have y2 : w10.cell? ⟨r, 2, none⟩ = some (.int .u64 0) := hp_cell (Y10.out) 2; have yz2 := hp_frozen (Y10.out) 2; have y3 : w10.cell? ⟨r, 3, none⟩ = some (.int .u64 0) := hp_cell (Y10.out) 3; have yz3 := hp_frozen (Y10.out) 3; have y4 : w10.cell? ⟨r, 4, none⟩ = some (.int .u64 0) := hp_cell (Y10.out) 4; have yz4 := hp_frozen (Y10.out) 4; have y5 : w10.cell? ⟨r, 5, none⟩ = some (.int .u64 0) := hp_cell (Y10.out) 5; have yz5 := hp_frozen (Y10.out) 5; have y6 : w10.cell? ⟨r, 6, none⟩ = some (.slice none 0 0) := hp_cell (Y10.out) 6; have yz6 := hp_frozen (Y10.out) 6; have yl := hp_lt (Y10.out)
        go_upto_region 35 with (go_at_call 38; refine (refTruth_any a KC.out.2.2.2.2.2 _).mono ?_; rintro e w' ⟨rfl, rfl⟩; rw [TB.out])
        repeat (first | go_skip | go_guarded | go_step | go_upon)
        refine bodyPost_ret (by simp [results, Try.results13, go_sem, y0, y1, y2, y3, y4, y5, y6, ne1, ne2]; try rfl) rfl ?_
        have hres : effF l.length ⟨20, ag, v⟩ { s with pc := s.pc + 1 } = .error 2 := by unfold effF; simp only [Int.reduceEq, if_false, if_true]; rw [KC.out.1, topI_snoc, TB.out]; unfold jumpF; simp [HAG.out]
        rw [← HRR.out, hres]
        exact ⟨(bl_new (bl_new (bl_new (bl_new (bl_new (bl_new (bl_new B10.out GR.out.2.2 _) GR.out.2.2 _) GR.out.2.2 _) GR.out.2.2 _) GR.out.2.2 _) GR.out.2.2 _) GR.out.2.2 _), rfl⟩
set_option maxRecDepth 20000 in
set_option maxHeartbeats 8000000 in
theorem refStep_o3 (l : List Ins3) (c : Nat) (A : Option Addr) (hlc : l.length ≤ c) (hll : l.length ≤ 900) (s : St) (hn : s.stk.length ≤ 800) (hro : s.out.length ≤ 800) (A1 : Option Addr) (c1 : Nat) (A2 : Option Addr) (c2 : Nat) (w : World) (h1 : Src w A1 c1 s.stk) (h2 : Src w A2 c2 s.out) (hi : InssAt w A l) (hpc : 0 ≤ s.pc) (hpl : s.pc < (l.length : Int)) (op ag v : Int) (hx : xn l s.pc.toNat = ⟨op, ag, v⟩) (hop : op = 3) (hso : s.ok) (hr : rightI ⟨op, ag, v⟩ = true) (hs : specI op = false) (hfi : fitI op s.stk.length = true) : Calls Try.prog 13 #[.slice A l.length c, stV s A1 c1 A2 c2] w (RPost (effF l.length ⟨op, ag, v⟩ { s with pc := s.pc + 1 }) w) := by
  have HLOC := Lib.hid hso.2
  have HOP := Lib.hid hop
  clear hso hop
  obtain ⟨RR, hRR⟩ : ∃ R, effF l.length ⟨op, ag, v⟩ { s with pc := s.pc + 1 } = R := ⟨_, rfl⟩
  rw [hRR]
  have HRR := Lib.hid hRR
  clear hRR
  have d : decide (s.pc < 0) = false := decide_eq_false (by omega)
  have d2 : decide (s.pc ≥ (l.length : Int)) = false := decide_eq_false (by omega)
  have d3 : decide ((l.length : Int) ≤ s.pc) = false := d2
  have z1 := (Below.refl w.heap.size w).alloc (Nat.le_refl _) (.cells #[.int .i64 s.pc, .slice A1 s.stk.length c1, .int .u64 s.la, .int .u64 s.lb, .int .u64 s.lc, .int .u64 s.ld, .slice A2 s.out.length c2] 28)
  have z2 := z1.alloc z1.size (.cells #[.int .i64 0, .slice none 0 0, .int .u64 0, .int .u64 0, .int .u64 0, .int .u64 0, .slice none 0 0] 28)
  have X1 := Lib.hid (hp_alloc (heap_alloc_new w (.cells #[.int .i64 s.pc, .slice A1 s.stk.length c1, .int .u64 s.la, .int .u64 s.lb, .int .u64 s.lc, .int .u64 s.ld, .slice A2 s.out.length c2] 28)) (.cells #[.int .i64 0, .slice none 0 0, .int .u64 0, .int .u64 0, .int .u64 0, .int .u64 0, .slice none 0 0] 28))
  have Y1 := Lib.hid (show ((w.alloc (.cells #[.int .i64 s.pc, .slice A1 s.stk.length c1, .int .u64 s.la, .int .u64 s.lb, .int .u64 s.lc, .int .u64 s.ld, .slice A2 s.out.length c2] 28)).alloc (.cells #[.int .i64 0, .slice none 0 0, .int .u64 0, .int .u64 0, .int .u64 0, .int .u64 0, .slice none 0 0] 28)).heap[w.heap.size + 1]? = some (.cells #[.int .i64 0, .slice none 0 0, .int .u64 0, .int .u64 0, .int .u64 0, .int .u64 0, .slice none 0 0] 28 (0, 0)) from (congrArg _ (by simp)).trans (heap_alloc_new (w.alloc (.cells #[.int .i64 s.pc, .slice A1 s.stk.length c1, .int .u64 s.la, .int .u64 s.lb, .int .u64 s.lc, .int .u64 s.ld, .slice A2 s.out.length c2] 28)) (.cells #[.int .i64 0, .slice none 0 0, .int .u64 0, .int .u64 0, .int .u64 0, .int .u64 0, .slice none 0 0] 28)))
  have B1 := Lib.hid z2
  have HI := Lib.hid hi
  have G1 := Lib.hid h1
  have G2 := Lib.hid h2
  clear z1 z2 h1 h2 hi
  unfold stV stC
  go_enter Try.func13, Try.ntmps13
  go_upto_region 1 with fail
  generalize World.alloc _ _ = w2 at X1 Y1 B1 ⊢
  obtain ⟨g, hg⟩ : ∃ g, w.heap.size = g := ⟨_, rfl⟩
  obtain ⟨r, hr⟩ : ∃ r, w.heap.size + 1 = r := ⟨_, rfl⟩
  rw [hg] at X1
  rw [hr] at Y1
  rw [hr, hg]
  have gr : g ≠ r := by omega
  have gb : w.heap.size ≤ g := by omega
  have rb : w.heap.size ≤ r := by omega
  have GR := Lib.hid (And.intro gr (And.intro gb rb))
  clear hg hr gr gb rb
  have x0 : w2.cell? ⟨g, 0, none⟩ = some (.int .i64 s.pc) := hp_cell (X1.out) 0; have x1 : w2.cell? ⟨g, 1, none⟩ = some (.slice A1 s.stk.length c1) := hp_cell (X1.out) 1; have x2 : w2.cell? ⟨g, 2, none⟩ = some (.int .u64 s.la) := hp_cell (X1.out) 2; have x3 : w2.cell? ⟨g, 3, none⟩ = some (.int .u64 s.lb) := hp_cell (X1.out) 3; have x4 : w2.cell? ⟨g, 4, none⟩ = some (.int .u64 s.lc) := hp_cell (X1.out) 4; have x5 : w2.cell? ⟨g, 5, none⟩ = some (.int .u64 s.ld) := hp_cell (X1.out) 5; have x6 : w2.cell? ⟨g, 6, none⟩ = some (.slice A2 s.out.length c2) := hp_cell (X1.out) 6; have xl := hp_lt (X1.out)
  have y0 : w2.cell? ⟨r, 0, none⟩ = some (.int .i64 0) := hp_cell (Y1.out) 0; have yz0 := hp_frozen (Y1.out) 0; have y1 : w2.cell? ⟨r, 1, none⟩ = some (.slice none 0 0) := hp_cell (Y1.out) 1; have yz1 := hp_frozen (Y1.out) 1; have y2 : w2.cell? ⟨r, 2, none⟩ = some (.int .u64 0) := hp_cell (Y1.out) 2; have yz2 := hp_frozen (Y1.out) 2; have y3 : w2.cell? ⟨r, 3, none⟩ = some (.int .u64 0) := hp_cell (Y1.out) 3; have yz3 := hp_frozen (Y1.out) 3; have y4 : w2.cell? ⟨r, 4, none⟩ = some (.int .u64 0) := hp_cell (Y1.out) 4; have yz4 := hp_frozen (Y1.out) 4; have y5 : w2.cell? ⟨r, 5, none⟩ = some (.int .u64 0) := hp_cell (Y1.out) 5; have yz5 := hp_frozen (Y1.out) 5; have y6 : w2.cell? ⟨r, 6, none⟩ = some (.slice none 0 0) := hp_cell (Y1.out) 6; have yz6 := hp_frozen (Y1.out) 6; have yl := hp_lt (Y1.out)
  have ne1 := GR.out.1
  have ne2 : r ≠ g := fun e => ne1 e.symm
  obtain ⟨j, hj⟩ : ∃ j : Nat, s.pc = (j : Int) := ⟨s.pc.toNat, by omega⟩
  have hjl : j < l.length := by omega
  have hjn : s.pc.toNat = j := by omega
  rw [hjn] at hx
  have HJ := Lib.hid (And.intro hj hjl)
  rw [hj] at d d2 d3 x0
  have I2 := Lib.hid (inss_below HI.out B1.out)
  obtain ⟨ad, rfl, _⟩ := xn_at I2.out hjl
  have hI3 := xn_some I2.out hjl
  rw [hx] at hI3
  obtain ⟨hok, a0, a1, a2⟩ := hI3
  dsimp only at a0 a1 a2
  have la : (ad.add (j * 3)).block < w2.heap.size := inAt_lt (xn_some I2.out hjl)
  have la' : ad.block < w2.heap.size := by
    have e : (ad.add (j * 3)).block = ad.block := by unfold Addr.add; split <;> rfl
    omega
  have s3 : (j : Int) < (l.length : Int) := by omega
  have s4 : (0 : Int) ≤ (j : Int) := by omega
  have HOK := Lib.hid hok
  have HC := Lib.hid (fun w => refRight14_any ⟨op, ag, v⟩ hok w)
  unfold inV at HC
  have HP := Lib.hid (fun w => refPlain_any op hok.1.1 w)
  have HR := Lib.hid hr
  clear hok hr hj hjl hjn hx
  have HS := Lib.hid hs
  have HN := Lib.hid hn
  have HFI := Lib.hid hfi
  clear hs hn hfi
  go_upto_region 3 with (first | (go_at_call 33; refine (HC.out _).mono ?_; rintro e w4 ⟨rfl, hb4⟩; rw [HR.out]; have B4 := Lib.hid (B1.out.trans (hb4.mono B1.out.size)); have X4 := Lib.hid (hp_below X1.out hb4); have Y4 := Lib.hid (hp_below Y1.out hb4); have I4 := Lib.hid (inss_below I2.out hb4); have la4 := Nat.lt_of_lt_of_le la' hb4.size; have a0' := (World.cell?_of_block (hb4.block _ la)).trans a0; have a1' := (World.cell?_of_block (a := ⟨(ad.add (j * 3)).block, (ad.add (j * 3)).off + 1, none⟩) (hb4.block _ la)).trans a1; have a2' := (World.cell?_of_block (a := ⟨(ad.add (j * 3)).block, (ad.add (j * 3)).off + 2, none⟩) (hb4.block _ la)).trans a2; clear a0 a1 a2 la hb4; have u0 : w4.cell? ⟨g, 0, none⟩ = some (.int .i64 s.pc) := hp_cell (X4.out) 0; have u1 : w4.cell? ⟨g, 1, none⟩ = some (.slice A1 s.stk.length c1) := hp_cell (X4.out) 1; have u2 : w4.cell? ⟨g, 2, none⟩ = some (.int .u64 s.la) := hp_cell (X4.out) 2; have u3 : w4.cell? ⟨g, 3, none⟩ = some (.int .u64 s.lb) := hp_cell (X4.out) 3; have u4 : w4.cell? ⟨g, 4, none⟩ = some (.int .u64 s.lc) := hp_cell (X4.out) 4; have u5 : w4.cell? ⟨g, 5, none⟩ = some (.int .u64 s.ld) := hp_cell (X4.out) 5; have u6 : w4.cell? ⟨g, 6, none⟩ = some (.slice A2 s.out.length c2) := hp_cell (X4.out) 6; have ul := hp_lt (X4.out); rw [HJ.out.1] at u0; have v0 : w4.cell? ⟨r, 0, none⟩ = some (.int .i64 0) := hp_cell (Y4.out) 0; have vz0 := hp_frozen (Y4.out) 0; have v1 : w4.cell? ⟨r, 1, none⟩ = some (.slice none 0 0) := hp_cell (Y4.out) 1; have vz1 := hp_frozen (Y4.out) 1; have v2 : w4.cell? ⟨r, 2, none⟩ = some (.int .u64 0) := hp_cell (Y4.out) 2; have vz2 := hp_frozen (Y4.out) 2; have v3 : w4.cell? ⟨r, 3, none⟩ = some (.int .u64 0) := hp_cell (Y4.out) 3; have vz3 := hp_frozen (Y4.out) 3; have v4 : w4.cell? ⟨r, 4, none⟩ = some (.int .u64 0) := hp_cell (Y4.out) 4; have vz4 := hp_frozen (Y4.out) 4; have v5 : w4.cell? ⟨r, 5, none⟩ = some (.int .u64 0) := hp_cell (Y4.out) 5; have vz5 := hp_frozen (Y4.out) 5; have v6 : w4.cell? ⟨r, 6, none⟩ = some (.slice none 0 0) := hp_cell (Y4.out) 6; have vz6 := hp_frozen (Y4.out) 6; have vl := hp_lt (Y4.out)) | (go_at_call 34; refine (HP.out _).mono ?_; rintro e w' ⟨rfl, rfl⟩; rw [HS.out]))
  have laj : (ad.add (j * 3)).block < w4.heap.size := inAt_lt (xn_some I4.out HJ.out.2)
  go_upto_region 4 with fail
  have z6 := (Below.refl w4.heap.size w4).alloc (Nat.le_refl _) (.cells #[.int .u8 op, .int .i64 ag, .int .u64 v] 42)
  have X6 := Lib.hid (heap_alloc_new w4 (.cells #[.int .u8 op, .int .i64 ag, .int .u64 v] 42))
  have X5 := Lib.hid (hp_below X4.out z6)
  have Y5 := Lib.hid (hp_below Y4.out z6)
  have B5 := Lib.hid (B4.out.alloc B4.out.size (.cells #[.int .u8 op, .int .i64 ag, .int .u64 v] 42))
  have xne := Lib.hid (show g ≠ w4.heap.size ∧ r ≠ w4.heap.size from ⟨fun e => Nat.lt_irrefl _ (e ▸ ul), fun e => Nat.lt_irrefl _ (e ▸ vl)⟩)
  have S5 := Lib.hid (show w.heap.size ≤ w4.heap.size from B4.out.size)
  clear z6 X4 Y4 B4 I4 la4 laj a0' a1' a2' u0  v0 vz0 u1  v1 vz1 u2  v2 vz2 u3  v3 vz3 u4  v4 vz4 u5  v5 vz5 u6  v6 vz6 ul vl x0 y0 yz0 x1 y1 yz1 x2 y2 yz2 x3 y3 yz3 x4 y4 yz4 x5 y5 yz5 x6 y6 yz6 xl yl
  generalize w4.alloc _ = w5 at X6 X5 Y5 B5 ⊢
  obtain ⟨xi, hxi⟩ : ∃ x, w4.heap.size = x := ⟨_, rfl⟩
  rw [hxi] at X6 xne S5 ⊢
  clear hxi
  have x0 : w5.cell? ⟨g, 0, none⟩ = some (.int .i64 s.pc) := hp_cell (X5.out) 0; have x1 : w5.cell? ⟨g, 1, none⟩ = some (.slice A1 s.stk.length c1) := hp_cell (X5.out) 1; have x2 : w5.cell? ⟨g, 2, none⟩ = some (.int .u64 s.la) := hp_cell (X5.out) 2; have x3 : w5.cell? ⟨g, 3, none⟩ = some (.int .u64 s.lb) := hp_cell (X5.out) 3; have x4 : w5.cell? ⟨g, 4, none⟩ = some (.int .u64 s.lc) := hp_cell (X5.out) 4; have x5 : w5.cell? ⟨g, 5, none⟩ = some (.int .u64 s.ld) := hp_cell (X5.out) 5; have x6 : w5.cell? ⟨g, 6, none⟩ = some (.slice A2 s.out.length c2) := hp_cell (X5.out) 6; have xl := hp_lt (X5.out)
  rw [HJ.out.1] at x0
  have y0 : w5.cell? ⟨r, 0, none⟩ = some (.int .i64 0) := hp_cell (Y5.out) 0; have yz0 := hp_frozen (Y5.out) 0; have y1 : w5.cell? ⟨r, 1, none⟩ = some (.slice none 0 0) := hp_cell (Y5.out) 1; have yz1 := hp_frozen (Y5.out) 1; have y2 : w5.cell? ⟨r, 2, none⟩ = some (.int .u64 0) := hp_cell (Y5.out) 2; have yz2 := hp_frozen (Y5.out) 2; have y3 : w5.cell? ⟨r, 3, none⟩ = some (.int .u64 0) := hp_cell (Y5.out) 3; have yz3 := hp_frozen (Y5.out) 3; have y4 : w5.cell? ⟨r, 4, none⟩ = some (.int .u64 0) := hp_cell (Y5.out) 4; have yz4 := hp_frozen (Y5.out) 4; have y5 : w5.cell? ⟨r, 5, none⟩ = some (.int .u64 0) := hp_cell (Y5.out) 5; have yz5 := hp_frozen (Y5.out) 5; have y6 : w5.cell? ⟨r, 6, none⟩ = some (.slice none 0 0) := hp_cell (Y5.out) 6; have yz6 := hp_frozen (Y5.out) 6; have yl := hp_lt (Y5.out)
  have i0 : w5.cell? ⟨xi, 0, none⟩ = some (.int .u8 op) := hp_cell X6.out 0
  have il := hp_lt X6.out
  have HFT := Lib.hid (show ∀ w : World, Calls Try.prog 35 #[.int .u8 op, .agg #[.int .i64 (j : Int), .slice A1 s.stk.length c1, .int .u64 s.la, .int .u64 s.lb, .int .u64 s.lc, .int .u64 s.ld, .slice A2 s.out.length c2]] w fun e w' => e = .returned (.int .i64 0) ∧ Below w.heap.size w w' from fun w => by have := refFits_any op HOK.out.1.1 s A1 c1 A2 c2 (by have := HN.out; omega) w; unfold stV stC at this; rw [HFI.out, HJ.out.1] at this; exact this)
  have HCP := Lib.hid (show ∀ w' : World, Below w.heap.size w w' → Calls Try.prog 36 #[.agg #[.int .i64 (j : Int), .slice A1 s.stk.length c1, .int .u64 s.la, .int .u64 s.lb, .int .u64 s.lc, .int .u64 s.ld, .slice A2 s.out.length c2]] w' (fun e w2 => ∃ D1 d1 D2 d2, e = .returned (.agg #[.int .i64 (j : Int), .slice D1 s.stk.length d1, .int .u64 s.la, .int .u64 s.lb, .int .u64 s.lc, .int .u64 s.ld, .slice D2 s.out.length d2]) ∧ RowAt w2 w'.heap.size D1 d1 s.stk ∧ RowAt w2 w'.heap.size D2 d2 s.out ∧ (∀ k, blk D1 = some k → blk D2 ≠ some k) ∧ Below w'.heap.size w' w2) from fun w' hb => by have := refCopied_any s A1 c1 A2 c2 w' (G1.out.below hb) (G2.out.below hb); unfold CopyPost stV stC at this; rw [HJ.out.1] at this; exact this)
  go_upto_region 8 with (first | (go_at_call 35; refine (HFT.out _).mono ?_; rintro e w7 ⟨rfl, hb7⟩; have X7 := Lib.hid (hp_below X5.out hb7); have Y7 := Lib.hid (hp_below Y5.out hb7); have I7 := Lib.hid (hp_below X6.out hb7); have B7 := Lib.hid (B5.out.trans (hb7.mono B5.out.size)); clear hb7; clear x0 y0 yz0 x1 y1 yz1 x2 y2 yz2 x3 y3 yz3 x4 y4 yz4 x5 y5 yz5 x6 y6 yz6 xl yl i0 il; have x0 : w7.cell? ⟨g, 0, none⟩ = some (.int .i64 s.pc) := hp_cell (X7.out) 0; have xz0 := hp_frozen (X7.out) 0; have x1 : w7.cell? ⟨g, 1, none⟩ = some (.slice A1 s.stk.length c1) := hp_cell (X7.out) 1; have xz1 := hp_frozen (X7.out) 1; have x2 : w7.cell? ⟨g, 2, none⟩ = some (.int .u64 s.la) := hp_cell (X7.out) 2; have xz2 := hp_frozen (X7.out) 2; have x3 : w7.cell? ⟨g, 3, none⟩ = some (.int .u64 s.lb) := hp_cell (X7.out) 3; have xz3 := hp_frozen (X7.out) 3; have x4 : w7.cell? ⟨g, 4, none⟩ = some (.int .u64 s.lc) := hp_cell (X7.out) 4; have xz4 := hp_frozen (X7.out) 4; have x5 : w7.cell? ⟨g, 5, none⟩ = some (.int .u64 s.ld) := hp_cell (X7.out) 5; have xz5 := hp_frozen (X7.out) 5; have x6 : w7.cell? ⟨g, 6, none⟩ = some (.slice A2 s.out.length c2) := hp_cell (X7.out) 6; have xz6 := hp_frozen (X7.out) 6; have xl := hp_lt (X7.out); rw [HJ.out.1] at x0; have yl := hp_lt Y7.out) | (go_at_call 36; refine (HCP.out _ B7.out).mono ?_; rintro e w8 ⟨D1, d1, D2, d2, rfl, hr1, hr2, hd, hb8⟩; have B8 := Lib.hid (B7.out.trans (hb8.mono B7.out.size)); have X8 := Lib.hid (hp_below X7.out hb8); have Y8 := Lib.hid (hp_below Y7.out hb8); have I8 := Lib.hid (hp_below I7.out hb8); have P8 := Lib.hid (row_base hr1 B7.out.size); have Q8 := Lib.hid (row_base hr2 B7.out.size); have DD := Lib.hid hd; clear hr1 hr2 hd hb8; clear x0 xz0 x1 xz1 x2 xz2 x3 xz3 x4 xz4 x5 xz5 x6 xz6 xl yl; have x0 : w8.cell? ⟨g, 0, none⟩ = some (.int .i64 s.pc) := hp_cell (X8.out) 0; have xz0 := hp_frozen (X8.out) 0; have x1 : w8.cell? ⟨g, 1, none⟩ = some (.slice A1 s.stk.length c1) := hp_cell (X8.out) 1; have xz1 := hp_frozen (X8.out) 1; have x2 : w8.cell? ⟨g, 2, none⟩ = some (.int .u64 s.la) := hp_cell (X8.out) 2; have xz2 := hp_frozen (X8.out) 2; have x3 : w8.cell? ⟨g, 3, none⟩ = some (.int .u64 s.lb) := hp_cell (X8.out) 3; have xz3 := hp_frozen (X8.out) 3; have x4 : w8.cell? ⟨g, 4, none⟩ = some (.int .u64 s.lc) := hp_cell (X8.out) 4; have xz4 := hp_frozen (X8.out) 4; have x5 : w8.cell? ⟨g, 5, none⟩ = some (.int .u64 s.ld) := hp_cell (X8.out) 5; have xz5 := hp_frozen (X8.out) 5; have x6 : w8.cell? ⟨g, 6, none⟩ = some (.slice A2 s.out.length c2) := hp_cell (X8.out) 6; have xz6 := hp_frozen (X8.out) 6; have xl := hp_lt (X8.out); rw [HJ.out.1] at x0))
  clear x0 xz0 x1 xz1 x2 xz2 x3 xz3 x4 xz4 x5 xz5 x6 xz6 xl
  have X8 : Hid (w8.heap[g]? = some (.cells #[.int .i64 (j : Int), .slice A1 s.stk.length c1, .int .u64 s.la, .int .u64 s.lb, .int .u64 s.lc, .int .u64 s.ld, .slice A2 s.out.length c2] 28 (0, 0))) := Lib.hid (by rw [← HJ.out.1]; exact X8.out)
  have k0 := hp_put (cs' := #[.int .i64 (j : Int), .slice A1 s.stk.length c1, .int .u64 s.la, .int .u64 s.lb, .int .u64 s.lc, .int .u64 s.ld, .slice A2 s.out.length c2]) X8.out 0 (.int .i64 (j : Int)) (by simp)
  have k1 := hp_put (cs' := #[.int .i64 (j : Int), .slice D1 s.stk.length d1, .int .u64 s.la, .int .u64 s.lb, .int .u64 s.lc, .int .u64 s.ld, .slice A2 s.out.length c2]) k0 1 (.slice D1 s.stk.length d1) (by simp)
  have k2 := hp_put (cs' := #[.int .i64 (j : Int), .slice D1 s.stk.length d1, .int .u64 s.la, .int .u64 s.lb, .int .u64 s.lc, .int .u64 s.ld, .slice A2 s.out.length c2]) k1 2 (.int .u64 s.la) (by simp)
  have k3 := hp_put (cs' := #[.int .i64 (j : Int), .slice D1 s.stk.length d1, .int .u64 s.la, .int .u64 s.lb, .int .u64 s.lc, .int .u64 s.ld, .slice A2 s.out.length c2]) k2 3 (.int .u64 s.lb) (by simp)
  have k4 := hp_put (cs' := #[.int .i64 (j : Int), .slice D1 s.stk.length d1, .int .u64 s.la, .int .u64 s.lb, .int .u64 s.lc, .int .u64 s.ld, .slice A2 s.out.length c2]) k3 4 (.int .u64 s.lc) (by simp)
  have k5 := hp_put (cs' := #[.int .i64 (j : Int), .slice D1 s.stk.length d1, .int .u64 s.la, .int .u64 s.lb, .int .u64 s.lc, .int .u64 s.ld, .slice A2 s.out.length c2]) k4 5 (.int .u64 s.ld) (by simp)
  have k6 := hp_put (cs' := #[.int .i64 (j : Int), .slice D1 s.stk.length d1, .int .u64 s.la, .int .u64 s.lb, .int .u64 s.lc, .int .u64 s.ld, .slice D2 s.out.length d2]) k5 6 (.slice D2 s.out.length d2) (by simp)
  have hF : Fr (fun k => k ≠ g) w8 ((((((((w8).setCell ⟨g, 0, none⟩ (.int .i64 (j : Int))).setCell ⟨g, 1, none⟩ (.slice D1 s.stk.length d1)).setCell ⟨g, 2, none⟩ (.int .u64 s.la)).setCell ⟨g, 3, none⟩ (.int .u64 s.lb)).setCell ⟨g, 4, none⟩ (.int .u64 s.lc)).setCell ⟨g, 5, none⟩ (.int .u64 s.ld)).setCell ⟨g, 6, none⟩ (.slice D2 s.out.length d2)) := (((((((Fr.refl (fun k => k ≠ g) w8).trans (Fr.set _ (fun e => e rfl) _ _)).trans (Fr.set _ (fun e => e rfl) _ _)).trans (Fr.set _ (fun e => e rfl) _ _)).trans (Fr.set _ (fun e => e rfl) _ _)).trans (Fr.set _ (fun e => e rfl) _ _)).trans (Fr.set _ (fun e => e rfl) _ _)).trans (Fr.set _ (fun e => e rfl) _ _)
  have X9 := Lib.hid k6
  have Y9 := Lib.hid (hF.hp Y8.out ne2)
  have I9 := Lib.hid (hF.hp I8.out (fun e => xne.out.1 e.symm))
  have P9 := Lib.hid (row_fr P8.out hF (row_nx3 P8.out X8.out (by decide)))
  have Q9 := Lib.hid (row_fr Q8.out hF (row_nx3 Q8.out X8.out (by decide)))
  have B9 := Lib.hid (B8.out.trans (hF.toBelow (fun k hk => by have := GR.out.2.1; omega)))
  clear k0 k1 k2 k3 k4 k5 k6 hF X8 Y8 I8 P8 Q8 B8
  generalize (((((((w8).setCell ⟨g, 0, none⟩ (.int .i64 (j : Int))).setCell ⟨g, 1, none⟩ (.slice D1 s.stk.length d1)).setCell ⟨g, 2, none⟩ (.int .u64 s.la)).setCell ⟨g, 3, none⟩ (.int .u64 s.lb)).setCell ⟨g, 4, none⟩ (.int .u64 s.lc)).setCell ⟨g, 5, none⟩ (.int .u64 s.ld)).setCell ⟨g, 6, none⟩ (.slice D2 s.out.length d2) = w9 at X9 Y9 I9 P9 Q9 B9 ⊢
  have x0 : w9.cell? ⟨g, 0, none⟩ = some (.int .i64 (j : Int)) := hp_cell (X9.out) 0; have xz0 := hp_frozen (X9.out) 0; have x1 : w9.cell? ⟨g, 1, none⟩ = some (.slice D1 s.stk.length d1) := hp_cell (X9.out) 1; have xz1 := hp_frozen (X9.out) 1; have x2 : w9.cell? ⟨g, 2, none⟩ = some (.int .u64 s.la) := hp_cell (X9.out) 2; have xz2 := hp_frozen (X9.out) 2; have x3 : w9.cell? ⟨g, 3, none⟩ = some (.int .u64 s.lb) := hp_cell (X9.out) 3; have xz3 := hp_frozen (X9.out) 3; have x4 : w9.cell? ⟨g, 4, none⟩ = some (.int .u64 s.lc) := hp_cell (X9.out) 4; have xz4 := hp_frozen (X9.out) 4; have x5 : w9.cell? ⟨g, 5, none⟩ = some (.int .u64 s.ld) := hp_cell (X9.out) 5; have xz5 := hp_frozen (X9.out) 5; have x6 : w9.cell? ⟨g, 6, none⟩ = some (.slice D2 s.out.length d2) := hp_cell (X9.out) 6; have xz6 := hp_frozen (X9.out) 6; have xl := hp_lt (X9.out)
  have i0 : w9.cell? ⟨xi, 0, none⟩ = some (.int .u8 op) := hp_cell (I9.out) 0; have i1 : w9.cell? ⟨xi, 1, none⟩ = some (.int .i64 ag) := hp_cell (I9.out) 1; have i2 : w9.cell? ⟨xi, 2, none⟩ = some (.int .u64 v) := hp_cell (I9.out) 2; have il := hp_lt (I9.out)
  have yl := hp_lt Y9.out
  have xn1 : g ≠ xi := xne.out.1
  have xn2 : xi ≠ g := fun e => xn1 e.symm
  have hop := HOP.out
  subst hop
  · rw [show s.stk.length = s.stk.length from rfl] at x1
    obtain ⟨m, a, hst⟩ := snoc_of (l := s.stk) (by have := fit_pops HFI.out; rw [show popsI 3 = 1 from by decide] at this; omega)
    obtain ⟨N, hN⟩ : ∃ N, m.length = N := ⟨_, rfl⟩
    have hl : s.stk.length = N + 1 := by rw [hst]; simp [hN]
    have hNl : N ≤ 800 := by have := HN.out; omega
    have kc := (row_cap P9.out).1
    rw [hl] at x1 X9 kc
    obtain ⟨gd, eD, xa, _, ld⟩ := row_head P9.out (i := N) (by omega)
    subst eD
    have hva : hvAt s.stk N = a := by rw [hst]; unfold hvAt; simp [← hN]
    rw [hva] at xa
    have hwa : W64 a := P9.out.2 a (by rw [hst]; simp)
    have kw : wrap64 (((N + 1 : Nat) : Int) - 1) = (N : Int) := by unfold wrap64; omega
    have kw' : wrap64 ((N : Int) + 1 - 1) = (N : Int) := by unfold wrap64; omega
    have k1 : N ≤ N + 1 := by omega
    have kj : wrap64 ((j : Int) + 1) = (j : Int) + 1 := by have := HJ.out.2; unfold wrap64; omega
    have HEF := Lib.hid (show ∀ w : World, Calls Try.prog 37 #[.int .u8 3] w fun e w' => e = .returned (.tuple #[.int .i64 1, .int .i64 0]) ∧ w = w' from fun w => by have := refEffect_any 3 (by decide) w; rw [show popsI 3 = 1 from by decide, show pushI 3 = 0 from by decide] at this; exact this)
    go_upto_region 12 with (go_at_call 37; refine (HEF.out _).mono ?_; rintro e w' ⟨rfl, rfl⟩)
    have KC := Lib.hid (And.intro hst (And.intro hN (And.intro hl (And.intro hNl (And.intro kc hwa))))); clear hst hN hl hNl kc hwa hva kw kw' k1 s3 s4 d3 hpc hpl hlc hll hro
    go_upto_block 0 with fail
    have s0 := hp_put (cs' := #[.int .i64 ((j : Int) + 1), .slice (some ⟨gd, 0, none⟩) (N + 1) d1, .int .u64 s.la, .int .u64 s.lb, .int .u64 s.lc, .int .u64 s.ld, .slice D2 s.out.length d2]) X9.out 0 (.int .i64 ((j : Int) + 1)) (by simp)
    have hF : Fr (fun k => k ≠ g) w9 ((w9).setCell ⟨g, 0, none⟩ (.int .i64 ((j : Int) + 1))) := (Fr.refl (fun k => k ≠ g) w9).trans (Fr.set _ (fun e => e rfl) _ _)
    have X10 := Lib.hid s0
    have Y10 := Lib.hid (hF.hp Y9.out ne2)
    have I10 := Lib.hid (hF.hp I9.out xn2)
    have P10 := Lib.hid (row_fr P9.out hF (row_nx3 P9.out X9.out (by decide)))
    have Q10 := Lib.hid (row_fr Q9.out hF (row_nx3 Q9.out X9.out (by decide)))
    have B10 := Lib.hid (B9.out.trans (hF.toBelow (fun k hk => by have := GR.out.2.1; omega)))
    clear s0 hF X9 Y9 I9 P9 Q9 B9
    generalize (w9).setCell ⟨g, 0, none⟩ (.int .i64 ((j : Int) + 1)) = w10 at X10 Y10 I10 P10 Q10 B10 ⊢
    clear x0 xz0 x1 xz1 x2 xz2 x3 xz3 x4 xz4 x5 xz5 x6 xz6 xl i0 i1 i2 il yl
    have hag := right_parts HR.out
    dsimp only at hag
    rw [show limI 3 = 4 from by decide] at hag
    rcases (show ag = 0 ∨ ag = 1 ∨ ag = 2 ∨ ag = 3 by omega) with rfl | rfl | rfl | rfl
    · clear hag
      have x0 : w10.cell? ⟨g, 0, none⟩ = some (.int .i64 ((j : Int) + 1)) := hp_cell (X10.out) 0; have xz0 := hp_frozen (X10.out) 0; have x1 : w10.cell? ⟨g, 1, none⟩ = some (.slice (some ⟨gd, 0, none⟩) (N + 1) d1) := hp_cell (X10.out) 1; have xz1 := hp_frozen (X10.out) 1; have x2 : w10.cell? ⟨g, 2, none⟩ = some (.int .u64 s.la) := hp_cell (X10.out) 2; have xz2 := hp_frozen (X10.out) 2; have x3 : w10.cell? ⟨g, 3, none⟩ = some (.int .u64 s.lb) := hp_cell (X10.out) 3; have xz3 := hp_frozen (X10.out) 3; have x4 : w10.cell? ⟨g, 4, none⟩ = some (.int .u64 s.lc) := hp_cell (X10.out) 4; have xz4 := hp_frozen (X10.out) 4; have x5 : w10.cell? ⟨g, 5, none⟩ = some (.int .u64 s.ld) := hp_cell (X10.out) 5; have xz5 := hp_frozen (X10.out) 5; have x6 : w10.cell? ⟨g, 6, none⟩ = some (.slice D2 s.out.length d2) := hp_cell (X10.out) 6; have xz6 := hp_frozen (X10.out) 6; have xl := hp_lt (X10.out)
      have i0 : w10.cell? ⟨xi, 0, none⟩ = some (.int .u8 3) := hp_cell (I10.out) 0; have i1 : w10.cell? ⟨xi, 1, none⟩ = some (.int .i64 0) := hp_cell (I10.out) 1; have i2 : w10.cell? ⟨xi, 2, none⟩ = some (.int .u64 v) := hp_cell (I10.out) 2; have il := hp_lt (I10.out)
      have yl := hp_lt Y10.out
      have xa10 := row_at2 P10.out KC.out.1 KC.out.2.1
      have la10 := World.block_lt_of_cell? w10 _ xa10
      go_upto_region 20 with fail
      go_region
      have s0 := hp_put (cs' := #[.int .i64 ((j : Int) + 1), .slice (some ⟨gd, 0, none⟩) (N + 1) d1, .int .u64 a, .int .u64 s.lb, .int .u64 s.lc, .int .u64 s.ld, .slice D2 s.out.length d2]) X10.out 2 (.int .u64 a) (by simp)
      have s1 := hp_put (cs' := #[.int .i64 ((j : Int) + 1), .slice (some ⟨gd, 0, none⟩) N d1, .int .u64 a, .int .u64 s.lb, .int .u64 s.lc, .int .u64 s.ld, .slice D2 s.out.length d2]) s0 1 (.slice (some ⟨gd, 0, none⟩) N d1) (by simp)
      have hF : Fr (fun k => k ≠ g) w10 (((w10).setCell ⟨g, 2, none⟩ (.int .u64 a)).setCell ⟨g, 1, none⟩ (.slice (some ⟨gd, 0, none⟩) N d1)).drew := (((Fr.refl (fun k => k ≠ g) w10).trans (Fr.set _ (fun e => e rfl) _ _)).trans (Fr.set _ (fun e => e rfl) _ _)).trans (Fr.drew1 _ _)
      have X14 := Lib.hid (hp_dr s1)
      have Y14 := Lib.hid (hF.hp Y10.out ne2)
      have I14 := Lib.hid (hF.hp I10.out xn2)
      have P14 := Lib.hid (row_fr P10.out hF (row_nx3 P10.out X10.out (by decide)))
      have Q14 := Lib.hid (row_fr Q10.out hF (row_nx3 Q10.out X10.out (by decide)))
      have B14 := Lib.hid (B10.out.trans (hF.toBelow (fun k hk => by have := GR.out.2.1; omega)))
      clear s0 s1 hF X10 Y10 I10 P10 Q10 B10
      generalize (((w10).setCell ⟨g, 2, none⟩ (.int .u64 a)).setCell ⟨g, 1, none⟩ (.slice (some ⟨gd, 0, none⟩) N d1)).drew = w14 at X14 Y14 I14 P14 Q14 B14 ⊢
      clear x0 xz0 x1 xz1 x2 xz2 x3 xz3 x4 xz4 x5 xz5 x6 xz6 xl i0 i1 i2 il yl xa10 la10
      have P14 := Lib.hid (row_pop (by rw [← KC.out.1]; exact P14.out))
      go_upto_region 40 with fail
      have x0 : w14.cell? ⟨g, 0, none⟩ = some (.int .i64 ((j : Int) + 1)) := hp_cell (X14.out) 0; have x1 : w14.cell? ⟨g, 1, none⟩ = some (.slice (some ⟨gd, 0, none⟩) N d1) := hp_cell (X14.out) 1; have x2 : w14.cell? ⟨g, 2, none⟩ = some (.int .u64 a) := hp_cell (X14.out) 2; have x3 : w14.cell? ⟨g, 3, none⟩ = some (.int .u64 s.lb) := hp_cell (X14.out) 3; have x4 : w14.cell? ⟨g, 4, none⟩ = some (.int .u64 s.lc) := hp_cell (X14.out) 4; have x5 : w14.cell? ⟨g, 5, none⟩ = some (.int .u64 s.ld) := hp_cell (X14.out) 5; have x6 : w14.cell? ⟨g, 6, none⟩ = some (.slice D2 s.out.length d2) := hp_cell (X14.out) 6; have xl := hp_lt (X14.out)
      have y0 : w14.cell? ⟨r, 0, none⟩ = some (.int .i64 0) := hp_cell (Y14.out) 0; have yz0 := hp_frozen (Y14.out) 0; have y1 : w14.cell? ⟨r, 1, none⟩ = some (.slice none 0 0) := hp_cell (Y14.out) 1; have yz1 := hp_frozen (Y14.out) 1; have y2 : w14.cell? ⟨r, 2, none⟩ = some (.int .u64 0) := hp_cell (Y14.out) 2; have yz2 := hp_frozen (Y14.out) 2; have y3 : w14.cell? ⟨r, 3, none⟩ = some (.int .u64 0) := hp_cell (Y14.out) 3; have yz3 := hp_frozen (Y14.out) 3; have y4 : w14.cell? ⟨r, 4, none⟩ = some (.int .u64 0) := hp_cell (Y14.out) 4; have yz4 := hp_frozen (Y14.out) 4; have y5 : w14.cell? ⟨r, 5, none⟩ = some (.int .u64 0) := hp_cell (Y14.out) 5; have yz5 := hp_frozen (Y14.out) 5; have y6 : w14.cell? ⟨r, 6, none⟩ = some (.slice none 0 0) := hp_cell (Y14.out) 6; have yz6 := hp_frozen (Y14.out) 6; have yl := hp_lt (Y14.out)
      repeat (first | go_skip | go_guarded | go_step | go_upon)
      refine bodyPost_ret (by simp [results, Try.results13, go_sem, y0, y1, y2, y3, y4, y5, y6, ne1, ne2]; try rfl) rfl ?_
      have M1 := row_nx3 P14.out Y14.out (by decide)
      have M2 := row_nx3 Q14.out Y14.out (by decide)
      have hres : effF l.length ⟨3, 0, v⟩ { s with pc := s.pc + 1 } = .ok { s with pc := s.pc + 1, stk := m, la := a } := by unfold effF locSet; simp [KC.out.1, topI]
      have hv : #[.int .i64 ((j : Int) + 1), .slice (some ⟨gd, 0, none⟩) N d1, .int .u64 a, .int .u64 s.lb, .int .u64 s.lc, .int .u64 s.ld, .slice D2 s.out.length d2] = stC { s with pc := s.pc + 1, stk := m, la := a } (some ⟨gd, 0, none⟩) d1 D2 d2 := by unfold stC; rw [HJ.out.1, KC.out.2.1]
      rw [← HRR.out, hres, hv]
      exact ⟨(bl_new (bl_new (bl_new (bl_new (bl_new (bl_new (bl_new B14.out GR.out.2.2 _) GR.out.2.2 _) GR.out.2.2 _) GR.out.2.2 _) GR.out.2.2 _) GR.out.2.2 _) GR.out.2.2 _), (some ⟨gd, 0, none⟩), d1, D2, d2, rfl, (row_ne (row_ne (row_ne (row_ne (row_ne (row_ne (row_ne P14.out M1 _ _) M1 _ _) M1 _ _) M1 _ _) M1 _ _) M1 _ _) M1 _ _), (row_ne (row_ne (row_ne (row_ne (row_ne (row_ne (row_ne Q14.out M2 _ _) M2 _ _) M2 _ _) M2 _ _) M2 _ _) M2 _ _) M2 _ _)⟩
    · clear hag
      have x0 : w10.cell? ⟨g, 0, none⟩ = some (.int .i64 ((j : Int) + 1)) := hp_cell (X10.out) 0; have xz0 := hp_frozen (X10.out) 0; have x1 : w10.cell? ⟨g, 1, none⟩ = some (.slice (some ⟨gd, 0, none⟩) (N + 1) d1) := hp_cell (X10.out) 1; have xz1 := hp_frozen (X10.out) 1; have x2 : w10.cell? ⟨g, 2, none⟩ = some (.int .u64 s.la) := hp_cell (X10.out) 2; have xz2 := hp_frozen (X10.out) 2; have x3 : w10.cell? ⟨g, 3, none⟩ = some (.int .u64 s.lb) := hp_cell (X10.out) 3; have xz3 := hp_frozen (X10.out) 3; have x4 : w10.cell? ⟨g, 4, none⟩ = some (.int .u64 s.lc) := hp_cell (X10.out) 4; have xz4 := hp_frozen (X10.out) 4; have x5 : w10.cell? ⟨g, 5, none⟩ = some (.int .u64 s.ld) := hp_cell (X10.out) 5; have xz5 := hp_frozen (X10.out) 5; have x6 : w10.cell? ⟨g, 6, none⟩ = some (.slice D2 s.out.length d2) := hp_cell (X10.out) 6; have xz6 := hp_frozen (X10.out) 6; have xl := hp_lt (X10.out)
      have i0 : w10.cell? ⟨xi, 0, none⟩ = some (.int .u8 3) := hp_cell (I10.out) 0; have i1 : w10.cell? ⟨xi, 1, none⟩ = some (.int .i64 1) := hp_cell (I10.out) 1; have i2 : w10.cell? ⟨xi, 2, none⟩ = some (.int .u64 v) := hp_cell (I10.out) 2; have il := hp_lt (I10.out)
      have yl := hp_lt Y10.out
      have xa10 := row_at2 P10.out KC.out.1 KC.out.2.1
      have la10 := World.block_lt_of_cell? w10 _ xa10
      go_upto_region 20 with fail
      go_region
      have s0 := hp_put (cs' := #[.int .i64 ((j : Int) + 1), .slice (some ⟨gd, 0, none⟩) (N + 1) d1, .int .u64 s.la, .int .u64 a, .int .u64 s.lc, .int .u64 s.ld, .slice D2 s.out.length d2]) X10.out 3 (.int .u64 a) (by simp)
      have s1 := hp_put (cs' := #[.int .i64 ((j : Int) + 1), .slice (some ⟨gd, 0, none⟩) N d1, .int .u64 s.la, .int .u64 a, .int .u64 s.lc, .int .u64 s.ld, .slice D2 s.out.length d2]) s0 1 (.slice (some ⟨gd, 0, none⟩) N d1) (by simp)
      have hF : Fr (fun k => k ≠ g) w10 (((w10).setCell ⟨g, 3, none⟩ (.int .u64 a)).setCell ⟨g, 1, none⟩ (.slice (some ⟨gd, 0, none⟩) N d1)).drew := (((Fr.refl (fun k => k ≠ g) w10).trans (Fr.set _ (fun e => e rfl) _ _)).trans (Fr.set _ (fun e => e rfl) _ _)).trans (Fr.drew1 _ _)
      have X14 := Lib.hid (hp_dr s1)
      have Y14 := Lib.hid (hF.hp Y10.out ne2)
      have I14 := Lib.hid (hF.hp I10.out xn2)
      have P14 := Lib.hid (row_fr P10.out hF (row_nx3 P10.out X10.out (by decide)))
      have Q14 := Lib.hid (row_fr Q10.out hF (row_nx3 Q10.out X10.out (by decide)))
      have B14 := Lib.hid (B10.out.trans (hF.toBelow (fun k hk => by have := GR.out.2.1; omega)))
      clear s0 s1 hF X10 Y10 I10 P10 Q10 B10
      generalize (((w10).setCell ⟨g, 3, none⟩ (.int .u64 a)).setCell ⟨g, 1, none⟩ (.slice (some ⟨gd, 0, none⟩) N d1)).drew = w14 at X14 Y14 I14 P14 Q14 B14 ⊢
      clear x0 xz0 x1 xz1 x2 xz2 x3 xz3 x4 xz4 x5 xz5 x6 xz6 xl i0 i1 i2 il yl xa10 la10
      have P14 := Lib.hid (row_pop (by rw [← KC.out.1]; exact P14.out))
      go_upto_region 40 with fail
      have x0 : w14.cell? ⟨g, 0, none⟩ = some (.int .i64 ((j : Int) + 1)) := hp_cell (X14.out) 0; have x1 : w14.cell? ⟨g, 1, none⟩ = some (.slice (some ⟨gd, 0, none⟩) N d1) := hp_cell (X14.out) 1; have x2 : w14.cell? ⟨g, 2, none⟩ = some (.int .u64 s.la) := hp_cell (X14.out) 2; have x3 : w14.cell? ⟨g, 3, none⟩ = some (.int .u64 a) := hp_cell (X14.out) 3; have x4 : w14.cell? ⟨g, 4, none⟩ = some (.int .u64 s.lc) := hp_cell (X14.out) 4; have x5 : w14.cell? ⟨g, 5, none⟩ = some (.int .u64 s.ld) := hp_cell (X14.out) 5; have x6 : w14.cell? ⟨g, 6, none⟩ = some (.slice D2 s.out.length d2) := hp_cell (X14.out) 6; have xl := hp_lt (X14.out)
      have y0 : w14.cell? ⟨r, 0, none⟩ = some (.int .i64 0) := hp_cell (Y14.out) 0; have yz0 := hp_frozen (Y14.out) 0; have y1 : w14.cell? ⟨r, 1, none⟩ = some (.slice none 0 0) := hp_cell (Y14.out) 1; have yz1 := hp_frozen (Y14.out) 1; have y2 : w14.cell? ⟨r, 2, none⟩ = some (.int .u64 0) := hp_cell (Y14.out) 2; have yz2 := hp_frozen (Y14.out) 2; have y3 : w14.cell? ⟨r, 3, none⟩ = some (.int .u64 0) := hp_cell (Y14.out) 3; have yz3 := hp_frozen (Y14.out) 3; have y4 : w14.cell? ⟨r, 4, none⟩ = some (.int .u64 0) := hp_cell (Y14.out) 4; have yz4 := hp_frozen (Y14.out) 4; have y5 : w14.cell? ⟨r, 5, none⟩ = some (.int .u64 0) := hp_cell (Y14.out) 5; have yz5 := hp_frozen (Y14.out) 5; have y6 : w14.cell? ⟨r, 6, none⟩ = some (.slice none 0 0) := hp_cell (Y14.out) 6; have yz6 := hp_frozen (Y14.out) 6; have yl := hp_lt (Y14.out)
      repeat (first | go_skip | go_guarded | go_step | go_upon)
      refine bodyPost_ret (by simp [results, Try.results13, go_sem, y0, y1, y2, y3, y4, y5, y6, ne1, ne2]; try rfl) rfl ?_
      have M1 := row_nx3 P14.out Y14.out (by decide)
      have M2 := row_nx3 Q14.out Y14.out (by decide)
      have hres : effF l.length ⟨3, 1, v⟩ { s with pc := s.pc + 1 } = .ok { s with pc := s.pc + 1, stk := m, lb := a } := by unfold effF locSet; simp [KC.out.1, topI]
      have hv : #[.int .i64 ((j : Int) + 1), .slice (some ⟨gd, 0, none⟩) N d1, .int .u64 s.la, .int .u64 a, .int .u64 s.lc, .int .u64 s.ld, .slice D2 s.out.length d2] = stC { s with pc := s.pc + 1, stk := m, lb := a } (some ⟨gd, 0, none⟩) d1 D2 d2 := by unfold stC; rw [HJ.out.1, KC.out.2.1]
      rw [← HRR.out, hres, hv]
      exact ⟨(bl_new (bl_new (bl_new (bl_new (bl_new (bl_new (bl_new B14.out GR.out.2.2 _) GR.out.2.2 _) GR.out.2.2 _) GR.out.2.2 _) GR.out.2.2 _) GR.out.2.2 _) GR.out.2.2 _), (some ⟨gd, 0, none⟩), d1, D2, d2, rfl, (row_ne (row_ne (row_ne (row_ne (row_ne (row_ne (row_ne P14.out M1 _ _) M1 _ _) M1 _ _) M1 _ _) M1 _ _) M1 _ _) M1 _ _), (row_ne (row_ne (row_ne (row_ne (row_ne (row_ne (row_ne Q14.out M2 _ _) M2 _ _) M2 _ _) M2 _ _) M2 _ _) M2 _ _) M2 _ _)⟩
    · clear hag
      have x0 : w10.cell? ⟨g, 0, none⟩ = some (.int .i64 ((j : Int) + 1)) := hp_cell (X10.out) 0; have xz0 := hp_frozen (X10.out) 0; have x1 : w10.cell? ⟨g, 1, none⟩ = some (.slice (some ⟨gd, 0, none⟩) (N + 1) d1) := hp_cell (X10.out) 1; have xz1 := hp_frozen (X10.out) 1; have x2 : w10.cell? ⟨g, 2, none⟩ = some (.int .u64 s.la) := hp_cell (X10.out) 2; have xz2 := hp_frozen (X10.out) 2; have x3 : w10.cell? ⟨g, 3, none⟩ = some (.int .u64 s.lb) := hp_cell (X10.out) 3; have xz3 := hp_frozen (X10.out) 3; have x4 : w10.cell? ⟨g, 4, none⟩ = some (.int .u64 s.lc) := hp_cell (X10.out) 4; have xz4 := hp_frozen (X10.out) 4; have x5 : w10.cell? ⟨g, 5, none⟩ = some (.int .u64 s.ld) := hp_cell (X10.out) 5; have xz5 := hp_frozen (X10.out) 5; have x6 : w10.cell? ⟨g, 6, none⟩ = some (.slice D2 s.out.length d2) := hp_cell (X10.out) 6; have xz6 := hp_frozen (X10.out) 6; have xl := hp_lt (X10.out)
      have i0 : w10.cell? ⟨xi, 0, none⟩ = some (.int .u8 3) := hp_cell (I10.out) 0; have i1 : w10.cell? ⟨xi, 1, none⟩ = some (.int .i64 2) := hp_cell (I10.out) 1; have i2 : w10.cell? ⟨xi, 2, none⟩ = some (.int .u64 v) := hp_cell (I10.out) 2; have il := hp_lt (I10.out)
      have yl := hp_lt Y10.out
      have xa10 := row_at2 P10.out KC.out.1 KC.out.2.1
      have la10 := World.block_lt_of_cell? w10 _ xa10
      go_upto_region 20 with fail
      go_region
      have s0 := hp_put (cs' := #[.int .i64 ((j : Int) + 1), .slice (some ⟨gd, 0, none⟩) (N + 1) d1, .int .u64 s.la, .int .u64 s.lb, .int .u64 a, .int .u64 s.ld, .slice D2 s.out.length d2]) X10.out 4 (.int .u64 a) (by simp)
      have s1 := hp_put (cs' := #[.int .i64 ((j : Int) + 1), .slice (some ⟨gd, 0, none⟩) N d1, .int .u64 s.la, .int .u64 s.lb, .int .u64 a, .int .u64 s.ld, .slice D2 s.out.length d2]) s0 1 (.slice (some ⟨gd, 0, none⟩) N d1) (by simp)
      have hF : Fr (fun k => k ≠ g) w10 (((w10).setCell ⟨g, 4, none⟩ (.int .u64 a)).setCell ⟨g, 1, none⟩ (.slice (some ⟨gd, 0, none⟩) N d1)).drew := (((Fr.refl (fun k => k ≠ g) w10).trans (Fr.set _ (fun e => e rfl) _ _)).trans (Fr.set _ (fun e => e rfl) _ _)).trans (Fr.drew1 _ _)
      have X14 := Lib.hid (hp_dr s1)
      have Y14 := Lib.hid (hF.hp Y10.out ne2)
      have I14 := Lib.hid (hF.hp I10.out xn2)
      have P14 := Lib.hid (row_fr P10.out hF (row_nx3 P10.out X10.out (by decide)))
      have Q14 := Lib.hid (row_fr Q10.out hF (row_nx3 Q10.out X10.out (by decide)))
      have B14 := Lib.hid (B10.out.trans (hF.toBelow (fun k hk => by have := GR.out.2.1; omega)))
      clear s0 s1 hF X10 Y10 I10 P10 Q10 B10
      generalize (((w10).setCell ⟨g, 4, none⟩ (.int .u64 a)).setCell ⟨g, 1, none⟩ (.slice (some ⟨gd, 0, none⟩) N d1)).drew = w14 at X14 Y14 I14 P14 Q14 B14 ⊢
      clear x0 xz0 x1 xz1 x2 xz2 x3 xz3 x4 xz4 x5 xz5 x6 xz6 xl i0 i1 i2 il yl xa10 la10
      have P14 := Lib.hid (row_pop (by rw [← KC.out.1]; exact P14.out))
      go_upto_region 40 with fail
      have x0 : w14.cell? ⟨g, 0, none⟩ = some (.int .i64 ((j : Int) + 1)) := hp_cell (X14.out) 0; have x1 : w14.cell? ⟨g, 1, none⟩ = some (.slice (some ⟨gd, 0, none⟩) N d1) := hp_cell (X14.out) 1; have x2 : w14.cell? ⟨g, 2, none⟩ = some (.int .u64 s.la) := hp_cell (X14.out) 2; have x3 : w14.cell? ⟨g, 3, none⟩ = some (.int .u64 s.lb) := hp_cell (X14.out) 3; have x4 : w14.cell? ⟨g, 4, none⟩ = some (.int .u64 a) := hp_cell (X14.out) 4; have x5 : w14.cell? ⟨g, 5, none⟩ = some (.int .u64 s.ld) := hp_cell (X14.out) 5; have x6 : w14.cell? ⟨g, 6, none⟩ = some (.slice D2 s.out.length d2) := hp_cell (X14.out) 6; have xl := hp_lt (X14.out)
      have y0 : w14.cell? ⟨r, 0, none⟩ = some (.int .i64 0) := hp_cell (Y14.out) 0; have yz0 := hp_frozen (Y14.out) 0; have y1 : w14.cell? ⟨r, 1, none⟩ = some (.slice none 0 0) := hp_cell (Y14.out) 1; have yz1 := hp_frozen (Y14.out) 1; have y2 : w14.cell? ⟨r, 2, none⟩ = some (.int .u64 0) := hp_cell (Y14.out) 2; have yz2 := hp_frozen (Y14.out) 2; have y3 : w14.cell? ⟨r, 3, none⟩ = some (.int .u64 0) := hp_cell (Y14.out) 3; have yz3 := hp_frozen (Y14.out) 3; have y4 : w14.cell? ⟨r, 4, none⟩ = some (.int .u64 0) := hp_cell (Y14.out) 4; have yz4 := hp_frozen (Y14.out) 4; have y5 : w14.cell? ⟨r, 5, none⟩ = some (.int .u64 0) := hp_cell (Y14.out) 5; have yz5 := hp_frozen (Y14.out) 5; have y6 : w14.cell? ⟨r, 6, none⟩ = some (.slice none 0 0) := hp_cell (Y14.out) 6; have yz6 := hp_frozen (Y14.out) 6; have yl := hp_lt (Y14.out)
      repeat (first | go_skip | go_guarded | go_step | go_upon)
      refine bodyPost_ret (by simp [results, Try.results13, go_sem, y0, y1, y2, y3, y4, y5, y6, ne1, ne2]; try rfl) rfl ?_
      have M1 := row_nx3 P14.out Y14.out (by decide)
      have M2 := row_nx3 Q14.out Y14.out (by decide)
      have hres : effF l.length ⟨3, 2, v⟩ { s with pc := s.pc + 1 } = .ok { s with pc := s.pc + 1, stk := m, lc := a } := by unfold effF locSet; simp [KC.out.1, topI]
      have hv : #[.int .i64 ((j : Int) + 1), .slice (some ⟨gd, 0, none⟩) N d1, .int .u64 s.la, .int .u64 s.lb, .int .u64 a, .int .u64 s.ld, .slice D2 s.out.length d2] = stC { s with pc := s.pc + 1, stk := m, lc := a } (some ⟨gd, 0, none⟩) d1 D2 d2 := by unfold stC; rw [HJ.out.1, KC.out.2.1]
      rw [← HRR.out, hres, hv]
      exact ⟨(bl_new (bl_new (bl_new (bl_new (bl_new (bl_new (bl_new B14.out GR.out.2.2 _) GR.out.2.2 _) GR.out.2.2 _) GR.out.2.2 _) GR.out.2.2 _) GR.out.2.2 _) GR.out.2.2 _), (some ⟨gd, 0, none⟩), d1, D2, d2, rfl, (row_ne (row_ne (row_ne (row_ne (row_ne (row_ne (row_ne P14.out M1 _ _) M1 _ _) M1 _ _) M1 _ _) M1 _ _) M1 _ _) M1 _ _), (row_ne (row_ne (row_ne (row_ne (row_ne (row_ne (row_ne Q14.out M2 _ _) M2 _ _) M2 _ _) M2 _ _) M2 _ _) M2 _ _) M2 _ _)⟩
    · clear hag
      have x0 : w10.cell? ⟨g, 0, none⟩ = some (.int .i64 ((j : Int) + 1)) := hp_cell (X10.out) 0; have xz0 := hp_frozen (X10.out) 0; have x1 : w10.cell? ⟨g, 1, none⟩ = some (.slice (some ⟨gd, 0, none⟩) (N + 1) d1) := hp_cell (X10.out) 1; have xz1 := hp_frozen (X10.out) 1; have x2 : w10.cell? ⟨g, 2, none⟩ = some (.int .u64 s.la) := hp_cell (X10.out) 2; have xz2 := hp_frozen (X10.out) 2; have x3 : w10.cell? ⟨g, 3, none⟩ = some (.int .u64 s.lb) := hp_cell (X10.out) 3; have xz3 := hp_frozen (X10.out) 3; have x4 : w10.cell? ⟨g, 4, none⟩ = some (.int .u64 s.lc) := hp_cell (X10.out) 4; have xz4 := hp_frozen (X10.out) 4; have x5 : w10.cell? ⟨g, 5, none⟩ = some (.int .u64 s.ld) := hp_cell (X10.out) 5; have xz5 := hp_frozen (X10.out) 5; have x6 : w10.cell? ⟨g, 6, none⟩ = some (.slice D2 s.out.length d2) := hp_cell (X10.out) 6; have xz6 := hp_frozen (X10.out) 6; have xl := hp_lt (X10.out)
      have i0 : w10.cell? ⟨xi, 0, none⟩ = some (.int .u8 3) := hp_cell (I10.out) 0; have i1 : w10.cell? ⟨xi, 1, none⟩ = some (.int .i64 3) := hp_cell (I10.out) 1; have i2 : w10.cell? ⟨xi, 2, none⟩ = some (.int .u64 v) := hp_cell (I10.out) 2; have il := hp_lt (I10.out)
      have yl := hp_lt Y10.out
      have xa10 := row_at2 P10.out KC.out.1 KC.out.2.1
      have la10 := World.block_lt_of_cell? w10 _ xa10
      go_upto_region 20 with fail
      go_region
      have s0 := hp_put (cs' := #[.int .i64 ((j : Int) + 1), .slice (some ⟨gd, 0, none⟩) (N + 1) d1, .int .u64 s.la, .int .u64 s.lb, .int .u64 s.lc, .int .u64 a, .slice D2 s.out.length d2]) X10.out 5 (.int .u64 a) (by simp)
      have s1 := hp_put (cs' := #[.int .i64 ((j : Int) + 1), .slice (some ⟨gd, 0, none⟩) N d1, .int .u64 s.la, .int .u64 s.lb, .int .u64 s.lc, .int .u64 a, .slice D2 s.out.length d2]) s0 1 (.slice (some ⟨gd, 0, none⟩) N d1) (by simp)
      have hF : Fr (fun k => k ≠ g) w10 (((w10).setCell ⟨g, 5, none⟩ (.int .u64 a)).setCell ⟨g, 1, none⟩ (.slice (some ⟨gd, 0, none⟩) N d1)).drew := (((Fr.refl (fun k => k ≠ g) w10).trans (Fr.set _ (fun e => e rfl) _ _)).trans (Fr.set _ (fun e => e rfl) _ _)).trans (Fr.drew1 _ _)
      have X14 := Lib.hid (hp_dr s1)
      have Y14 := Lib.hid (hF.hp Y10.out ne2)
      have I14 := Lib.hid (hF.hp I10.out xn2)
      have P14 := Lib.hid (row_fr P10.out hF (row_nx3 P10.out X10.out (by decide)))
      have Q14 := Lib.hid (row_fr Q10.out hF (row_nx3 Q10.out X10.out (by decide)))
      have B14 := Lib.hid (B10.out.trans (hF.toBelow (fun k hk => by have := GR.out.2.1; omega)))
      clear s0 s1 hF X10 Y10 I10 P10 Q10 B10
      generalize (((w10).setCell ⟨g, 5, none⟩ (.int .u64 a)).setCell ⟨g, 1, none⟩ (.slice (some ⟨gd, 0, none⟩) N d1)).drew = w14 at X14 Y14 I14 P14 Q14 B14 ⊢
      clear x0 xz0 x1 xz1 x2 xz2 x3 xz3 x4 xz4 x5 xz5 x6 xz6 xl i0 i1 i2 il yl xa10 la10
      have P14 := Lib.hid (row_pop (by rw [← KC.out.1]; exact P14.out))
      go_upto_region 40 with fail
      have x0 : w14.cell? ⟨g, 0, none⟩ = some (.int .i64 ((j : Int) + 1)) := hp_cell (X14.out) 0; have x1 : w14.cell? ⟨g, 1, none⟩ = some (.slice (some ⟨gd, 0, none⟩) N d1) := hp_cell (X14.out) 1; have x2 : w14.cell? ⟨g, 2, none⟩ = some (.int .u64 s.la) := hp_cell (X14.out) 2; have x3 : w14.cell? ⟨g, 3, none⟩ = some (.int .u64 s.lb) := hp_cell (X14.out) 3; have x4 : w14.cell? ⟨g, 4, none⟩ = some (.int .u64 s.lc) := hp_cell (X14.out) 4; have x5 : w14.cell? ⟨g, 5, none⟩ = some (.int .u64 a) := hp_cell (X14.out) 5; have x6 : w14.cell? ⟨g, 6, none⟩ = some (.slice D2 s.out.length d2) := hp_cell (X14.out) 6; have xl := hp_lt (X14.out)
      have y0 : w14.cell? ⟨r, 0, none⟩ = some (.int .i64 0) := hp_cell (Y14.out) 0; have yz0 := hp_frozen (Y14.out) 0; have y1 : w14.cell? ⟨r, 1, none⟩ = some (.slice none 0 0) := hp_cell (Y14.out) 1; have yz1 := hp_frozen (Y14.out) 1; have y2 : w14.cell? ⟨r, 2, none⟩ = some (.int .u64 0) := hp_cell (Y14.out) 2; have yz2 := hp_frozen (Y14.out) 2; have y3 : w14.cell? ⟨r, 3, none⟩ = some (.int .u64 0) := hp_cell (Y14.out) 3; have yz3 := hp_frozen (Y14.out) 3; have y4 : w14.cell? ⟨r, 4, none⟩ = some (.int .u64 0) := hp_cell (Y14.out) 4; have yz4 := hp_frozen (Y14.out) 4; have y5 : w14.cell? ⟨r, 5, none⟩ = some (.int .u64 0) := hp_cell (Y14.out) 5; have yz5 := hp_frozen (Y14.out) 5; have y6 : w14.cell? ⟨r, 6, none⟩ = some (.slice none 0 0) := hp_cell (Y14.out) 6; have yz6 := hp_frozen (Y14.out) 6; have yl := hp_lt (Y14.out)
      repeat (first | go_skip | go_guarded | go_step | go_upon)
      refine bodyPost_ret (by simp [results, Try.results13, go_sem, y0, y1, y2, y3, y4, y5, y6, ne1, ne2]; try rfl) rfl ?_
      have M1 := row_nx3 P14.out Y14.out (by decide)
      have M2 := row_nx3 Q14.out Y14.out (by decide)
      have hres : effF l.length ⟨3, 3, v⟩ { s with pc := s.pc + 1 } = .ok { s with pc := s.pc + 1, stk := m, ld := a } := by unfold effF locSet; simp [KC.out.1, topI]
      have hv : #[.int .i64 ((j : Int) + 1), .slice (some ⟨gd, 0, none⟩) N d1, .int .u64 s.la, .int .u64 s.lb, .int .u64 s.lc, .int .u64 a, .slice D2 s.out.length d2] = stC { s with pc := s.pc + 1, stk := m, ld := a } (some ⟨gd, 0, none⟩) d1 D2 d2 := by unfold stC; rw [HJ.out.1, KC.out.2.1]
      rw [← HRR.out, hres, hv]
      exact ⟨(bl_new (bl_new (bl_new (bl_new (bl_new (bl_new (bl_new B14.out GR.out.2.2 _) GR.out.2.2 _) GR.out.2.2 _) GR.out.2.2 _) GR.out.2.2 _) GR.out.2.2 _) GR.out.2.2 _), (some ⟨gd, 0, none⟩), d1, D2, d2, rfl, (row_ne (row_ne (row_ne (row_ne (row_ne (row_ne (row_ne P14.out M1 _ _) M1 _ _) M1 _ _) M1 _ _) M1 _ _) M1 _ _) M1 _ _), (row_ne (row_ne (row_ne (row_ne (row_ne (row_ne (row_ne Q14.out M2 _ _) M2 _ _) M2 _ _) M2 _ _) M2 _ _) M2 _ _) M2 _ _)⟩
end Go.Proofs.Ytlgpjcdlomhlcaa
