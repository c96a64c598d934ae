
/-
  rowlockref17: Copied, reckon; appends of lists that are read.
-/
import Derived.Test.YtlgpjcdlomhlcaaSp28
namespace Go.Proofs.Ytlgpjcdlomhlcaa
open Go.RowKit Go.ChangeShapes Go.WideShapes
set_option linter.unusedSimpArgs false
set_option linter.unusedVariables false

theorem append_src {ops : Array Oper} {rest : List Oper} {o : Oper} {a : Act} {Q : Exit → Act → World → Prop} {w : World} (hgd : o.guard = none) (s x : Operand)
    (ho : o.op = .call { callee := .builtin .append, args := #[s, x], argTypes := #[23, 23] })
    (base : Nat) (A0 : Option Addr) (c0 : Nat) (xs : List Int) (hs : a.eval s = .slice A0 xs.length c0) (hr : RowAt w base A0 c0 xs) (A : Option Addr) (c : Nat) (src : List Int) (hx : a.eval x = .slice A src.length c) (hsr : Src w A c src)
    (hlen : xs.length + src.length ≤ 2000) (hbase : base ≤ w.heap.size) (l' : List Int) (hl : xs ++ src = l')
    (h : ∀ A' c' w', RowAt w' base A' c' l' → w.grownBy w' (blk A0) → (blk A' = blk A0 ∨ blk A' = some w.heap.size) → wpList Try.prog ops Q rest (a.put o.dst (.slice A' l'.length c')) w') : wpList Try.prog ops Q (o :: rest) a w := by
  subst hl
  obtain ⟨i0, hi, hz0, hz1, hz2⟩ := info_parts Val_info
  cases A with
  | none =>
    obtain rfl := hsr.vals.2.1 rfl
    obtain rfl := hsr.nil rfl
    refine wpList_append_own_none hgd s x 23 ho base 25 i0 1 Try.underlying23 hi _ xs.length (valsC xs) hs hr.1 hx ?_
    have := h A0 c0 w (by rw [List.append_nil]; exact hr) (gb_refl _ _) (.inl rfl)
    rw [List.append_nil] at this
    exact this
  | some b =>
    refine wpList_append_own_at w hgd s x 23 ho base 25 i0 (.int .u64 0) 1 8 Try.underlying23 hi hz0 hz1 hz2 rfl (by decide) _ xs.length (valsC xs) hs hr.1 b src.length c (valsC src) hx (by rw [valsC_len, Nat.mul_one]) (fun j u hu => hsr.vals.2.2 b rfl j u hu) (valsC_one src) (by unfold maxLen; omega) (by omega) hbase ?_
    intro v' w' h1 h2 _ h3
    obtain ⟨A', c', rfl, hrow⟩ := row_of (l := xs ++ src) (by rw [List.length_append, valsC_append]; exact h1) (fun x hx => by rcases List.mem_append.mp hx with hx | hx; exact hr.2 x hx; exact hsr.vals.1 x hx)
    rw [blk_own] at h2 h3
    rw [blk_own] at h3
    exact h A' c' w' hrow h2 h3
theorem step_append_src {ops : Array Oper} {o : Oper} {a : Act} {w : World} {K : Act → World → Prop} {Q : Exit → Act → World → Prop} {E : Prop} (hg : o.guard = none) (s x : Operand)
    (ho : o.op = .call { callee := .builtin .append, args := #[s, x], argTypes := #[23, 23] })
    (base : Nat) (A0 : Option Addr) (c0 : Nat) (xs : List Int) (hs : a.eval s = .slice A0 xs.length c0) (hr : RowAt w base A0 c0 xs) (A : Option Addr) (c : Nat) (src : List Int) (hx : a.eval x = .slice A src.length c) (hsr : Src w A c src)
    (hlen : xs.length + src.length ≤ 2000) (hbase : base ≤ w.heap.size) (l' : List Int) (hl : xs ++ src = l')
    (h : ∀ A' c' w', RowAt w' base A' c' l' → w.grownBy w' (blk A0) → (blk A' = blk A0 ∨ blk A' = some w.heap.size) → K (a.put o.dst (.slice A' l'.length c')) w') :
    if Region.wanted o (yielded ops a.tmps) = true then Oper.wp Try.prog o a w K Q else E := by
  have hw : Region.wanted o (yielded ops a.tmps) = true := by simp [Region.wanted, hg]
  rw [if_pos hw]
  subst hl
  obtain ⟨i0, hi, hz0, hz1, hz2⟩ := info_parts Val_info
  cases A with
  | none =>
    obtain rfl := hsr.vals.2.1 rfl
    obtain rfl := hsr.nil rfl
    have hrun := run_append_owned_none (P := Try.prog) (w := w) base 23 o.type 25 i0 1 Try.underlying23 hi _ xs.length (valsC xs) hr.1
    have hx' : a.eval x = .slice none 0 0 := hx
    unfold Oper.wp
    simp [execOp, ho, resolve, invoke, builtin, hs, hx', hrun, Result.andThen]
    have := h A0 c0 w (by rw [List.append_nil]; exact hr) (gb_refl _ _) (.inl rfl)
    rw [List.append_nil] at this
    exact this
  | some b =>
    obtain ⟨v', w', hrun, h1, h2, _, h3⟩ := run_append_own_at (P := Try.prog) w base 23 o.type 25 i0 (.int .u64 0) 1 8 Try.underlying23 hi hz0 hz1 hz2 rfl (by decide) _ xs.length (valsC xs) hr.1 b src.length c (valsC src) (by rw [valsC_len, Nat.mul_one]) (fun j u hu => hsr.vals.2.2 b rfl j u hu) (valsC_one src) (by unfold maxLen; omega) (by omega) hbase
    unfold Oper.wp
    simp [execOp, ho, resolve, invoke, builtin, hs, hx, hrun, Result.andThen]
    obtain ⟨A', c', rfl, hrow⟩ := row_of (l := xs ++ src) (by rw [List.length_append, valsC_append]; exact h1) (fun x hx => by rcases List.mem_append.mp hx with hx | hx; exact hr.2 x hx; exact hsr.vals.1 x hx)
    rw [blk_own] at h2 h3
    rw [blk_own] at h3
    exact h A' c' w' hrow h2 h3
set_option maxRecDepth 20000 in
set_option maxHeartbeats 8000000 in
theorem refCopied_any (s : St) (A1 : Option Addr) (c1 : Nat) (A2 : Option Addr) (c2 : Nat) (w : World) (h1 : Src w A1 c1 s.stk) (h2 : Src w A2 c2 s.out) : Calls Try.prog 36 #[stV s A1 c1 A2 c2] w (CopyPost s w) := by
  have z1 := (Below.refl w.heap.size w).alloc (Nat.le_refl _) (.cells #[.int .i64 s.pc, .slice A1 s.stk.length c1, .int .u64 s.la, .int .u64 s.lb, .int .u64 s.lc, .int .u64 s.ld, .slice A2 s.out.length c2] 28)
  have z2 := z1.alloc z1.size (.cells #[.int .i64 0, .slice none 0 0, .int .u64 0, .int .u64 0, .int .u64 0, .int .u64 0, .slice none 0 0] 28)
  have X1 := Lib.hid (hp_alloc (heap_alloc_new w (.cells #[.int .i64 s.pc, .slice A1 s.stk.length c1, .int .u64 s.la, .int .u64 s.lb, .int .u64 s.lc, .int .u64 s.ld, .slice A2 s.out.length c2] 28)) (.cells #[.int .i64 0, .slice none 0 0, .int .u64 0, .int .u64 0, .int .u64 0, .int .u64 0, .slice none 0 0] 28))
  have Y1 := Lib.hid (show ((w.alloc (.cells #[.int .i64 s.pc, .slice A1 s.stk.length c1, .int .u64 s.la, .int .u64 s.lb, .int .u64 s.lc, .int .u64 s.ld, .slice A2 s.out.length c2] 28)).alloc (.cells #[.int .i64 0, .slice none 0 0, .int .u64 0, .int .u64 0, .int .u64 0, .int .u64 0, .slice none 0 0] 28)).heap[w.heap.size + 1]? = some (.cells #[.int .i64 0, .slice none 0 0, .int .u64 0, .int .u64 0, .int .u64 0, .int .u64 0, .slice none 0 0] 28 (0, 0)) from (congrArg _ (by simp)).trans (heap_alloc_new (w.alloc (.cells #[.int .i64 s.pc, .slice A1 s.stk.length c1, .int .u64 s.la, .int .u64 s.lb, .int .u64 s.lc, .int .u64 s.ld, .slice A2 s.out.length c2] 28)) (.cells #[.int .i64 0, .slice none 0 0, .int .u64 0, .int .u64 0, .int .u64 0, .int .u64 0, .slice none 0 0] 28)))
  have G1 := Lib.hid (h1.below z2)
  have G2 := Lib.hid (h2.below z2)
  have B1 := Lib.hid z2
  have G0 := Lib.hid h2
  clear z1 z2 h1 h2
  unfold stV stC
  go_enter Try.func36, Try.ntmps36
  go_upto_region 1 with fail
  generalize World.alloc _ _ = w2 at X1 Y1 G1 G2 B1 ⊢
  obtain ⟨g, hg⟩ : ∃ g, w.heap.size = g := ⟨_, rfl⟩
  obtain ⟨r, hr⟩ : ∃ r, w.heap.size + 1 = r := ⟨_, rfl⟩
  rw [hg] at X1
  rw [hr] at Y1
  rw [hr, hg]
  have gr : g ≠ r := by omega
  have gb : w.heap.size ≤ g := by omega
  have rb : w.heap.size ≤ r := by omega
  have GR := Lib.hid (And.intro gr (And.intro gb rb))
  clear hg hr gr gb rb
  have x1 : w2.cell? ⟨g, 1, none⟩ = some (.slice A1 s.stk.length c1) := hp_cell X1.out 1
  have xz1 := hp_frozen X1.out 1
  have xl := hp_lt X1.out
  have E2 := Lib.hid (row_empty w2)
  have A2' := Lib.hid ((Below.refl w2.heap.size w2).alloc (Nat.le_refl _) (.cells #[] 25))
  have xl2 : g < (w2.alloc (.cells #[] 25)).heap.size := hp_lt (hp_below X1.out A2'.out)
  go_upto_region 2 with (at_builtin; refine append_src rfl (.tmp 3) (.tmp 5) rfl w2.heap.size (some ⟨w2.heap.size, 0, none⟩) 0 [] rfl E2.out A1 c1 s.stk rfl (G1.out.below A2'.out) (by have := G1.out.len; simp; omega) (by simp) s.stk rfl ?_; intro D1 d1 w4 hr4 hg4 hat4; have R4 := Lib.hid hr4; have B4 := Lib.hid (A2'.out.grown hg4 A2'.out.size (fun k hk => by simp [blk] at hk; omega)); have X4 := Lib.hid (hp_below X1.out B4.out); have Y4 := Lib.hid (hp_below Y1.out B4.out); have H2 := Lib.hid (G2.out.below B4.out); have x1' : w4.cell? ⟨g, 1, none⟩ = some (.slice A1 s.stk.length c1) := hp_cell X4.out 1; have xz1' := hp_frozen X4.out 1; have xl' := hp_lt X4.out; clear hr4 hg4 hat4)
  clear x1 xz1 xl xl2 E2 A2' G1 G2
  have X5 := Lib.hid (hp_put (cs' := #[.int .i64 s.pc, .slice D1 s.stk.length d1, .int .u64 s.la, .int .u64 s.lb, .int .u64 s.lc, .int .u64 s.ld, .slice A2 s.out.length c2]) X4.out 1 (.slice D1 s.stk.length d1) (by simp))
  have F5 := Lib.hid (Fr.set (F := fun k => k ≠ g) w4 (fun e => e rfl) 1 (.slice D1 s.stk.length d1))
  have Y5 := Lib.hid (F5.out.hp Y4.out (fun e => GR.out.1 e.symm))
  have P5 := Lib.hid (row_fr R4.out F5.out (fun k hk => by obtain ⟨cs, hc⟩ := row_typed R4.out k hk; exact hp_ne hc X4.out (by decide)))
  have B5 := Lib.hid (bl_new (B1.out.trans (B4.out.mono B1.out.size)) GR.out.2.1 (p := ⟨g, 1, none⟩) (.slice D1 s.stk.length d1))
  have H5 := Lib.hid (G0.out.below B5.out)
  have S5 := Lib.hid (show w2.heap.size ≤ (w4.setCell ⟨g, 1, none⟩ (.slice D1 s.stk.length d1)).heap.size from Nat.le_trans B4.out.size F5.out.size)
  clear x1' xz1' xl' X4 Y4 F5 R4 B4 H2
  generalize w4.setCell _ _ = w5 at X5 Y5 P5 B5 H5 S5 ⊢
  have x6 : w5.cell? ⟨g, 6, none⟩ = some (.slice A2 s.out.length c2) := hp_cell X5.out 6
  have xz6 := hp_frozen X5.out 6
  have xl := hp_lt X5.out
  have E5 := Lib.hid (row_empty w5)
  have A5 := Lib.hid ((Below.refl w5.heap.size w5).alloc (Nat.le_refl _) (.cells #[] 25))
  have xl2 : g < (w5.alloc (.cells #[] 25)).heap.size := hp_lt (hp_below X5.out A5.out)
  go_upto_region 3 with (at_builtin; refine append_src rfl (.tmp 8) (.tmp 10) rfl w5.heap.size (some ⟨w5.heap.size, 0, none⟩) 0 [] rfl E5.out A2 c2 s.out rfl (H5.out.below A5.out) (by have := H5.out.len; simp; omega) (by simp) s.out rfl ?_; intro D2 d2 w6 hr6 hg6 hat6; have R6 := Lib.hid hr6; have B6 := Lib.hid (A5.out.grown hg6 A5.out.size (fun k hk => by simp [blk] at hk; omega)); have X6 := Lib.hid (hp_below X5.out B6.out); have Y6 := Lib.hid (hp_below Y5.out B6.out); have x6' : w6.cell? ⟨g, 6, none⟩ = some (.slice A2 s.out.length c2) := hp_cell X6.out 6; have xz6' := hp_frozen X6.out 6; have xl' := hp_lt X6.out; clear hr6 hg6 hat6)
  clear x6 xz6 xl xl2 E5 A5
  have X7 := Lib.hid (hp_put (cs' := #[.int .i64 s.pc, .slice D1 s.stk.length d1, .int .u64 s.la, .int .u64 s.lb, .int .u64 s.lc, .int .u64 s.ld, .slice D2 s.out.length d2]) X6.out 6 (.slice D2 s.out.length d2) (by simp))
  have F7 := Lib.hid (Fr.set (F := fun k => k ≠ g) w6 (fun e => e rfl) 6 (.slice D2 s.out.length d2))
  have Y7 := Lib.hid (F7.out.hp Y6.out (fun e => GR.out.1 e.symm))
  have P7 := Lib.hid (row_fr (row_below P5.out B6.out) F7.out (fun k hk => by obtain ⟨cs, hc⟩ := row_typed (row_below P5.out B6.out) k hk; exact hp_ne hc X6.out (by decide)))
  have Q7 := Lib.hid (row_fr R6.out F7.out (fun k hk => by obtain ⟨cs, hc⟩ := row_typed R6.out k hk; exact hp_ne hc X6.out (by decide)))
  have B7 := Lib.hid (bl_new (B5.out.trans (B6.out.mono B5.out.size)) GR.out.2.1 (p := ⟨g, 6, none⟩) (.slice D2 s.out.length d2))
  have D := Lib.hid (show ∀ k, blk D1 = some k → blk D2 ≠ some k from fun k hk e => by
    have a1 := (row_lt P5.out k hk).2
    have a2 := (row_lt R6.out k e).1
    omega)
  have N1 := Lib.hid B1.out.size
  have N2 := Lib.hid B5.out.size
  clear x6' xz6' xl' X6 Y6 F7 R6 B6 X5 Y5 P5 B5 H5 S5
  generalize w6.setCell _ _ = w7 at X7 Y7 P7 Q7 B7 ⊢
  have f0 : w7.cell? ⟨g, 0, none⟩ = some (.int .i64 s.pc) := hp_cell (X7.out) 0; have f1 : w7.cell? ⟨g, 1, none⟩ = some (.slice D1 s.stk.length d1) := hp_cell (X7.out) 1; have f2 : w7.cell? ⟨g, 2, none⟩ = some (.int .u64 s.la) := hp_cell (X7.out) 2; have f3 : w7.cell? ⟨g, 3, none⟩ = some (.int .u64 s.lb) := hp_cell (X7.out) 3; have f4 : w7.cell? ⟨g, 4, none⟩ = some (.int .u64 s.lc) := hp_cell (X7.out) 4; have f5 : w7.cell? ⟨g, 5, none⟩ = some (.int .u64 s.ld) := hp_cell (X7.out) 5; have f6 : w7.cell? ⟨g, 6, none⟩ = some (.slice D2 s.out.length d2) := hp_cell (X7.out) 6; have fl := hp_lt (X7.out)
  have r0 : w7.cell? ⟨r, 0, none⟩ = some (.int .i64 0) := hp_cell (Y7.out) 0; have rz0 := hp_frozen (Y7.out) 0; have r1 : w7.cell? ⟨r, 1, none⟩ = some (.slice none 0 0) := hp_cell (Y7.out) 1; have rz1 := hp_frozen (Y7.out) 1; have r2 : w7.cell? ⟨r, 2, none⟩ = some (.int .u64 0) := hp_cell (Y7.out) 2; have rz2 := hp_frozen (Y7.out) 2; have r3 : w7.cell? ⟨r, 3, none⟩ = some (.int .u64 0) := hp_cell (Y7.out) 3; have rz3 := hp_frozen (Y7.out) 3; have r4 : w7.cell? ⟨r, 4, none⟩ = some (.int .u64 0) := hp_cell (Y7.out) 4; have rz4 := hp_frozen (Y7.out) 4; have r5 : w7.cell? ⟨r, 5, none⟩ = some (.int .u64 0) := hp_cell (Y7.out) 5; have rz5 := hp_frozen (Y7.out) 5; have r6 : w7.cell? ⟨r, 6, none⟩ = some (.slice none 0 0) := hp_cell (Y7.out) 6; have rz6 := hp_frozen (Y7.out) 6; have rl := hp_lt (Y7.out)
  have ne1 := GR.out.1
  have ne2 : r ≠ g := fun e => ne1 e.symm
  go_wp2_with fail
  have M1 : ∀ k, blk D1 = some k → k ≠ r := fun k hk => by obtain ⟨cs, hc⟩ := row_typed P7.out k hk; exact hp_ne hc Y7.out (by decide)
  have M2 : ∀ k, blk D2 = some k → k ≠ r := fun k hk => by obtain ⟨cs, hc⟩ := row_typed Q7.out k hk; exact hp_ne hc Y7.out (by decide)
  refine bodyPost_ret (by simp [results, Try.results36, go_sem, r0, r1, r2, r3, r4, r5, r6, ne1, ne2]; try rfl) rfl ?_
  exact ⟨D1, d1, D2, d2, rfl, (row_ne (row_ne (row_ne (row_ne (row_ne (row_ne (row_ne (row_base P7.out N1.out) M1 _ _) M1 _ _) M1 _ _) M1 _ _) M1 _ _) M1 _ _) M1 _ _), (row_ne (row_ne (row_ne (row_ne (row_ne (row_ne (row_ne (row_base Q7.out N2.out) M2 _ _) M2 _ _) M2 _ _) M2 _ _) M2 _ _) M2 _ _) M2 _ _), D.out, (bl_new (bl_new (bl_new (bl_new (bl_new (bl_new (bl_new B7.out GR.out.2.2 _) GR.out.2.2 _) GR.out.2.2 _) GR.out.2.2 _) GR.out.2.2 _) GR.out.2.2 _) GR.out.2.2 _)⟩
set_option maxHeartbeats 8000000 in
theorem refReckon_8 (g m c : Nat) (a b : Int) (ha : W64 a) (hb : W64 b) (w : World) (h0 : w.cell? ⟨g, m, none⟩ = some (.int .u64 a)) (h1 : w.cell? ⟨g, m + 1, none⟩ = some (.int .u64 b)) : Calls Try.prog 39 #[.int .u8 8, .slice (some ⟨g, m, none⟩) 2 c] w fun e w' => e = .returned (.int .u64 (fop .add a b)) ∧ Below w.heap.size w w' := by
  have hl := World.block_lt_of_cell? w _ h0
  dsimp only at hl
  go_enter Try.func39, Try.ntmps39
  go_wp2_with fail
  go_quiet (fail)
  go_wp2_with (first | (go_at_call 66; refine (refAdd_any a b ha hb _).mono ?_; rintro e w' ⟨rfl, hd⟩; have D := Lib.hid hd; clear hd))
  go_ret
  exact ⟨rfl, (bl_drewN (Below.refl _ _) _).trans (drew_below D.out)⟩
set_option maxHeartbeats 8000000 in
theorem refReckon_9 (g m c : Nat) (a b : Int) (ha : W64 a) (hb : W64 b) (w : World) (h0 : w.cell? ⟨g, m, none⟩ = some (.int .u64 a)) (h1 : w.cell? ⟨g, m + 1, none⟩ = some (.int .u64 b)) : Calls Try.prog 39 #[.int .u8 9, .slice (some ⟨g, m, none⟩) 2 c] w fun e w' => e = .returned (.int .u64 (fop .sub a b)) ∧ Below w.heap.size w w' := by
  have hl := World.block_lt_of_cell? w _ h0
  dsimp only at hl
  go_enter Try.func39, Try.ntmps39
  go_wp2_with fail
  go_quiet (fail)
  go_wp2_with (first | (go_at_call 67; refine (refSub_any a b ha hb _).mono ?_; rintro e w' ⟨rfl, hd⟩; have D := Lib.hid hd; clear hd))
  go_ret
  exact ⟨rfl, (bl_drewN (Below.refl _ _) _).trans (drew_below D.out)⟩
set_option maxHeartbeats 8000000 in
theorem refReckon_10 (g m c : Nat) (a b : Int) (ha : W64 a) (hb : W64 b) (w : World) (h0 : w.cell? ⟨g, m, none⟩ = some (.int .u64 a)) (h1 : w.cell? ⟨g, m + 1, none⟩ = some (.int .u64 b)) : Calls Try.prog 39 #[.int .u8 10, .slice (some ⟨g, m, none⟩) 2 c] w fun e w' => e = .returned (.int .u64 (fop .mul a b)) ∧ Below w.heap.size w w' := by
  have hl := World.block_lt_of_cell? w _ h0
  dsimp only at hl
  go_enter Try.func39, Try.ntmps39
  go_wp2_with fail
  go_quiet (fail)
  go_wp2_with (first | (go_at_call 68; refine (refMul_any a b ha hb _).mono ?_; rintro e w' ⟨rfl, hd⟩; have D := Lib.hid hd; clear hd))
  go_ret
  exact ⟨rfl, (bl_drewN (Below.refl _ _) _).trans (drew_below D.out)⟩
set_option maxHeartbeats 8000000 in
theorem refReckon_11 (g m c : Nat) (a b : Int) (ha : W64 a) (hb : W64 b) (w : World) (h0 : w.cell? ⟨g, m, none⟩ = some (.int .u64 a)) (h1 : w.cell? ⟨g, m + 1, none⟩ = some (.int .u64 b)) : Calls Try.prog 39 #[.int .u8 11, .slice (some ⟨g, m, none⟩) 2 c] w fun e w' => e = .returned (.int .u64 (fop .quo a b)) ∧ Below w.heap.size w w' := by
  have hl := World.block_lt_of_cell? w _ h0
  dsimp only at hl
  go_enter Try.func39, Try.ntmps39
  go_wp2_with fail
  go_quiet (fail)
  go_wp2_with (first | (go_at_call 69; refine (refDiv_any a b ha hb _).mono ?_; rintro e w' ⟨rfl, hd⟩; have D := Lib.hid hd; clear hd))
  go_ret
  exact ⟨rfl, (bl_drewN (Below.refl _ _) _).trans (drew_below D.out)⟩
set_option maxHeartbeats 8000000 in
theorem refReckon_12 (g m c : Nat) (a : Int) (ha : W64 a) (w : World) (h0 : w.cell? ⟨g, m, none⟩ = some (.int .u64 a)) : Calls Try.prog 39 #[.int .u8 12, .slice (some ⟨g, m, none⟩) 1 c] w fun e w' => e = .returned (.int .u64 (negV a)) ∧ Below w.heap.size w w' := by
  have hl := World.block_lt_of_cell? w _ h0
  dsimp only at hl
  go_enter Try.func39, Try.ntmps39
  go_wp2_with fail
  go_quiet (fail)
  go_wp2_with (first | (go_at_call 70; refine (refNeg_any a ha _).mono ?_; rintro e w' ⟨rfl, rfl⟩; have D := Lib.hid (DrewN.refl (w.drewN nq))))
  go_ret
  exact ⟨rfl, (bl_drewN (Below.refl _ _) _).trans (drew_below D.out)⟩
set_option maxHeartbeats 8000000 in
theorem refReckon_13 (g m c : Nat) (a b : Int) (ha : W64 a) (hb : W64 b) (w : World) (h0 : w.cell? ⟨g, m, none⟩ = some (.int .u64 a)) (h1 : w.cell? ⟨g, m + 1, none⟩ = some (.int .u64 b)) : Calls Try.prog 39 #[.int .u8 13, .slice (some ⟨g, m, none⟩) 2 c] w fun e w' => e = .returned (.int .u64 (lessV a b)) ∧ Below w.heap.size w w' := by
  have hl := World.block_lt_of_cell? w _ h0
  dsimp only at hl
  go_enter Try.func39, Try.ntmps39
  go_wp2_with fail
  go_quiet (fail)
  go_wp2_with (first | (go_at_call 72; refine (refLess_any a b ha hb _).mono ?_; rintro e w' ⟨rfl, rfl⟩; have D := Lib.hid (DrewN.refl (w.drewN nq))) | (go_at_call 71; refine (refOne_any _ _).mono ?_; rintro e w' ⟨rfl, rfl⟩))
  go_ret
  exact ⟨rfl, (bl_drewN (Below.refl _ _) _).trans (drew_below D.out)⟩
set_option maxHeartbeats 8000000 in
theorem refReckon_14 (g m c : Nat) (a b : Int) (ha : W64 a) (hb : W64 b) (w : World) (h0 : w.cell? ⟨g, m, none⟩ = some (.int .u64 a)) (h1 : w.cell? ⟨g, m + 1, none⟩ = some (.int .u64 b)) : Calls Try.prog 39 #[.int .u8 14, .slice (some ⟨g, m, none⟩) 2 c] w fun e w' => e = .returned (.int .u64 (sameV a b)) ∧ Below w.heap.size w w' := by
  have hl := World.block_lt_of_cell? w _ h0
  dsimp only at hl
  go_enter Try.func39, Try.ntmps39
  go_wp2_with fail
  go_quiet (fail)
  go_wp2_with (first | (go_at_call 73; refine (refSame_any a b ha hb _).mono ?_; rintro e w' ⟨rfl, rfl⟩; have D := Lib.hid (DrewN.refl (w.drewN nq))) | (go_at_call 71; refine (refOne_any _ _).mono ?_; rintro e w' ⟨rfl, rfl⟩))
  go_ret
  exact ⟨rfl, (bl_drewN (Below.refl _ _) _).trans (drew_below D.out)⟩
set_option maxHeartbeats 8000000 in
theorem refReckon_15 (g m c : Nat) (a : Int) (ha : W64 a) (w : World) (h0 : w.cell? ⟨g, m, none⟩ = some (.int .u64 a)) : Calls Try.prog 39 #[.int .u8 15, .slice (some ⟨g, m, none⟩) 1 c] w fun e w' => e = .returned (.int .u64 (notV a)) ∧ Below w.heap.size w w' := by
  have hl := World.block_lt_of_cell? w _ h0
  dsimp only at hl
  go_enter Try.func39, Try.ntmps39
  go_wp2_with fail
  go_quiet (fail)
  go_wp2_with (first | (go_at_call 38; refine (refTruth_any a ha _).mono ?_; rintro e w' ⟨rfl, rfl⟩; have D := Lib.hid (DrewN.refl (w.drewN nq))) | (go_at_call 71; refine (refOne_any _ _).mono ?_; rintro e w' ⟨rfl, rfl⟩))
  go_ret
  exact ⟨rfl, (bl_drewN (Below.refl _ _) _).trans (drew_below D.out)⟩
end Go.Proofs.Ytlgpjcdlomhlcaa
