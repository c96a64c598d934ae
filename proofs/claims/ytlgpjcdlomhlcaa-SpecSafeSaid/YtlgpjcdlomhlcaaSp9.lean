
/-
  spec: Step; fuel, at.
-/
import Derived.Test.YtlgpjcdlomhlcaaSp7
import Derived.Test.YtlgpjcdlomhlcaaSp8
namespace Go.Proofs.Ytlgpjcdlomhlcaa
open Go.RowKit Go.ChangeShapes Go.WideShapes
set_option linter.unusedSimpArgs false
set_option linter.unusedVariables false

theorem row_rebase {w : World} {base base' c : Nat} {A : Option Addr} {l : List Int} (h : RowAt w base A c l) (hb : ∀ k, blk A = some k → base' ≤ k) : RowAt w base' A c l := by
  refine ⟨?_, h.2⟩
  obtain ⟨h1, h2⟩ := h.1
  refine ⟨h1, ?_⟩
  rcases h2 with h2 | ⟨g, cap, cur, hv, hb', r⟩
  · exact .inl h2
  · refine .inr ⟨g, cap, cur, hv, hb g ?_, r⟩
    simp only [Value.slice.injEq] at hv
    rw [hv.1]
    rfl
/-- A walk that is laid anew. -/
theorem WK.make {F : Nat → Prop} {w : World} {T : TypeId} {X : List Value} {I : Value} {s : St} {hp : List Int} {p : Pl} (h1 : RowAt w 0 p.A1 p.c1 s.stk) (h2 : RowAt w 0 p.A2 p.c2 s.out) (h3 : RowAt w 0 p.A3 p.c3 hp)
    (d12 : ∀ k, blk p.A1 = some k → blk p.A2 ≠ some k) (d13 : ∀ k, blk p.A1 = some k → blk p.A3 ≠ some k) (d23 : ∀ k, blk p.A2 = some k → blk p.A3 ≠ some k) (f1 : ∀ k, blk p.A1 = some k → ¬ F k) (f2 : ∀ k, blk p.A2 = some k → ¬ F k) (f3 : ∀ k, blk p.A3 = some k → ¬ F k)
    (fl : ∀ k, F k → k < w.heap.size) (ok : s.ok) (ty : T ≠ 25) : WK F (w.alloc (.cells (wkL I s hp.length p X) T)) w.heap.size T X I s hp p :=
  ⟨heap_alloc_new w _, row_below h1 ((Below.refl _ _).alloc (Nat.le_refl _) _), row_below h2 ((Below.refl _ _).alloc (Nat.le_refl _) _), row_below h3 ((Below.refl _ _).alloc (Nat.le_refl _) _), d12, d13, d23, fun e => Nat.lt_irrefl _ (fl _ e), f1, f2, f3, fun k hk => by have := fl k hk; simp; omega, ok, ty⟩
/-- A state that is handed over: its lists are new. -/
def StNew (base : Nat) (w : World) (s : St) (A1 : Option Addr) (c1 : Nat) (A2 : Option Addr) (c2 : Nat) : Prop := s.ok ∧ RowAt w base A1 c1 s.stk ∧ RowAt w base A2 c2 s.out ∧ ∀ k, blk A1 = some k → blk A2 ≠ some k
def St.zero : St := ⟨0, [], 0, 0, 0, 0, []⟩
def StepPost (r : Except Int St) (w : World) (e : Ending) (w' : World) : Prop := Below w.heap.size w w' ∧ match r with
  | .ok t => ∃ A1 c1 A2 c2, e = .returned (.tuple #[stV t A1 c1 A2 c2, .int .i64 0]) ∧ StNew w.heap.size w' t A1 c1 A2 c2
  | .error n => e = .returned (.tuple #[stV St.zero none 0 none 0, .int .i64 n])
theorem enter_step1 (args : Array Value) (w : World) : (callFunc 30 args).run Try.prog w = .ok (.enter 30 args) w := by kernel_rfl
theorem effF_err {n : Nat} {x : Ins3} {s : St} {k : Int} (h : effF n x s = .error k) : k = 2 ∨ k = 4 := by
  unfold effF at h
  by_cases e0 : x.op = 0
  · rw [if_pos e0] at h; cases h
  rw [if_neg e0] at h
  by_cases e1 : x.op = 1
  · rw [if_pos e1] at h; cases h
  rw [if_neg e1] at h
  by_cases e2 : x.op = 2
  · rw [if_pos e2] at h; cases h
  rw [if_neg e2] at h
  by_cases e3 : x.op = 3
  · rw [if_pos e3] at h; cases h
  rw [if_neg e3] at h
  by_cases e16 : x.op = 16
  · rw [if_pos e16] at h; cases h
  rw [if_neg e16] at h
  by_cases e17 : x.op = 17
  · rw [if_pos e17] at h; cases h
  rw [if_neg e17] at h
  by_cases e18 : x.op = 18
  · rw [if_pos e18] at h; cases h
  rw [if_neg e18] at h
  by_cases e27 : x.op = 27
  · rw [if_pos e27] at h
    by_cases e : s.out.length < 24
    · rw [if_pos e] at h; cases h
    · rw [if_neg e] at h; cases h; omega
  rw [if_neg e27] at h
  by_cases e19 : x.op = 19
  · rw [if_pos e19] at h
    unfold jumpF at h
    by_cases e : x.arg ≤ n
    · rw [if_pos e] at h; cases h
    · rw [if_neg e] at h; cases h; omega
  rw [if_neg e19] at h
  by_cases e20 : x.op = 20
  · rw [if_pos e20] at h
    by_cases e' : truthB (topI s.stk) = true
    · rw [if_pos e'] at h; cases h
    · rw [if_neg e'] at h
      unfold jumpF at h
      by_cases e : x.arg ≤ n
      · rw [if_pos e] at h; cases h
      · rw [if_neg e] at h; cases h; omega
  rw [if_neg e20] at h
  by_cases e12 : x.op = 12 ∨ x.op = 15
  · rw [if_pos e12] at h; cases h
  · rw [if_neg e12] at h; cases h
theorem stepF_err {l : List Ins3} {s : St} {k : Int} (h : stepF l s = .error k) : k = 2 ∨ k = 3 ∨ k = 4 ∨ k = 12 := by
  unfold stepF plainF at h
  split at h
  · split at h
    · cases h; omega
    · split at h
      · have := effF_err h; omega
      · cases h; omega
  · cases h; omega
set_option maxRecDepth 20000 in
set_option maxHeartbeats 8000000 in
theorem step_err (l : List Ins3) (c : Nat) (A : Option Addr) (hlc : l.length ≤ c) (hll : l.length ≤ 900) (s : St) (hs : s.ok) (hn : s.stk.length ≤ 800) (hro : s.out.length ≤ 800) (A1 : Option Addr) (c1 : Nat) (A2 : Option Addr) (c2 : Nat) (w : World) (h1 : Src w A1 c1 s.stk) (h2 : Src w A2 c2 s.out) (hi : InssAt w A l) (n : Int) (hr : stepF l s = .error n) :
    Calls Try.prog 10 #[.slice A l.length c, stV s A1 c1 A2 c2] w (StepPost (.error n) w) := by
  have HI := Lib.hid hi
  have HR := Lib.hid hr
  have hb0 : Below w.heap.size w ((w.alloc (.cells #[.int .i64 s.pc, .slice A1 s.stk.length c1, .int .u64 s.la, .int .u64 s.lb, .int .u64 s.lc, .int .u64 s.ld, .slice A2 s.out.length c2] 28)).alloc (.cells #[.int .i64 0, .slice none 0 0, .int .u64 0, .int .u64 0, .int .u64 0, .int .u64 0, .slice none 0 0] 28)) := ((Below.refl _ _).alloc (Nat.le_refl _) _).alloc (by simp) _
  have hsz : ((w.alloc (.cells #[.int .i64 s.pc, .slice A1 s.stk.length c1, .int .u64 s.la, .int .u64 s.lb, .int .u64 s.lc, .int .u64 s.ld, .slice A2 s.out.length c2] 28)).alloc (.cells #[.int .i64 0, .slice none 0 0, .int .u64 0, .int .u64 0, .int .u64 0, .int .u64 0, .slice none 0 0] 28)).heap.size = w.heap.size + 2 := by simp
  have G1 := Lib.hid (h1.below hb0)
  have G2 := Lib.hid (h2.below hb0)
  have B0 := Lib.hid hb0
  have SZ := Lib.hid hsz
  have Y0 := Lib.hid (show ((w.alloc (.cells #[.int .i64 s.pc, .slice A1 s.stk.length c1, .int .u64 s.la, .int .u64 s.lb, .int .u64 s.lc, .int .u64 s.ld, .slice A2 s.out.length c2] 28)).alloc (.cells #[.int .i64 0, .slice none 0 0, .int .u64 0, .int .u64 0, .int .u64 0, .int .u64 0, .slice none 0 0] 28)).heap[w.heap.size + 1]? = some (.cells #[.int .i64 0, .slice none 0 0, .int .u64 0, .int .u64 0, .int .u64 0, .int .u64 0, .slice none 0 0] 28 (0, 0)) from (congrArg _ (by simp)).trans (heap_alloc_new (w.alloc (.cells #[.int .i64 s.pc, .slice A1 s.stk.length c1, .int .u64 s.la, .int .u64 s.lb, .int .u64 s.lc, .int .u64 s.ld, .slice A2 s.out.length c2] 28)) (.cells #[.int .i64 0, .slice none 0 0, .int .u64 0, .int .u64 0, .int .u64 0, .int .u64 0, .slice none 0 0] 28)))
  have HS := Lib.hid hs
  clear hb0 h1 h2 hi hr hsz hs
  unfold stV stC
  go_enter Try.func10, Try.ntmps10
  go_wp2_with (go_at_call 28; refine (copied_sp s A1 c1 A2 c2 _ G1.out G2.out).mono ?_; rintro e w3 ⟨D1, d1, D2, d2, rfl, hr1, hr2, hd, hb⟩; unfold stV stC; rw [SZ.out] at hr1 hr2 hb; have R1 := Lib.hid hr1; have R2 := Lib.hid hr2; have D := Lib.hid hd; have B3 := Lib.hid hb; clear hr1 hr2 hd hb)
  have hfl : ∀ k, (fun k => k < w.heap.size + 2) k → k < w3.heap.size := fun k hk => by
    have a1 := B3.out.size
    rw [SZ.out] at a1
    have : k < w.heap.size + 2 := hk
    omega
  have hK4 := WK.make (F := fun k => k < w.heap.size + 2) (T := 72) (X := []) (I := .slice A l.length c) (s := s) (hp := []) (p := ⟨D1, d1, D2, d2, none, 0⟩) (row_base R1.out (Nat.zero_le _)) (row_base R2.out (Nat.zero_le _)) (row_nil w3 0) D.out (fun k _ e => by cases e) (fun k _ e => by cases e)
    (fun k hk e => by have a1 := (row_lt R1.out k hk).1; have : k < w.heap.size + 2 := e; omega) (fun k hk e => by have a1 := (row_lt R2.out k hk).1; have : k < w.heap.size + 2 := e; omega) (fun k hk e => by cases hk) hfl HS.out (by decide)
  have hK5 := hK4.box (.cells #[.pointer (some ⟨w3.heap.size, 0, none⟩)] 70)
  have e5 : (w3.alloc (.cells (wkL (.slice A l.length c) s 0 ⟨D1, d1, D2, d2, none, 0⟩ []) 72)).heap.size = w3.heap.size + 1 := by simp
  have hG5 := heap_alloc_new (w3.alloc (.cells (wkL (.slice A l.length c) s 0 ⟨D1, d1, D2, d2, none, 0⟩ []) 72)) (.cells #[.pointer (some ⟨w3.heap.size, 0, none⟩)] 70)
  change WK (Fb _ (w3.alloc (.cells (wkL (.slice A l.length c) s 0 ⟨D1, d1, D2, d2, none, 0⟩ []) 72)).heap.size) _ _ _ _ _ _ _ _ at hK5
  rw [e5] at hK5 hG5
  have hF5 : Fr (fun k => k < w.heap.size + 2) ((w.alloc (.cells #[.int .i64 s.pc, .slice A1 s.stk.length c1, .int .u64 s.la, .int .u64 s.lb, .int .u64 s.lc, .int .u64 s.ld, .slice A2 s.out.length c2] 28)).alloc (.cells #[.int .i64 0, .slice none 0 0, .int .u64 0, .int .u64 0, .int .u64 0, .int .u64 0, .slice none 0 0] 28)) ((w3.alloc (.cells (wkL (.slice A l.length c) s 0 ⟨D1, d1, D2, d2, none, 0⟩ []) 72)).alloc (.cells #[.pointer (some ⟨w3.heap.size, 0, none⟩)] 70)) := (Fr.below (by rw [SZ.out]; exact B3.out) (fun k hk => by rw [SZ.out]; exact hk)).trans ((Fr.below ((Below.refl _ _).alloc (Nat.le_refl _) _) hfl).trans (Fr.below ((Below.refl _ _).alloc (Nat.le_refl _) _) (fun k hk => Nat.lt_of_lt_of_le (hfl k hk) (by simp))))
  have K5 := Lib.hid hK5
  have G5 := Lib.hid hG5
  have F5 := Lib.hid hF5
  clear hK4 hK5 hG5 hF5 e5 hfl
  change Calls Try.prog _ _ ((w3.alloc (.cells (wkL (.slice A l.length c) s 0 ⟨D1, d1, D2, d2, none, 0⟩ []) 72)).alloc (.cells #[.pointer (some ⟨w3.heap.size, 0, none⟩)] 70)) _
  generalize ((w3.alloc (.cells (wkL (.slice A l.length c) s 0 ⟨D1, d1, D2, d2, none, 0⟩ []) 72)).alloc (.cells #[.pointer (some ⟨w3.heap.size, 0, none⟩)] 70)) = w5 at K5 G5 F5 ⊢
  have I5 : InsF (Fb (fun k => k < w.heap.size + 2) (w3.heap.size + 1)) w5 A l := by
    exact ⟨inss_below HI.out ⟨F5.out.os.trans B0.out.os, F5.out.tape.trans B0.out.tape, F5.out.output.trans B0.out.output, Nat.le_trans B0.out.size F5.out.size, fun k hk => (F5.out.block k (show k < w.heap.size + 2 by omega)).trans (B0.out.block k hk)⟩, (insF_of (F := Fb (fun k => k < w.heap.size + 2) (w3.heap.size + 1)) HI.out (fun k hk => .inl (show k < w.heap.size + 2 by omega))).2⟩
  have HF := step1_sp (w3.heap.size + 1) c A l hlc hll hn hro (w5.alloc (.cells #[.int .i64 0] 29)) (K5.out.box (.cells #[.int .i64 0] 29)) ⟨inss_below I5.1 ((Below.refl _ _).alloc (Nat.le_refl _) _), fun ad e hl => .inl (I5.2 ad e hl)⟩ (hp_alloc G5.out _) (.inl (.inr rfl))
  rw [HR.out] at HF
  refine (attempt_sp 30 #[.pointer (some ⟨w3.heap.size + 1, 0, none⟩)] enter_step1 _ _ _ w5 K5.out.fl HF).mono ?_
  rintro e w6 ⟨he, hf6, _⟩
  obtain rfl : e = .returned (.int .i64 n) := he
  have F6 := Lib.hid (F5.out.trans (hf6.mono (fun k hk => .inl hk)))
  have Y6 := Lib.hid (F6.out.hp Y0.out (show w.heap.size + 1 < w.heap.size + 2 by omega))
  have B6 := Lib.hid (show Below w.heap.size w w6 from ⟨F6.out.os.trans B0.out.os, F6.out.tape.trans B0.out.tape, F6.out.output.trans B0.out.output, Nat.le_trans B0.out.size F6.out.size, fun k hk => (F6.out.block k (show k < w.heap.size + 2 by omega)).trans (B0.out.block k hk)⟩)
  have r0 : w6.cell? ⟨w.heap.size + 1, 0, none⟩ = some (.int .i64 0) := hp_cell Y6.out 0
  have q0 := hp_frozen Y6.out 0
  have r1 : w6.cell? ⟨w.heap.size + 1, 1, none⟩ = some (.slice none 0 0) := hp_cell Y6.out 1
  have q1 := hp_frozen Y6.out 1
  have r2 : w6.cell? ⟨w.heap.size + 1, 2, none⟩ = some (.int .u64 0) := hp_cell Y6.out 2
  have q2 := hp_frozen Y6.out 2
  have r3 : w6.cell? ⟨w.heap.size + 1, 3, none⟩ = some (.int .u64 0) := hp_cell Y6.out 3
  have q3 := hp_frozen Y6.out 3
  have r4 : w6.cell? ⟨w.heap.size + 1, 4, none⟩ = some (.int .u64 0) := hp_cell Y6.out 4
  have q4 := hp_frozen Y6.out 4
  have r5 : w6.cell? ⟨w.heap.size + 1, 5, none⟩ = some (.int .u64 0) := hp_cell Y6.out 5
  have q5 := hp_frozen Y6.out 5
  have r6 : w6.cell? ⟨w.heap.size + 1, 6, none⟩ = some (.slice none 0 0) := hp_cell Y6.out 6
  have q6 := hp_frozen Y6.out 6
  have lY := hp_lt Y6.out
  have hn0 : n ≠ 0 := by have := stepF_err HR.out; omega
  have t1 : (n != 0) = true := by rw [bne_iff_ne]; exact hn0
  have t2 : (n == 0) = false := beq_eq_false_iff_ne.2 hn0
  clear hf6 HF I5 hn0
  go_wp2
  refine bodyPost_ret (by simp [results, Try.results10, go_sem, r0, r1, r2, r3, r4, r5, r6]; try rfl) rfl ?_
  exact ⟨(bl_new (bl_new (bl_new (bl_new (bl_new (bl_new (bl_new B6.out (by simp) _) (by simp) _) (by simp) _) (by simp) _) (by simp) _) (by simp) _) (by simp) _), rfl⟩
set_option maxRecDepth 20000 in
set_option maxHeartbeats 8000000 in
theorem step_ok (l : List Ins3) (c : Nat) (A : Option Addr) (hlc : l.length ≤ c) (hll : l.length ≤ 900) (s : St) (hs : s.ok) (hn : s.stk.length ≤ 800) (hro : s.out.length ≤ 800) (A1 : Option Addr) (c1 : Nat) (A2 : Option Addr) (c2 : Nat) (w : World) (h1 : Src w A1 c1 s.stk) (h2 : Src w A2 c2 s.out) (hi : InssAt w A l) (t : St) (hr : stepF l s = .ok t) :
    Calls Try.prog 10 #[.slice A l.length c, stV s A1 c1 A2 c2] w (StepPost (.ok t) w) := by
  have HI := Lib.hid hi
  have HR := Lib.hid hr
  have hb0 : Below w.heap.size w ((w.alloc (.cells #[.int .i64 s.pc, .slice A1 s.stk.length c1, .int .u64 s.la, .int .u64 s.lb, .int .u64 s.lc, .int .u64 s.ld, .slice A2 s.out.length c2] 28)).alloc (.cells #[.int .i64 0, .slice none 0 0, .int .u64 0, .int .u64 0, .int .u64 0, .int .u64 0, .slice none 0 0] 28)) := ((Below.refl _ _).alloc (Nat.le_refl _) _).alloc (by simp) _
  have hsz : ((w.alloc (.cells #[.int .i64 s.pc, .slice A1 s.stk.length c1, .int .u64 s.la, .int .u64 s.lb, .int .u64 s.lc, .int .u64 s.ld, .slice A2 s.out.length c2] 28)).alloc (.cells #[.int .i64 0, .slice none 0 0, .int .u64 0, .int .u64 0, .int .u64 0, .int .u64 0, .slice none 0 0] 28)).heap.size = w.heap.size + 2 := by simp
  have G1 := Lib.hid (h1.below hb0)
  have G2 := Lib.hid (h2.below hb0)
  have B0 := Lib.hid hb0
  have SZ := Lib.hid hsz
  have Y0 := Lib.hid (show ((w.alloc (.cells #[.int .i64 s.pc, .slice A1 s.stk.length c1, .int .u64 s.la, .int .u64 s.lb, .int .u64 s.lc, .int .u64 s.ld, .slice A2 s.out.length c2] 28)).alloc (.cells #[.int .i64 0, .slice none 0 0, .int .u64 0, .int .u64 0, .int .u64 0, .int .u64 0, .slice none 0 0] 28)).heap[w.heap.size + 1]? = some (.cells #[.int .i64 0, .slice none 0 0, .int .u64 0, .int .u64 0, .int .u64 0, .int .u64 0, .slice none 0 0] 28 (0, 0)) from (congrArg _ (by simp)).trans (heap_alloc_new (w.alloc (.cells #[.int .i64 s.pc, .slice A1 s.stk.length c1, .int .u64 s.la, .int .u64 s.lb, .int .u64 s.lc, .int .u64 s.ld, .slice A2 s.out.length c2] 28)) (.cells #[.int .i64 0, .slice none 0 0, .int .u64 0, .int .u64 0, .int .u64 0, .int .u64 0, .slice none 0 0] 28)))
  have HS := Lib.hid hs
  clear hb0 h1 h2 hi hr hsz hs
  unfold stV stC
  go_enter Try.func10, Try.ntmps10
  go_wp2_with (go_at_call 28; refine (copied_sp s A1 c1 A2 c2 _ G1.out G2.out).mono ?_; rintro e w3 ⟨D1, d1, D2, d2, rfl, hr1, hr2, hd, hb⟩; unfold stV stC; rw [SZ.out] at hr1 hr2 hb; have R1 := Lib.hid hr1; have R2 := Lib.hid hr2; have D := Lib.hid hd; have B3 := Lib.hid hb; clear hr1 hr2 hd hb)
  have hfl : ∀ k, (fun k => k < w.heap.size + 2) k → k < w3.heap.size := fun k hk => by
    have a1 := B3.out.size
    rw [SZ.out] at a1
    have : k < w.heap.size + 2 := hk
    omega
  have hK4 := WK.make (F := fun k => k < w.heap.size + 2) (T := 72) (X := []) (I := .slice A l.length c) (s := s) (hp := []) (p := ⟨D1, d1, D2, d2, none, 0⟩) (row_base R1.out (Nat.zero_le _)) (row_base R2.out (Nat.zero_le _)) (row_nil w3 0) D.out (fun k _ e => by cases e) (fun k _ e => by cases e)
    (fun k hk e => by have a1 := (row_lt R1.out k hk).1; have : k < w.heap.size + 2 := e; omega) (fun k hk e => by have a1 := (row_lt R2.out k hk).1; have : k < w.heap.size + 2 := e; omega) (fun k hk e => by cases hk) hfl HS.out (by decide)
  have hK5 := hK4.box (.cells #[.pointer (some ⟨w3.heap.size, 0, none⟩)] 70)
  have e5 : (w3.alloc (.cells (wkL (.slice A l.length c) s 0 ⟨D1, d1, D2, d2, none, 0⟩ []) 72)).heap.size = w3.heap.size + 1 := by simp
  have hG5 := heap_alloc_new (w3.alloc (.cells (wkL (.slice A l.length c) s 0 ⟨D1, d1, D2, d2, none, 0⟩ []) 72)) (.cells #[.pointer (some ⟨w3.heap.size, 0, none⟩)] 70)
  change WK (Fb _ (w3.alloc (.cells (wkL (.slice A l.length c) s 0 ⟨D1, d1, D2, d2, none, 0⟩ []) 72)).heap.size) _ _ _ _ _ _ _ _ at hK5
  rw [e5] at hK5 hG5
  have hF5 : Fr (fun k => k < w.heap.size + 2) ((w.alloc (.cells #[.int .i64 s.pc, .slice A1 s.stk.length c1, .int .u64 s.la, .int .u64 s.lb, .int .u64 s.lc, .int .u64 s.ld, .slice A2 s.out.length c2] 28)).alloc (.cells #[.int .i64 0, .slice none 0 0, .int .u64 0, .int .u64 0, .int .u64 0, .int .u64 0, .slice none 0 0] 28)) ((w3.alloc (.cells (wkL (.slice A l.length c) s 0 ⟨D1, d1, D2, d2, none, 0⟩ []) 72)).alloc (.cells #[.pointer (some ⟨w3.heap.size, 0, none⟩)] 70)) := (Fr.below (by rw [SZ.out]; exact B3.out) (fun k hk => by rw [SZ.out]; exact hk)).trans ((Fr.below ((Below.refl _ _).alloc (Nat.le_refl _) _) hfl).trans (Fr.below ((Below.refl _ _).alloc (Nat.le_refl _) _) (fun k hk => Nat.lt_of_lt_of_le (hfl k hk) (by simp))))
  have K5 := Lib.hid hK5
  have G5 := Lib.hid hG5
  have F5 := Lib.hid hF5
  clear hK4 hK5 hG5 hF5 e5 hfl
  change Calls Try.prog _ _ ((w3.alloc (.cells (wkL (.slice A l.length c) s 0 ⟨D1, d1, D2, d2, none, 0⟩ []) 72)).alloc (.cells #[.pointer (some ⟨w3.heap.size, 0, none⟩)] 70)) _
  generalize ((w3.alloc (.cells (wkL (.slice A l.length c) s 0 ⟨D1, d1, D2, d2, none, 0⟩ []) 72)).alloc (.cells #[.pointer (some ⟨w3.heap.size, 0, none⟩)] 70)) = w5 at K5 G5 F5 ⊢
  have I5 : InsF (Fb (fun k => k < w.heap.size + 2) (w3.heap.size + 1)) w5 A l := by
    exact ⟨inss_below HI.out ⟨F5.out.os.trans B0.out.os, F5.out.tape.trans B0.out.tape, F5.out.output.trans B0.out.output, Nat.le_trans B0.out.size F5.out.size, fun k hk => (F5.out.block k (show k < w.heap.size + 2 by omega)).trans (B0.out.block k hk)⟩, (insF_of (F := Fb (fun k => k < w.heap.size + 2) (w3.heap.size + 1)) HI.out (fun k hk => .inl (show k < w.heap.size + 2 by omega))).2⟩
  have HF := step1_sp (w3.heap.size + 1) c A l hlc hll hn hro (w5.alloc (.cells #[.int .i64 0] 29)) (K5.out.box (.cells #[.int .i64 0] 29)) ⟨inss_below I5.1 ((Below.refl _ _).alloc (Nat.le_refl _) _), fun ad e hl => .inl (I5.2 ad e hl)⟩ (hp_alloc G5.out _) (.inl (.inr rfl))
  rw [HR.out] at HF
  refine (attempt_sp 30 #[.pointer (some ⟨w3.heap.size + 1, 0, none⟩)] enter_step1 _ _ _ w5 K5.out.fl HF).mono ?_
  rintro e w6 ⟨he, hf6, hm⟩
  obtain rfl : e = .returned (.int .i64 0) := he
  obtain ⟨w0, ⟨p', hk⟩, he0, hw6⟩ := hm
  have hk6 := (hk.foreign (b := w5.heap.size) (.inr rfl) 0 (.int .i64 0)).less (fun k hk => .inl hk)
  rw [← hw6] at hk6
  have K6 := Lib.hid hk6
  have G6 := Lib.hid (hf6.hp G5.out (.inr rfl))
  clear hk hw6 he0 hk6
  have F6 := Lib.hid (F5.out.trans (hf6.mono (fun k hk => .inl hk)))
  have Y6 := Lib.hid (F6.out.hp Y0.out (show w.heap.size + 1 < w.heap.size + 2 by omega))
  have B6 := Lib.hid (show Below w.heap.size w w6 from ⟨F6.out.os.trans B0.out.os, F6.out.tape.trans B0.out.tape, F6.out.output.trans B0.out.output, Nat.le_trans B0.out.size F6.out.size, fun k hk => (F6.out.block k (show k < w.heap.size + 2 by omega)).trans (B0.out.block k hk)⟩)
  have r0 : w6.cell? ⟨w.heap.size + 1, 0, none⟩ = some (.int .i64 0) := hp_cell Y6.out 0
  have q0 := hp_frozen Y6.out 0
  have r1 : w6.cell? ⟨w.heap.size + 1, 1, none⟩ = some (.slice none 0 0) := hp_cell Y6.out 1
  have q1 := hp_frozen Y6.out 1
  have r2 : w6.cell? ⟨w.heap.size + 1, 2, none⟩ = some (.int .u64 0) := hp_cell Y6.out 2
  have q2 := hp_frozen Y6.out 2
  have r3 : w6.cell? ⟨w.heap.size + 1, 3, none⟩ = some (.int .u64 0) := hp_cell Y6.out 3
  have q3 := hp_frozen Y6.out 3
  have r4 : w6.cell? ⟨w.heap.size + 1, 4, none⟩ = some (.int .u64 0) := hp_cell Y6.out 4
  have q4 := hp_frozen Y6.out 4
  have r5 : w6.cell? ⟨w.heap.size + 1, 5, none⟩ = some (.int .u64 0) := hp_cell Y6.out 5
  have q5 := hp_frozen Y6.out 5
  have r6 : w6.cell? ⟨w.heap.size + 1, 6, none⟩ = some (.slice none 0 0) := hp_cell Y6.out 6
  have q6 := hp_frozen Y6.out 6
  have lY := hp_lt Y6.out
  have g0 : w6.cell? ⟨w3.heap.size + 1, 0, none⟩ = some (.pointer (some ⟨w3.heap.size, 0, none⟩)) := hp_cell G6.out 0
  obtain ⟨_, k1, k2, k3, k4, k5, k6, k7, _⟩ := K6.out.at
  have lg := K6.out.lt
  have lg1 := hp_lt G6.out
  have n1 : w3.heap.size ≠ w.heap.size + 1 := fun e => K6.out.fg (.inl (show w3.heap.size < w.heap.size + 2 by omega))
  have n1' : w.heap.size + 1 ≠ w3.heap.size := fun e => n1 e.symm
  have n2 : w3.heap.size + 1 ≠ w.heap.size + 1 := fun e => K6.out.fg (.inl (show w3.heap.size < w.heap.size + 2 by omega))
  have n2' : w.heap.size + 1 ≠ w3.heap.size + 1 := fun e => n2 e.symm
  clear hf6 HF I5
  go_wp2
  refine bodyPost_ret (by simp [results, Try.results10, go_sem, r0, r1, r2, r3, r4, r5, r6]; try rfl) rfl ?_
  have M1 : ∀ k, blk p'.A1 = some k → k ≠ w.heap.size + 1 := fun k hk e => K6.out.f1 k hk (.inl (show k < w.heap.size + 2 by omega))
  have M2 : ∀ k, blk p'.A2 = some k → k ≠ w.heap.size + 1 := fun k hk e => K6.out.f2 k hk (.inl (show k < w.heap.size + 2 by omega))
  have P1 := row_rebase (base' := w.heap.size) K6.out.stk (fun k hk => by
    rcases Nat.lt_or_ge k w.heap.size with h | h
    · exact absurd (.inl (show k < w.heap.size + 2 by omega)) (K6.out.f1 k hk)
    · exact h)
  have P2 := row_rebase (base' := w.heap.size) K6.out.out (fun k hk => by
    rcases Nat.lt_or_ge k w.heap.size with h | h
    · exact absurd (.inl (show k < w.heap.size + 2 by omega)) (K6.out.f2 k hk)
    · exact h)
  exact ⟨(bl_new (bl_new (bl_new (bl_new (bl_new (bl_new (bl_new B6.out (by simp) _) (by simp) _) (by simp) _) (by simp) _) (by simp) _) (by simp) _) (by simp) _), p'.A1, p'.c1, p'.A2, p'.c2, rfl, K6.out.ok, (row_ne (row_ne (row_ne (row_ne (row_ne (row_ne (row_ne P1 M1 _ _) M1 _ _) M1 _ _) M1 _ _) M1 _ _) M1 _ _) M1 _ _), (row_ne (row_ne (row_ne (row_ne (row_ne (row_ne (row_ne P2 M2 _ _) M2 _ _) M2 _ _) M2 _ _) M2 _ _) M2 _ _) M2 _ _), K6.out.d12⟩
theorem step_sp (l : List Ins3) (c : Nat) (A : Option Addr) (hlc : l.length ≤ c) (hll : l.length ≤ 900) (s : St) (hs : s.ok) (hn : s.stk.length ≤ 800) (hro : s.out.length ≤ 800) (A1 : Option Addr) (c1 : Nat) (A2 : Option Addr) (c2 : Nat) (w : World) (h1 : Src w A1 c1 s.stk) (h2 : Src w A2 c2 s.out) (hi : InssAt w A l) :
    Calls Try.prog 10 #[.slice A l.length c, stV s A1 c1 A2 c2] w (StepPost (stepF l s) w) := by
  cases hr : stepF l s with
  | error n => exact step_err l c A hlc hll s hs hn hro A1 c1 A2 c2 w h1 h2 hi n hr
  | ok t => exact step_ok l c A hlc hll s hs hn hro A1 c1 A2 c2 w h1 h2 hi t hr
def fuelF (n : Int) : Int := min (max n 0) 300
theorem fuel_sp (n : Int) (w : World) : Calls Try.prog 45 #[.int .i64 n] w fun e w' => e = .returned (.int .i64 (fuelF n)) ∧ w = w' := by
  unfold fuelF
  go_enter Try.func45, Try.ntmps45
  go_wp2
  all_goals
    go_ret
    refine ⟨?_, rfl⟩
    first | rfl | (show Ending.returned (Value.int IntKind.i64 _) = Ending.returned (Value.int IntKind.i64 _); congr 2; omega)
end Go.Proofs.Ytlgpjcdlomhlcaa
