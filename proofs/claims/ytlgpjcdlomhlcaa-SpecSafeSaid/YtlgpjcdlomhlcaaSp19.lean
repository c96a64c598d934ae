
/-
  spec: Plain.
-/
import Derived.Test.YtlgpjcdlomhlcaaSp18
import Derived.Test.YtlgpjcdlomhlcaaSp16
import Derived.Deep.CutBlock
namespace Go.Proofs.Ytlgpjcdlomhlcaa
open Go.RowKit Go.ChangeShapes Go.WideShapes
set_option linter.unusedSimpArgs false
set_option linter.unusedVariables false

/-- How far a thread goes up to a block, or the end. -/
def goF (l : List Ins3) : Nat → St → Oc
  | 0, s => if atI l s.pc = 21 then ⟨4, s, [], [], 0⟩ else if atI l s.pc = 28 then ⟨1, s, [], [], 0⟩ else ⟨3, s, [], [], 11⟩
  | k + 1, s => if atI l s.pc = 21 then ⟨4, s, [], [], 0⟩ else if atI l s.pc = 28 then ⟨1, s, [], [], 0⟩ else match stepF l s with
    | .error e => ⟨3, s, [], [], e⟩
    | .ok t => goF l k t
theorem effs_of (o : Int) : popsI o ≤ 2 ∧ pushI o ≤ 2 := ⟨(effs_small o).1.2, (effs_small o).2.2⟩
theorem effF_deep {n : Nat} {o ag v : Int} {s t : St} (h0 : 0 ≤ o) (h1 : o < 29) (hs : specI o = false) (hf : fitI o s.stk.length = true) (h : effF n ⟨o, ag, v⟩ s = .ok t) : (t.stk.length : Int) = s.stk.length - popsI o + pushI o := by
  have hp := fit_pops hf
  clear hf
  rcases plain_ops h0 h1 hs with rfl | rfl | rfl | rfl | rfl | rfl | rfl | rfl | rfl | rfl | rfl | rfl | rfl | rfl | rfl | rfl | rfl | rfl
  case' inr.inr.inr.inr.inr.inr.inr.inr.inr.inr.inr.inr.inr.inr.inr.inr.inl =>
    have e1 : popsI 20 = 1 := by decide
    have e2 : pushI 20 = 0 := by decide
    rw [e1] at hp
    rw [e1, e2]
    have hd : s.stk.dropLast.length = s.stk.length - 1 := by simp
    unfold effF jumpF at h
    simp only [Int.reduceEq, if_false, if_true] at h
    split at h
    · simp only [Except.ok.injEq] at h; subst h; simp only [hd]; omega
    · split at h
      · simp only [Except.ok.injEq] at h; subst h; simp only [hd]; omega
      · cases h
  case' inr.inr.inr.inr.inr.inr.inr.inr.inr.inr.inr.inr.inr.inr.inr.inl =>
    have e1 : popsI 19 = 0 := by decide
    have e2 : pushI 19 = 0 := by decide
    rw [e1, e2]
    unfold effF jumpF at h
    simp only [Int.reduceEq, if_false, if_true] at h
    split at h
    · simp only [Except.ok.injEq] at h; subst h; simp
    · cases h
  case' inr.inr.inr.inr.inr.inr.inr.inr.inr.inr.inr.inr.inr.inr.inr.inr.inr =>
    have e1 : popsI 27 = 1 := by decide
    have e2 : pushI 27 = 0 := by decide
    rw [e1] at hp
    rw [e1, e2]
    unfold effF at h
    simp only [Int.reduceEq, if_false, if_true] at h
    split at h
    · simp only [Except.ok.injEq] at h; subst h; simp only [List.length_dropLast]; omega
    · cases h
  all_goals
    unfold effF at h
    simp only [Int.reduceEq, if_false, if_true, or_false, or_true, false_or, true_or, Except.ok.injEq] at h
    subst h
    simp only [show popsI 0 = 0 from by decide, show pushI 0 = 0 from by decide, show popsI 1 = 0 from by decide, show pushI 1 = 1 from by decide, show popsI 2 = 0 from by decide, show pushI 2 = 1 from by decide, show popsI 3 = 1 from by decide, show pushI 3 = 0 from by decide, show popsI 8 = 2 from by decide, show pushI 8 = 1 from by decide, show popsI 9 = 2 from by decide, show pushI 9 = 1 from by decide, show popsI 10 = 2 from by decide, show pushI 10 = 1 from by decide, show popsI 11 = 2 from by decide, show pushI 11 = 1 from by decide, show popsI 12 = 1 from by decide, show pushI 12 = 1 from by decide, show popsI 13 = 2 from by decide, show pushI 13 = 1 from by decide, show popsI 14 = 2 from by decide, show pushI 14 = 1 from by decide, show popsI 15 = 1 from by decide, show pushI 15 = 1 from by decide, show popsI 16 = 1 from by decide, show pushI 16 = 2 from by decide, show popsI 17 = 1 from by decide, show pushI 17 = 0 from by decide, show popsI 18 = 2 from by decide, show pushI 18 = 2 from by decide] at hp ⊢
    try simp only [List.length_append, List.length_dropLast, List.length_cons, List.length_nil]
    omega
/-- How deep the stack is behind an instruction. -/
theorem stepF_deep {w : World} {A : Option Addr} {l : List Ins3} {s t : St} (hi : InssAt w A l) (h : stepF l s = .ok t) : hereB l s.pc = true ∧ specI (xn l s.pc.toNat).op = false ∧ (t.stk.length : Int) = s.stk.length - popsI (xn l s.pc.toNat).op + pushI (xn l s.pc.toNat).op ∧ t.stk.length ≤ 12 := by
  unfold stepF at h
  split at h
  case isFalse => cases h
  rename_i hh
  obtain ⟨q1, q2, q3⟩ := here_pc hh
  have hok := ins_ok hi (j := s.pc.toNat) (by omega)
  obtain ⟨r1, r2, r3⟩ := right_parts q3
  generalize xn l s.pc.toNat = x at *
  obtain ⟨o, ag, v⟩ := x
  unfold plainF at h
  split at h
  · cases h
  rename_i hs
  split at h
  case isFalse => cases h
  rename_i hf
  have hs' : specI o = false := by simpa using hs
  have hd := effF_deep (s := { s with pc := s.pc + 1 }) hok.1.1 r1 hs' hf h
  have hp := fit_pops hf
  have hf2 : decide (((s.stk.length : Nat) : Int) - popsI o ≤ 12 - pushI o) = true := by
    unfold fitI at hf
    rw [Bool.and_eq_true] at hf
    exact hf.2
  have hf3 := of_decide_eq_true hf2
  dsimp only at hd hs hp ⊢
  exact ⟨hh, hs', hd, by omega⟩
theorem effF_out {n : Nat} {x : Ins3} {s t : St} (h : effF n x s = .ok t) : t.out.length ≤ max s.out.length 24 := by
  unfold effF at h
  by_cases e0 : x.op = 0
  · rw [if_pos e0] at h
    simp only [Except.ok.injEq] at h
    subst h
    try simp [locSet_out]
    try omega
  rw [if_neg e0] at h
  by_cases e1 : x.op = 1
  · rw [if_pos e1] at h
    simp only [Except.ok.injEq] at h
    subst h
    try simp [locSet_out]
    try omega
  rw [if_neg e1] at h
  by_cases e2 : x.op = 2
  · rw [if_pos e2] at h
    simp only [Except.ok.injEq] at h
    subst h
    try simp [locSet_out]
    try omega
  rw [if_neg e2] at h
  by_cases e3 : x.op = 3
  · rw [if_pos e3] at h
    simp only [Except.ok.injEq] at h
    subst h
    try simp [locSet_out]
    try omega
  rw [if_neg e3] at h
  by_cases e16 : x.op = 16
  · rw [if_pos e16] at h
    simp only [Except.ok.injEq] at h
    subst h
    try simp [locSet_out]
    try omega
  rw [if_neg e16] at h
  by_cases e17 : x.op = 17
  · rw [if_pos e17] at h
    simp only [Except.ok.injEq] at h
    subst h
    try simp [locSet_out]
    try omega
  rw [if_neg e17] at h
  by_cases e18 : x.op = 18
  · rw [if_pos e18] at h
    simp only [Except.ok.injEq] at h
    subst h
    try simp [locSet_out]
    try omega
  rw [if_neg e18] at h
  by_cases e27 : x.op = 27
  · rw [if_pos e27] at h
    by_cases e : s.out.length < 24
    · rw [if_pos e] at h
      simp only [Except.ok.injEq] at h
      subst h
      simp
      omega
    · rw [if_neg e] at h; cases h
  rw [if_neg e27] at h
  have hj : ∀ (k : Nat) (tg : Int) (s' : St), jumpF k tg s' = .ok t → t.out = s'.out := by
    intro k tg s' h
    unfold jumpF at h
    split at h
    · simp only [Except.ok.injEq] at h
      subst h
      rfl
    · cases h
  by_cases e19 : x.op = 19
  · rw [if_pos e19] at h
    rw [hj _ _ _ h]
    omega
  rw [if_neg e19] at h
  by_cases e20 : x.op = 20
  · rw [if_pos e20] at h
    by_cases e' : truthB (topI s.stk) = true
    · rw [if_pos e'] at h
      simp only [Except.ok.injEq] at h
      subst h
      simp
      try omega
    · rw [if_neg e'] at h
      rw [hj _ _ _ h]
      simp
      try omega
  rw [if_neg e20] at h
  by_cases e12 : x.op = 12 ∨ x.op = 15
  · rw [if_pos e12] at h
    simp only [Except.ok.injEq] at h
    subst h
    simp
    try omega
  · rw [if_neg e12] at h
    simp only [Except.ok.injEq] at h
    subst h
    simp
    try omega
theorem stepF_len {w : World} {A : Option Addr} {l : List Ins3} {s t : St} (hi : InssAt w A l) (h : stepF l s = .ok t) (ho : s.out.length ≤ 100) : t.stk.length ≤ 100 ∧ t.out.length ≤ 100 := by
  have hd := (stepF_deep hi h).2.2.2
  refine ⟨by omega, ?_⟩
  unfold stepF plainF at h
  split at h
  · split at h
    · cases h
    · split at h
      · have := effF_out h
        dsimp only at this
        omega
      · cases h
  · cases h
/-- Plain's outcome stands in block g, its result's place in block r; both its lists are new. -/
structure PS (W w : World) (g r : Nat) (s : St) (A1 : Option Addr) (c1 : Nat) (A2 : Option Addr) (c2 : Nat) : Prop where
  hg : w.heap[g]? = some (.cells (ocC ⟨0, s, [], [], 0⟩ A1 c1 A2 c2 none 0 none 0) 46 (0, 0))
  hr : w.heap[r]? = some (.cells (ocC ⟨0, St.zero, [], [], 0⟩ none 0 none 0 none 0 none 0) 46 (0, 0))
  ok : s.ok
  stk : RowAt w W.heap.size A1 c1 s.stk
  out : RowAt w W.heap.size A2 c2 s.out
  bl : Below W.heap.size W w
  gb : W.heap.size ≤ g
  rb : W.heap.size ≤ r
  ne : g ≠ r
  n1 : s.stk.length ≤ 100
  n2 : s.out.length ≤ 100
theorem PS.below {W w w1 : World} {g r : Nat} {s : St} {A1 : Option Addr} {c1 : Nat} {A2 : Option Addr} {c2 : Nat} (h : PS W w g r s A1 c1 A2 c2) (hb : Below w.heap.size w w1) : PS W w1 g r s A1 c1 A2 c2 :=
  ⟨hp_below h.hg hb, hp_below h.hr hb, h.ok, row_below h.stk hb, row_below h.out hb, h.bl.trans (hb.mono h.bl.size), h.gb, h.rb, h.ne, h.n1, h.n2⟩
theorem PS.put {W w : World} {g r : Nat} {s t : St} {A1 : Option Addr} {c1 : Nat} {A2 : Option Addr} {c2 : Nat} {C1 : Option Addr} {e1 : Nat} {C2 : Option Addr} {e2 : Nat} (h : PS W w g r s A1 c1 A2 c2) (hok : t.ok) (r1 : RowAt w W.heap.size C1 e1 t.stk) (r2 : RowAt w W.heap.size C2 e2 t.out) (n1 : t.stk.length ≤ 100) (n2 : t.out.length ≤ 100) :
    PS W ((((((((w).setCell ⟨g, 1, none⟩ (.int .i64 t.pc)).setCell ⟨g, 2, none⟩ (.slice C1 t.stk.length e1)).setCell ⟨g, 3, none⟩ (.int .u64 t.la)).setCell ⟨g, 4, none⟩ (.int .u64 t.lb)).setCell ⟨g, 5, none⟩ (.int .u64 t.lc)).setCell ⟨g, 6, none⟩ (.int .u64 t.ld)).setCell ⟨g, 7, none⟩ (.slice C2 t.out.length e2)) g r t C1 e1 C2 e2 := by
  have m1 : ∀ k, blk C1 = some k → k ≠ g := fun k hk => by obtain ⟨cs, hc⟩ := row_typed r1 k hk; exact hp_ne hc h.hg (by decide)
  have m2 : ∀ k, blk C2 = some k → k ≠ g := fun k hk => by obtain ⟨cs, hc⟩ := row_typed r2 k hk; exact hp_ne hc h.hg (by decide)
  have hf : Fr (fun k => k ≠ g) w ((((((((w).setCell ⟨g, 1, none⟩ (.int .i64 t.pc)).setCell ⟨g, 2, none⟩ (.slice C1 t.stk.length e1)).setCell ⟨g, 3, none⟩ (.int .u64 t.la)).setCell ⟨g, 4, none⟩ (.int .u64 t.lb)).setCell ⟨g, 5, none⟩ (.int .u64 t.lc)).setCell ⟨g, 6, none⟩ (.int .u64 t.ld)).setCell ⟨g, 7, none⟩ (.slice C2 t.out.length e2)) := (((((((Fr.refl (fun k => k ≠ g) w).trans (Fr.set _ (fun e => e rfl) _ _)).trans (Fr.set _ (fun e => e rfl) _ _)).trans (Fr.set _ (fun e => e rfl) _ _)).trans (Fr.set _ (fun e => e rfl) _ _)).trans (Fr.set _ (fun e => e rfl) _ _)).trans (Fr.set _ (fun e => e rfl) _ _)).trans (Fr.set _ (fun e => e rfl) _ _)
  have h1 := hp_put (cs' := #[.int .u8 0, .int .i64 t.pc, .slice A1 s.stk.length c1, .int .u64 s.la, .int .u64 s.lb, .int .u64 s.lc, .int .u64 s.ld, .slice A2 s.out.length c2, .slice none 0 0, .slice none 0 0, .int .i64 0]) h.hg 1 (.int .i64 t.pc) (by simp [ocC])
  have h2 := hp_put (cs' := #[.int .u8 0, .int .i64 t.pc, .slice C1 t.stk.length e1, .int .u64 s.la, .int .u64 s.lb, .int .u64 s.lc, .int .u64 s.ld, .slice A2 s.out.length c2, .slice none 0 0, .slice none 0 0, .int .i64 0]) h1 2 (.slice C1 t.stk.length e1) (by simp [ocC])
  have h3 := hp_put (cs' := #[.int .u8 0, .int .i64 t.pc, .slice C1 t.stk.length e1, .int .u64 t.la, .int .u64 s.lb, .int .u64 s.lc, .int .u64 s.ld, .slice A2 s.out.length c2, .slice none 0 0, .slice none 0 0, .int .i64 0]) h2 3 (.int .u64 t.la) (by simp [ocC])
  have h4 := hp_put (cs' := #[.int .u8 0, .int .i64 t.pc, .slice C1 t.stk.length e1, .int .u64 t.la, .int .u64 t.lb, .int .u64 s.lc, .int .u64 s.ld, .slice A2 s.out.length c2, .slice none 0 0, .slice none 0 0, .int .i64 0]) h3 4 (.int .u64 t.lb) (by simp [ocC])
  have h5 := hp_put (cs' := #[.int .u8 0, .int .i64 t.pc, .slice C1 t.stk.length e1, .int .u64 t.la, .int .u64 t.lb, .int .u64 t.lc, .int .u64 s.ld, .slice A2 s.out.length c2, .slice none 0 0, .slice none 0 0, .int .i64 0]) h4 5 (.int .u64 t.lc) (by simp [ocC])
  have h6 := hp_put (cs' := #[.int .u8 0, .int .i64 t.pc, .slice C1 t.stk.length e1, .int .u64 t.la, .int .u64 t.lb, .int .u64 t.lc, .int .u64 t.ld, .slice A2 s.out.length c2, .slice none 0 0, .slice none 0 0, .int .i64 0]) h5 6 (.int .u64 t.ld) (by simp [ocC])
  have h7 := hp_put (cs' := #[.int .u8 0, .int .i64 t.pc, .slice C1 t.stk.length e1, .int .u64 t.la, .int .u64 t.lb, .int .u64 t.lc, .int .u64 t.ld, .slice C2 t.out.length e2, .slice none 0 0, .slice none 0 0, .int .i64 0]) h6 7 (.slice C2 t.out.length e2) (by simp [ocC])
  exact ⟨h7, hf.hp h.hr (fun e => h.ne e.symm), hok, row_fr r1 hf m1, row_fr r2 hf m2, (bl_new (bl_new (bl_new (bl_new (bl_new (bl_new (bl_new h.bl h.gb _) h.gb _) h.gb _) h.gb _) h.gb _) h.gb _) h.gb _), h.gb, h.rb, h.ne, n1, n2⟩
theorem PS.m1 {W w : World} {g r : Nat} {s : St} {A1 : Option Addr} {c1 : Nat} {A2 : Option Addr} {c2 : Nat} (h : PS W w g r s A1 c1 A2 c2) : ∀ k, blk A1 = some k → k ≠ g ∧ k ≠ r := fun k hk => by
  obtain ⟨cs, hc⟩ := row_typed h.stk k hk
  exact ⟨hp_ne hc h.hg (by decide), hp_ne hc h.hr (by decide)⟩
theorem PS.m2 {W w : World} {g r : Nat} {s : St} {A1 : Option Addr} {c1 : Nat} {A2 : Option Addr} {c2 : Nat} (h : PS W w g r s A1 c1 A2 c2) : ∀ k, blk A2 = some k → k ≠ g ∧ k ≠ r := fun k hk => by
  obtain ⟨cs, hc⟩ := row_typed h.out k hk
  exact ⟨hp_ne hc h.hg (by decide), hp_ne hc h.hr (by decide)⟩
theorem grow_nil {t : TypeId} (w : World) : GRow t w none 0 [] := ⟨World.ownsRow_nil w 0 _ 1, fun v hv => (List.not_mem_nil hv).elim⟩
theorem hereB_of {l : List Ins3} {pc : Int} (h : atI l pc ≠ 0) : hereB l pc = true := by
  unfold atI at h
  cases hh : hereB l pc with
  | true => rfl
  | false => rw [hh] at h; exact absurd rfl h
set_option maxRecDepth 20000 in
set_option maxHeartbeats 8000000 in
theorem plain_all (l : List Ins3) (c : Nat) (A : Option Addr) (hlc : l.length ≤ c) (hll : l.length ≤ 900) (s : St) (hs : s.ok) (most : Int) (hn : s.stk.length ≤ 100) (hro : s.out.length ≤ 100) (A1 : Option Addr) (c1 : Nat) (A2 : Option Addr) (c2 : Nat) (w : World) (h1 : Src w A1 c1 s.stk) (h2 : Src w A2 c2 s.out) (hi : InssAt w A l) :
    Calls Try.prog 21 #[.slice A l.length c, stV s A1 c1 A2 c2, .int .i64 most] w (OcPost (goF l (fuelF most).toNat s) w) := by
  have HI := Lib.hid hi
  have G1 := Lib.hid h1
  have G2 := Lib.hid h2
  have HS := Lib.hid hs
  have HN := Lib.hid hn
  have HO := Lib.hid hro
  clear h1 h2 hi hs hn hro
  have hb0 : Below w.heap.size w ((w.alloc (.cells #[.int .i64 s.pc, .slice A1 s.stk.length c1, .int .u64 s.la, .int .u64 s.lb, .int .u64 s.lc, .int .u64 s.ld, .slice A2 s.out.length c2] 28)).alloc (.cells (ocC ⟨0, St.zero, [], [], 0⟩ none 0 none 0 none 0 none 0) 46)) := ((Below.refl _ _).alloc (Nat.le_refl _) _).alloc (by simp) _
  have Y0 := Lib.hid (show ((w.alloc (.cells #[.int .i64 s.pc, .slice A1 s.stk.length c1, .int .u64 s.la, .int .u64 s.lb, .int .u64 s.lc, .int .u64 s.ld, .slice A2 s.out.length c2] 28)).alloc (.cells (ocC ⟨0, St.zero, [], [], 0⟩ none 0 none 0 none 0 none 0) 46)).heap[w.heap.size + 1]? = some (.cells (ocC ⟨0, St.zero, [], [], 0⟩ none 0 none 0 none 0 none 0) 46 (0, 0)) from (congrArg _ (by simp)).trans (heap_alloc_new (w.alloc (.cells #[.int .i64 s.pc, .slice A1 s.stk.length c1, .int .u64 s.la, .int .u64 s.lb, .int .u64 s.lc, .int .u64 s.ld, .slice A2 s.out.length c2] 28)) (.cells (ocC ⟨0, St.zero, [], [], 0⟩ none 0 none 0 none 0 none 0) 46)))
  have B0 := Lib.hid hb0
  clear hb0
  unfold stV stC
  go_enter Try.func21, Try.ntmps21
  go_wp2_with (first | (go_at_call 28; refine (copied_sp s A1 c1 A2 c2 _ (G1.out.below B0.out) (G2.out.below B0.out)).mono ?_; rintro e w3 ⟨D1, d1, D2, d2, rfl, hr1, hr2, hd, hb⟩; unfold stV stC; have R1 := Lib.hid hr1; have R2 := Lib.hid hr2; have D := Lib.hid hd; have B3 := Lib.hid hb; have Y3 := Lib.hid (hp_below Y0.out hb); clear hr1 hr2 hd hb))
  have E4 := Lib.hid (heap_alloc_new w3 (.cells (ocC ⟨0, s, [], [], 0⟩ D1 d1 D2 d2 none 0 none 0) 46))
  have Y4 := Lib.hid (hp_alloc Y3.out (.cells (ocC ⟨0, s, [], [], 0⟩ D1 d1 D2 d2 none 0 none 0) 46))
  have B4 := Lib.hid (show Below w.heap.size w (w3.alloc (.cells (ocC ⟨0, s, [], [], 0⟩ D1 d1 D2 d2 none 0 none 0) 46)) from (B0.out.trans (B3.out.mono B0.out.size)).alloc (Nat.le_trans B0.out.size B3.out.size) _)
  have S1 := Lib.hid (row_base (row_below R1.out ((Below.refl w3.heap.size w3).alloc (Nat.le_refl _) (.cells (ocC ⟨0, s, [], [], 0⟩ D1 d1 D2 d2 none 0 none 0) 46))) B0.out.size)
  have S2 := Lib.hid (row_base (row_below R2.out ((Below.refl w3.heap.size w3).alloc (Nat.le_refl _) (.cells (ocC ⟨0, s, [], [], 0⟩ D1 d1 D2 d2 none 0 none 0) 46))) B0.out.size)
  have l3 := hp_lt Y3.out
  have hPS : PS w (w3.alloc (.cells (ocC ⟨0, s, [], [], 0⟩ D1 d1 D2 d2 none 0 none 0) 46)) w3.heap.size (w.heap.size + 1) s D1 d1 D2 d2 := ⟨E4.out, Y4.out, HS.out, S1.out, S2.out, B4.out, Nat.le_trans B0.out.size B3.out.size, by omega, by omega, HN.out, HO.out⟩
  clear E4 B4 S1 S2 Y4 Y3 Y0 B0 B3 R1 R2 D G1 G2 l3
  have PS4 := Lib.hid hPS
  clear hPS
  unfold ocC at PS4
  dsimp only [List.length_nil] at PS4
  generalize (w3.alloc _) = w4 at PS4 ⊢
  obtain ⟨g, hg⟩ : ∃ g, w3.heap.size = g := ⟨_, rfl⟩
  obtain ⟨r, hr⟩ : ∃ r, w.heap.size + 1 = r := ⟨_, rfl⟩
  rw [hg, hr] at PS4
  rw [hg, hr]
  have HG := Lib.hid hg
  have HRR := Lib.hid hr
  clear hg hr
  obtain ⟨k0, hk0⟩ : ∃ k : Nat, fuelF most = (k : Int) ∧ k ≤ 300 := ⟨(fuelF most).toNat, by unfold fuelF; omega, by unfold fuelF; omega⟩
  have HK0 := Lib.hid hk0
  rw [show (fuelF most).toNat = k0 by omega]
  obtain ⟨R, hR⟩ : ∃ R, goF l k0 s = R := ⟨_, rfl⟩
  rw [hR]
  have HR := Lib.hid hR
  clear hk0 hR
  go_wp2_with (first | (go_at_call 45; refine (fuel_sp most _).mono ?_; rintro e w' ⟨rfl, rfl⟩; rw [HK0.out.1]))
  go_loopw [8] (fun tv w' => ∃ (k : Nat) (t : St) (B1 : Option Addr) (b1 : Nat) (B2 : Option Addr) (b2 : Nat), tv = .int .i64 k ∧ k ≤ 300 ∧ Hid (PS w w' g r t B1 b1 B2 b2) ∧ Hid (goF l k t = R)) (fun tv _ => (intOf tv).toNat)
  case atStart => exact ⟨k0, s, D1, d1, D2, d2, rfl, HK0.out.2, PS4, HR⟩
  case round =>
    obtain ⟨k, t, B1, b1, B2, b2, rfl, hk, HP, HGo⟩ := hrel
    have HAT := Lib.hid (at_sp A c l t.pc hlc wr (inss_below HI.out HP.out.bl))
    have cx0 : wr.cell? ⟨g, 0, none⟩ = some (.int .u8 0) := hp_cell HP.out.hg 0; have cz0 := hp_frozen HP.out.hg 0; have cx1 : wr.cell? ⟨g, 1, none⟩ = some (.int .i64 t.pc) := hp_cell HP.out.hg 1; have cz1 := hp_frozen HP.out.hg 1; have cx2 : wr.cell? ⟨g, 2, none⟩ = some (.slice B1 t.stk.length b1) := hp_cell HP.out.hg 2; have cz2 := hp_frozen HP.out.hg 2; have cx3 : wr.cell? ⟨g, 3, none⟩ = some (.int .u64 t.la) := hp_cell HP.out.hg 3; have cz3 := hp_frozen HP.out.hg 3; have cx4 : wr.cell? ⟨g, 4, none⟩ = some (.int .u64 t.lb) := hp_cell HP.out.hg 4; have cz4 := hp_frozen HP.out.hg 4; have cx5 : wr.cell? ⟨g, 5, none⟩ = some (.int .u64 t.lc) := hp_cell HP.out.hg 5; have cz5 := hp_frozen HP.out.hg 5; have cx6 : wr.cell? ⟨g, 6, none⟩ = some (.int .u64 t.ld) := hp_cell HP.out.hg 6; have cz6 := hp_frozen HP.out.hg 6; have cx7 : wr.cell? ⟨g, 7, none⟩ = some (.slice B2 t.out.length b2) := hp_cell HP.out.hg 7; have cz7 := hp_frozen HP.out.hg 7; have cx8 : wr.cell? ⟨g, 8, none⟩ = some (.slice none 0 0) := hp_cell HP.out.hg 8; have cz8 := hp_frozen HP.out.hg 8; have cx9 : wr.cell? ⟨g, 9, none⟩ = some (.slice none 0 0) := hp_cell HP.out.hg 9; have cz9 := hp_frozen HP.out.hg 9; have cx10 : wr.cell? ⟨g, 10, none⟩ = some (.int .i64 0) := hp_cell HP.out.hg 10; have cz10 := hp_frozen HP.out.hg 10; have cr0 : wr.cell? ⟨r, 0, none⟩ = some (.int .u8 0) := hp_cell HP.out.hr 0; have cq0 := hp_frozen HP.out.hr 0; have cr1 : wr.cell? ⟨r, 1, none⟩ = some (.int .i64 0) := hp_cell HP.out.hr 1; have cq1 := hp_frozen HP.out.hr 1; have cr2 : wr.cell? ⟨r, 2, none⟩ = some (.slice none 0 0) := hp_cell HP.out.hr 2; have cq2 := hp_frozen HP.out.hr 2; have cr3 : wr.cell? ⟨r, 3, none⟩ = some (.int .u64 0) := hp_cell HP.out.hr 3; have cq3 := hp_frozen HP.out.hr 3; have cr4 : wr.cell? ⟨r, 4, none⟩ = some (.int .u64 0) := hp_cell HP.out.hr 4; have cq4 := hp_frozen HP.out.hr 4; have cr5 : wr.cell? ⟨r, 5, none⟩ = some (.int .u64 0) := hp_cell HP.out.hr 5; have cq5 := hp_frozen HP.out.hr 5; have cr6 : wr.cell? ⟨r, 6, none⟩ = some (.int .u64 0) := hp_cell HP.out.hr 6; have cq6 := hp_frozen HP.out.hr 6; have cr7 : wr.cell? ⟨r, 7, none⟩ = some (.slice none 0 0) := hp_cell HP.out.hr 7; have cq7 := hp_frozen HP.out.hr 7; have cr8 : wr.cell? ⟨r, 8, none⟩ = some (.slice none 0 0) := hp_cell HP.out.hr 8; have cq8 := hp_frozen HP.out.hr 8; have cr9 : wr.cell? ⟨r, 9, none⟩ = some (.slice none 0 0) := hp_cell HP.out.hr 9; have cq9 := hp_frozen HP.out.hr 9; have cr10 : wr.cell? ⟨r, 10, none⟩ = some (.int .i64 0) := hp_cell HP.out.hr 10; have cq10 := hp_frozen HP.out.hr 10; have clg := hp_lt HP.out.hg; have clr := hp_lt HP.out.hr; have cne := HP.out.ne; have cne' : r ≠ g := fun e => cne e.symm
    by_cases h21 : atI l t.pc = 21
    · have HOP := Lib.hid h21
      have HOK := Lib.hid (show hereB l t.pc = true from hereB_of (by rw [h21]; decide))
      have HRQ := Lib.hid (show R = ⟨4, t, [], [], 0⟩ from by rw [← HGo.out]; cases k <;> (unfold goF; rw [if_pos h21]))
      clear h21 
      go_wp2_with (first | (go_at_call 46; refine (HAT.out).mono ?_; rintro e w5 ⟨rfl, hb5⟩; rw [HOP.out, HOK.out]; have P5 := Lib.hid (HP.out.below hb5); have I5 := Lib.hid (inss_below HI.out (P5.out.bl)); have ax0 : w5.cell? ⟨g, 0, none⟩ = some (.int .u8 0) := hp_cell P5.out.hg 0; have az0 := hp_frozen P5.out.hg 0; have ax1 : w5.cell? ⟨g, 1, none⟩ = some (.int .i64 t.pc) := hp_cell P5.out.hg 1; have az1 := hp_frozen P5.out.hg 1; have ax2 : w5.cell? ⟨g, 2, none⟩ = some (.slice B1 t.stk.length b1) := hp_cell P5.out.hg 2; have az2 := hp_frozen P5.out.hg 2; have ax3 : w5.cell? ⟨g, 3, none⟩ = some (.int .u64 t.la) := hp_cell P5.out.hg 3; have az3 := hp_frozen P5.out.hg 3; have ax4 : w5.cell? ⟨g, 4, none⟩ = some (.int .u64 t.lb) := hp_cell P5.out.hg 4; have az4 := hp_frozen P5.out.hg 4; have ax5 : w5.cell? ⟨g, 5, none⟩ = some (.int .u64 t.lc) := hp_cell P5.out.hg 5; have az5 := hp_frozen P5.out.hg 5; have ax6 : w5.cell? ⟨g, 6, none⟩ = some (.int .u64 t.ld) := hp_cell P5.out.hg 6; have az6 := hp_frozen P5.out.hg 6; have ax7 : w5.cell? ⟨g, 7, none⟩ = some (.slice B2 t.out.length b2) := hp_cell P5.out.hg 7; have az7 := hp_frozen P5.out.hg 7; have ax8 : w5.cell? ⟨g, 8, none⟩ = some (.slice none 0 0) := hp_cell P5.out.hg 8; have az8 := hp_frozen P5.out.hg 8; have ax9 : w5.cell? ⟨g, 9, none⟩ = some (.slice none 0 0) := hp_cell P5.out.hg 9; have az9 := hp_frozen P5.out.hg 9; have ax10 : w5.cell? ⟨g, 10, none⟩ = some (.int .i64 0) := hp_cell P5.out.hg 10; have az10 := hp_frozen P5.out.hg 10; have ar0 : w5.cell? ⟨r, 0, none⟩ = some (.int .u8 0) := hp_cell P5.out.hr 0; have aq0 := hp_frozen P5.out.hr 0; have ar1 : w5.cell? ⟨r, 1, none⟩ = some (.int .i64 0) := hp_cell P5.out.hr 1; have aq1 := hp_frozen P5.out.hr 1; have ar2 : w5.cell? ⟨r, 2, none⟩ = some (.slice none 0 0) := hp_cell P5.out.hr 2; have aq2 := hp_frozen P5.out.hr 2; have ar3 : w5.cell? ⟨r, 3, none⟩ = some (.int .u64 0) := hp_cell P5.out.hr 3; have aq3 := hp_frozen P5.out.hr 3; have ar4 : w5.cell? ⟨r, 4, none⟩ = some (.int .u64 0) := hp_cell P5.out.hr 4; have aq4 := hp_frozen P5.out.hr 4; have ar5 : w5.cell? ⟨r, 5, none⟩ = some (.int .u64 0) := hp_cell P5.out.hr 5; have aq5 := hp_frozen P5.out.hr 5; have ar6 : w5.cell? ⟨r, 6, none⟩ = some (.int .u64 0) := hp_cell P5.out.hr 6; have aq6 := hp_frozen P5.out.hr 6; have ar7 : w5.cell? ⟨r, 7, none⟩ = some (.slice none 0 0) := hp_cell P5.out.hr 7; have aq7 := hp_frozen P5.out.hr 7; have ar8 : w5.cell? ⟨r, 8, none⟩ = some (.slice none 0 0) := hp_cell P5.out.hr 8; have aq8 := hp_frozen P5.out.hr 8; have ar9 : w5.cell? ⟨r, 9, none⟩ = some (.slice none 0 0) := hp_cell P5.out.hr 9; have aq9 := hp_frozen P5.out.hr 9; have ar10 : w5.cell? ⟨r, 10, none⟩ = some (.int .i64 0) := hp_cell P5.out.hr 10; have aq10 := hp_frozen P5.out.hr 10; have alg := hp_lt P5.out.hg; have alr := hp_lt P5.out.hr; have ane := P5.out.ne; have ane' : r ≠ g := fun e => ane e.symm; clear hb5))
      refine bodyPost_ret (by simp [results, Try.results21, go_sem, ar0, ar1, ar2, ar3, ar4, ar5, ar6, ar7, ar8, ar9, ar10, ane, ane']; try rfl) rfl ?_
      have M1 := Lib.hid P5.out.m1
      have M2 := Lib.hid P5.out.m2
      rw [show (fuelF most).toNat = k0 by have := HK0.out; omega, HR.out, HRQ.out]
      exact ⟨(bl_new (bl_new (bl_new (bl_new (bl_new (bl_new (bl_new (bl_new (bl_new (bl_new (bl_new (bl_new P5.out.bl P5.out.gb _) P5.out.rb _) P5.out.rb _) P5.out.rb _) P5.out.rb _) P5.out.rb _) P5.out.rb _) P5.out.rb _) P5.out.rb _) P5.out.rb _) P5.out.rb _) P5.out.rb _), B1, b1, B2, b2, none, 0, none, 0, rfl, P5.out.ok, (row_ne (row_ne (row_ne (row_ne (row_ne (row_ne (row_ne (row_ne (row_ne (row_ne (row_ne (row_ne P5.out.stk (fun k hk => (M1.out k hk).1) _ _) (fun k hk => (M1.out k hk).2) _ _) (fun k hk => (M1.out k hk).2) _ _) (fun k hk => (M1.out k hk).2) _ _) (fun k hk => (M1.out k hk).2) _ _) (fun k hk => (M1.out k hk).2) _ _) (fun k hk => (M1.out k hk).2) _ _) (fun k hk => (M1.out k hk).2) _ _) (fun k hk => (M1.out k hk).2) _ _) (fun k hk => (M1.out k hk).2) _ _) (fun k hk => (M1.out k hk).2) _ _) (fun k hk => (M1.out k hk).2) _ _), (row_ne (row_ne (row_ne (row_ne (row_ne (row_ne (row_ne (row_ne (row_ne (row_ne (row_ne (row_ne P5.out.out (fun k hk => (M2.out k hk).1) _ _) (fun k hk => (M2.out k hk).2) _ _) (fun k hk => (M2.out k hk).2) _ _) (fun k hk => (M2.out k hk).2) _ _) (fun k hk => (M2.out k hk).2) _ _) (fun k hk => (M2.out k hk).2) _ _) (fun k hk => (M2.out k hk).2) _ _) (fun k hk => (M2.out k hk).2) _ _) (fun k hk => (M2.out k hk).2) _ _) (fun k hk => (M2.out k hk).2) _ _) (fun k hk => (M2.out k hk).2) _ _) (fun k hk => (M2.out k hk).2) _ _), row_nil _ _, grow_nil _, fun k hk => by cases hk⟩
    by_cases h28 : atI l t.pc = 28
    · have HOP := Lib.hid h28
      have HOK := Lib.hid (show hereB l t.pc = true from hereB_of (by rw [h28]; decide))
      have HRQ := Lib.hid (show R = ⟨1, t, [], [], 0⟩ from by rw [← HGo.out]; cases k <;> (unfold goF; rw [if_neg h21, if_pos h28]))
      clear h28 h21
      go_wp2_with (first | (go_at_call 46; refine (HAT.out).mono ?_; rintro e w5 ⟨rfl, hb5⟩; rw [HOP.out, HOK.out]; have P5 := Lib.hid (HP.out.below hb5); have I5 := Lib.hid (inss_below HI.out (P5.out.bl)); have ax0 : w5.cell? ⟨g, 0, none⟩ = some (.int .u8 0) := hp_cell P5.out.hg 0; have az0 := hp_frozen P5.out.hg 0; have ax1 : w5.cell? ⟨g, 1, none⟩ = some (.int .i64 t.pc) := hp_cell P5.out.hg 1; have az1 := hp_frozen P5.out.hg 1; have ax2 : w5.cell? ⟨g, 2, none⟩ = some (.slice B1 t.stk.length b1) := hp_cell P5.out.hg 2; have az2 := hp_frozen P5.out.hg 2; have ax3 : w5.cell? ⟨g, 3, none⟩ = some (.int .u64 t.la) := hp_cell P5.out.hg 3; have az3 := hp_frozen P5.out.hg 3; have ax4 : w5.cell? ⟨g, 4, none⟩ = some (.int .u64 t.lb) := hp_cell P5.out.hg 4; have az4 := hp_frozen P5.out.hg 4; have ax5 : w5.cell? ⟨g, 5, none⟩ = some (.int .u64 t.lc) := hp_cell P5.out.hg 5; have az5 := hp_frozen P5.out.hg 5; have ax6 : w5.cell? ⟨g, 6, none⟩ = some (.int .u64 t.ld) := hp_cell P5.out.hg 6; have az6 := hp_frozen P5.out.hg 6; have ax7 : w5.cell? ⟨g, 7, none⟩ = some (.slice B2 t.out.length b2) := hp_cell P5.out.hg 7; have az7 := hp_frozen P5.out.hg 7; have ax8 : w5.cell? ⟨g, 8, none⟩ = some (.slice none 0 0) := hp_cell P5.out.hg 8; have az8 := hp_frozen P5.out.hg 8; have ax9 : w5.cell? ⟨g, 9, none⟩ = some (.slice none 0 0) := hp_cell P5.out.hg 9; have az9 := hp_frozen P5.out.hg 9; have ax10 : w5.cell? ⟨g, 10, none⟩ = some (.int .i64 0) := hp_cell P5.out.hg 10; have az10 := hp_frozen P5.out.hg 10; have ar0 : w5.cell? ⟨r, 0, none⟩ = some (.int .u8 0) := hp_cell P5.out.hr 0; have aq0 := hp_frozen P5.out.hr 0; have ar1 : w5.cell? ⟨r, 1, none⟩ = some (.int .i64 0) := hp_cell P5.out.hr 1; have aq1 := hp_frozen P5.out.hr 1; have ar2 : w5.cell? ⟨r, 2, none⟩ = some (.slice none 0 0) := hp_cell P5.out.hr 2; have aq2 := hp_frozen P5.out.hr 2; have ar3 : w5.cell? ⟨r, 3, none⟩ = some (.int .u64 0) := hp_cell P5.out.hr 3; have aq3 := hp_frozen P5.out.hr 3; have ar4 : w5.cell? ⟨r, 4, none⟩ = some (.int .u64 0) := hp_cell P5.out.hr 4; have aq4 := hp_frozen P5.out.hr 4; have ar5 : w5.cell? ⟨r, 5, none⟩ = some (.int .u64 0) := hp_cell P5.out.hr 5; have aq5 := hp_frozen P5.out.hr 5; have ar6 : w5.cell? ⟨r, 6, none⟩ = some (.int .u64 0) := hp_cell P5.out.hr 6; have aq6 := hp_frozen P5.out.hr 6; have ar7 : w5.cell? ⟨r, 7, none⟩ = some (.slice none 0 0) := hp_cell P5.out.hr 7; have aq7 := hp_frozen P5.out.hr 7; have ar8 : w5.cell? ⟨r, 8, none⟩ = some (.slice none 0 0) := hp_cell P5.out.hr 8; have aq8 := hp_frozen P5.out.hr 8; have ar9 : w5.cell? ⟨r, 9, none⟩ = some (.slice none 0 0) := hp_cell P5.out.hr 9; have aq9 := hp_frozen P5.out.hr 9; have ar10 : w5.cell? ⟨r, 10, none⟩ = some (.int .i64 0) := hp_cell P5.out.hr 10; have aq10 := hp_frozen P5.out.hr 10; have alg := hp_lt P5.out.hg; have alr := hp_lt P5.out.hr; have ane := P5.out.ne; have ane' : r ≠ g := fun e => ane e.symm; clear hb5))
      refine bodyPost_ret (by simp [results, Try.results21, go_sem, ar0, ar1, ar2, ar3, ar4, ar5, ar6, ar7, ar8, ar9, ar10, ane, ane']; try rfl) rfl ?_
      have M1 := Lib.hid P5.out.m1
      have M2 := Lib.hid P5.out.m2
      rw [show (fuelF most).toNat = k0 by have := HK0.out; omega, HR.out, HRQ.out]
      exact ⟨(bl_new (bl_new (bl_new (bl_new (bl_new (bl_new (bl_new (bl_new (bl_new (bl_new (bl_new (bl_new P5.out.bl P5.out.gb _) P5.out.rb _) P5.out.rb _) P5.out.rb _) P5.out.rb _) P5.out.rb _) P5.out.rb _) P5.out.rb _) P5.out.rb _) P5.out.rb _) P5.out.rb _) P5.out.rb _), B1, b1, B2, b2, none, 0, none, 0, rfl, P5.out.ok, (row_ne (row_ne (row_ne (row_ne (row_ne (row_ne (row_ne (row_ne (row_ne (row_ne (row_ne (row_ne P5.out.stk (fun k hk => (M1.out k hk).1) _ _) (fun k hk => (M1.out k hk).2) _ _) (fun k hk => (M1.out k hk).2) _ _) (fun k hk => (M1.out k hk).2) _ _) (fun k hk => (M1.out k hk).2) _ _) (fun k hk => (M1.out k hk).2) _ _) (fun k hk => (M1.out k hk).2) _ _) (fun k hk => (M1.out k hk).2) _ _) (fun k hk => (M1.out k hk).2) _ _) (fun k hk => (M1.out k hk).2) _ _) (fun k hk => (M1.out k hk).2) _ _) (fun k hk => (M1.out k hk).2) _ _), (row_ne (row_ne (row_ne (row_ne (row_ne (row_ne (row_ne (row_ne (row_ne (row_ne (row_ne (row_ne P5.out.out (fun k hk => (M2.out k hk).1) _ _) (fun k hk => (M2.out k hk).2) _ _) (fun k hk => (M2.out k hk).2) _ _) (fun k hk => (M2.out k hk).2) _ _) (fun k hk => (M2.out k hk).2) _ _) (fun k hk => (M2.out k hk).2) _ _) (fun k hk => (M2.out k hk).2) _ _) (fun k hk => (M2.out k hk).2) _ _) (fun k hk => (M2.out k hk).2) _ _) (fun k hk => (M2.out k hk).2) _ _) (fun k hk => (M2.out k hk).2) _ _) (fun k hk => (M2.out k hk).2) _ _), row_nil _ _, grow_nil _, fun k hk => by cases hk⟩
    have q21 : (atI l t.pc == 21) = false := beq_eq_false_iff_ne.2 h21
    have q28 : (atI l t.pc == 28) = false := beq_eq_false_iff_ne.2 h28
    have HNO := Lib.hid (And.intro h21 h28)
    clear h21 h28
    obtain ⟨o, ho⟩ : ∃ o, atI l t.pc = o := ⟨_, rfl⟩
    rw [ho] at q21 q28
    have HOP := Lib.hid ho
    clear ho
    obtain hb | hb : hereB l t.pc = true ∨ hereB l t.pc = false := by cases hereB l t.pc <;> simp
    all_goals
      have HOK := Lib.hid hb
      clear hb
      cases k with
      | zero =>
        have HRQ := Lib.hid (show R = ⟨3, t, [], [], 11⟩ from by rw [← HGo.out]; unfold goF; rw [if_neg HNO.out.1, if_neg HNO.out.2])
        go_wp2_with (first | (go_at_call 46; refine (HAT.out).mono ?_; rintro e w5 ⟨rfl, hb5⟩; rw [HOP.out, HOK.out]; have P5 := Lib.hid (HP.out.below hb5); have I5 := Lib.hid (inss_below HI.out (P5.out.bl)); have ax0 : w5.cell? ⟨g, 0, none⟩ = some (.int .u8 0) := hp_cell P5.out.hg 0; have az0 := hp_frozen P5.out.hg 0; have ax1 : w5.cell? ⟨g, 1, none⟩ = some (.int .i64 t.pc) := hp_cell P5.out.hg 1; have az1 := hp_frozen P5.out.hg 1; have ax2 : w5.cell? ⟨g, 2, none⟩ = some (.slice B1 t.stk.length b1) := hp_cell P5.out.hg 2; have az2 := hp_frozen P5.out.hg 2; have ax3 : w5.cell? ⟨g, 3, none⟩ = some (.int .u64 t.la) := hp_cell P5.out.hg 3; have az3 := hp_frozen P5.out.hg 3; have ax4 : w5.cell? ⟨g, 4, none⟩ = some (.int .u64 t.lb) := hp_cell P5.out.hg 4; have az4 := hp_frozen P5.out.hg 4; have ax5 : w5.cell? ⟨g, 5, none⟩ = some (.int .u64 t.lc) := hp_cell P5.out.hg 5; have az5 := hp_frozen P5.out.hg 5; have ax6 : w5.cell? ⟨g, 6, none⟩ = some (.int .u64 t.ld) := hp_cell P5.out.hg 6; have az6 := hp_frozen P5.out.hg 6; have ax7 : w5.cell? ⟨g, 7, none⟩ = some (.slice B2 t.out.length b2) := hp_cell P5.out.hg 7; have az7 := hp_frozen P5.out.hg 7; have ax8 : w5.cell? ⟨g, 8, none⟩ = some (.slice none 0 0) := hp_cell P5.out.hg 8; have az8 := hp_frozen P5.out.hg 8; have ax9 : w5.cell? ⟨g, 9, none⟩ = some (.slice none 0 0) := hp_cell P5.out.hg 9; have az9 := hp_frozen P5.out.hg 9; have ax10 : w5.cell? ⟨g, 10, none⟩ = some (.int .i64 0) := hp_cell P5.out.hg 10; have az10 := hp_frozen P5.out.hg 10; have ar0 : w5.cell? ⟨r, 0, none⟩ = some (.int .u8 0) := hp_cell P5.out.hr 0; have aq0 := hp_frozen P5.out.hr 0; have ar1 : w5.cell? ⟨r, 1, none⟩ = some (.int .i64 0) := hp_cell P5.out.hr 1; have aq1 := hp_frozen P5.out.hr 1; have ar2 : w5.cell? ⟨r, 2, none⟩ = some (.slice none 0 0) := hp_cell P5.out.hr 2; have aq2 := hp_frozen P5.out.hr 2; have ar3 : w5.cell? ⟨r, 3, none⟩ = some (.int .u64 0) := hp_cell P5.out.hr 3; have aq3 := hp_frozen P5.out.hr 3; have ar4 : w5.cell? ⟨r, 4, none⟩ = some (.int .u64 0) := hp_cell P5.out.hr 4; have aq4 := hp_frozen P5.out.hr 4; have ar5 : w5.cell? ⟨r, 5, none⟩ = some (.int .u64 0) := hp_cell P5.out.hr 5; have aq5 := hp_frozen P5.out.hr 5; have ar6 : w5.cell? ⟨r, 6, none⟩ = some (.int .u64 0) := hp_cell P5.out.hr 6; have aq6 := hp_frozen P5.out.hr 6; have ar7 : w5.cell? ⟨r, 7, none⟩ = some (.slice none 0 0) := hp_cell P5.out.hr 7; have aq7 := hp_frozen P5.out.hr 7; have ar8 : w5.cell? ⟨r, 8, none⟩ = some (.slice none 0 0) := hp_cell P5.out.hr 8; have aq8 := hp_frozen P5.out.hr 8; have ar9 : w5.cell? ⟨r, 9, none⟩ = some (.slice none 0 0) := hp_cell P5.out.hr 9; have aq9 := hp_frozen P5.out.hr 9; have ar10 : w5.cell? ⟨r, 10, none⟩ = some (.int .i64 0) := hp_cell P5.out.hr 10; have aq10 := hp_frozen P5.out.hr 10; have alg := hp_lt P5.out.hg; have alr := hp_lt P5.out.hr; have ane := P5.out.ne; have ane' : r ≠ g := fun e => ane e.symm; clear hb5))
        refine bodyPost_ret (by simp [results, Try.results21, go_sem, ar0, ar1, ar2, ar3, ar4, ar5, ar6, ar7, ar8, ar9, ar10, ane, ane']; try rfl) rfl ?_
        have M1 := Lib.hid P5.out.m1
        have M2 := Lib.hid P5.out.m2
        rw [show (fuelF most).toNat = k0 by have := HK0.out; omega, HR.out, HRQ.out]
        exact ⟨(bl_new (bl_new (bl_new (bl_new (bl_new (bl_new (bl_new (bl_new (bl_new (bl_new (bl_new (bl_new (bl_new P5.out.bl P5.out.gb _) P5.out.gb _) P5.out.rb _) P5.out.rb _) P5.out.rb _) P5.out.rb _) P5.out.rb _) P5.out.rb _) P5.out.rb _) P5.out.rb _) P5.out.rb _) P5.out.rb _) P5.out.rb _), B1, b1, B2, b2, none, 0, none, 0, rfl, P5.out.ok, (row_ne (row_ne (row_ne (row_ne (row_ne (row_ne (row_ne (row_ne (row_ne (row_ne (row_ne (row_ne (row_ne P5.out.stk (fun k hk => (M1.out k hk).1) _ _) (fun k hk => (M1.out k hk).1) _ _) (fun k hk => (M1.out k hk).2) _ _) (fun k hk => (M1.out k hk).2) _ _) (fun k hk => (M1.out k hk).2) _ _) (fun k hk => (M1.out k hk).2) _ _) (fun k hk => (M1.out k hk).2) _ _) (fun k hk => (M1.out k hk).2) _ _) (fun k hk => (M1.out k hk).2) _ _) (fun k hk => (M1.out k hk).2) _ _) (fun k hk => (M1.out k hk).2) _ _) (fun k hk => (M1.out k hk).2) _ _) (fun k hk => (M1.out k hk).2) _ _), (row_ne (row_ne (row_ne (row_ne (row_ne (row_ne (row_ne (row_ne (row_ne (row_ne (row_ne (row_ne (row_ne P5.out.out (fun k hk => (M2.out k hk).1) _ _) (fun k hk => (M2.out k hk).1) _ _) (fun k hk => (M2.out k hk).2) _ _) (fun k hk => (M2.out k hk).2) _ _) (fun k hk => (M2.out k hk).2) _ _) (fun k hk => (M2.out k hk).2) _ _) (fun k hk => (M2.out k hk).2) _ _) (fun k hk => (M2.out k hk).2) _ _) (fun k hk => (M2.out k hk).2) _ _) (fun k hk => (M2.out k hk).2) _ _) (fun k hk => (M2.out k hk).2) _ _) (fun k hk => (M2.out k hk).2) _ _) (fun k hk => (M2.out k hk).2) _ _), row_nil _ _, grow_nil _, fun k hk => by cases hk⟩
      | succ k =>
        have HGq := Lib.hid (show goF l (k + 1) t = R from HGo.out)
        have t0 : (((k + 1 : Nat) : Int) == 0) = false := beq_eq_false_iff_ne.2 (by omega)
        have t1 : ((k : Int) + 1 == 0) = false := beq_eq_false_iff_ne.2 (by omega)
        have t2 : wrap64 (((k + 1 : Nat) : Int) - 1) = (k : Int) := by unfold wrap64; omega
        have t3 : wrap64 ((k : Int) + 1 - 1) = (k : Int) := by unfold wrap64; omega
        cases hst : stepF l t with
        | error n =>
          have HST := Lib.hid hst
          have HRQ := Lib.hid (show R = ⟨3, t, [], [], n⟩ from by rw [← HGq.out]; unfold goF; rw [if_neg HNO.out.1, if_neg HNO.out.2, hst])
          have hn0 : n ≠ 0 := by have := stepF_err hst; omega
          have n0 : (n != 0) = true := by rw [bne_iff_ne]; exact hn0
          have n1 : (n == 0) = false := beq_eq_false_iff_ne.2 hn0
          clear hn0
          clear hst
          go_upto_region 15 with (first | (go_at_call 46; refine (HAT.out).mono ?_; rintro e w5 ⟨rfl, hb5⟩; rw [HOP.out, HOK.out]; have P5 := Lib.hid (HP.out.below hb5); have I5 := Lib.hid (inss_below HI.out (P5.out.bl)); have ax0 : w5.cell? ⟨g, 0, none⟩ = some (.int .u8 0) := hp_cell P5.out.hg 0; have az0 := hp_frozen P5.out.hg 0; have ax1 : w5.cell? ⟨g, 1, none⟩ = some (.int .i64 t.pc) := hp_cell P5.out.hg 1; have az1 := hp_frozen P5.out.hg 1; have ax2 : w5.cell? ⟨g, 2, none⟩ = some (.slice B1 t.stk.length b1) := hp_cell P5.out.hg 2; have az2 := hp_frozen P5.out.hg 2; have ax3 : w5.cell? ⟨g, 3, none⟩ = some (.int .u64 t.la) := hp_cell P5.out.hg 3; have az3 := hp_frozen P5.out.hg 3; have ax4 : w5.cell? ⟨g, 4, none⟩ = some (.int .u64 t.lb) := hp_cell P5.out.hg 4; have az4 := hp_frozen P5.out.hg 4; have ax5 : w5.cell? ⟨g, 5, none⟩ = some (.int .u64 t.lc) := hp_cell P5.out.hg 5; have az5 := hp_frozen P5.out.hg 5; have ax6 : w5.cell? ⟨g, 6, none⟩ = some (.int .u64 t.ld) := hp_cell P5.out.hg 6; have az6 := hp_frozen P5.out.hg 6; have ax7 : w5.cell? ⟨g, 7, none⟩ = some (.slice B2 t.out.length b2) := hp_cell P5.out.hg 7; have az7 := hp_frozen P5.out.hg 7; have ax8 : w5.cell? ⟨g, 8, none⟩ = some (.slice none 0 0) := hp_cell P5.out.hg 8; have az8 := hp_frozen P5.out.hg 8; have ax9 : w5.cell? ⟨g, 9, none⟩ = some (.slice none 0 0) := hp_cell P5.out.hg 9; have az9 := hp_frozen P5.out.hg 9; have ax10 : w5.cell? ⟨g, 10, none⟩ = some (.int .i64 0) := hp_cell P5.out.hg 10; have az10 := hp_frozen P5.out.hg 10; have ar0 : w5.cell? ⟨r, 0, none⟩ = some (.int .u8 0) := hp_cell P5.out.hr 0; have aq0 := hp_frozen P5.out.hr 0; have ar1 : w5.cell? ⟨r, 1, none⟩ = some (.int .i64 0) := hp_cell P5.out.hr 1; have aq1 := hp_frozen P5.out.hr 1; have ar2 : w5.cell? ⟨r, 2, none⟩ = some (.slice none 0 0) := hp_cell P5.out.hr 2; have aq2 := hp_frozen P5.out.hr 2; have ar3 : w5.cell? ⟨r, 3, none⟩ = some (.int .u64 0) := hp_cell P5.out.hr 3; have aq3 := hp_frozen P5.out.hr 3; have ar4 : w5.cell? ⟨r, 4, none⟩ = some (.int .u64 0) := hp_cell P5.out.hr 4; have aq4 := hp_frozen P5.out.hr 4; have ar5 : w5.cell? ⟨r, 5, none⟩ = some (.int .u64 0) := hp_cell P5.out.hr 5; have aq5 := hp_frozen P5.out.hr 5; have ar6 : w5.cell? ⟨r, 6, none⟩ = some (.int .u64 0) := hp_cell P5.out.hr 6; have aq6 := hp_frozen P5.out.hr 6; have ar7 : w5.cell? ⟨r, 7, none⟩ = some (.slice none 0 0) := hp_cell P5.out.hr 7; have aq7 := hp_frozen P5.out.hr 7; have ar8 : w5.cell? ⟨r, 8, none⟩ = some (.slice none 0 0) := hp_cell P5.out.hr 8; have aq8 := hp_frozen P5.out.hr 8; have ar9 : w5.cell? ⟨r, 9, none⟩ = some (.slice none 0 0) := hp_cell P5.out.hr 9; have aq9 := hp_frozen P5.out.hr 9; have ar10 : w5.cell? ⟨r, 10, none⟩ = some (.int .i64 0) := hp_cell P5.out.hr 10; have aq10 := hp_frozen P5.out.hr 10; have alg := hp_lt P5.out.hg; have alr := hp_lt P5.out.hr; have ane := P5.out.ne; have ane' : r ≠ g := fun e => ane e.symm; clear hb5) | (go_at_call 10; refine (step_sp l c A hlc hll t P5.out.ok (by have := P5.out.n1; omega) (by have := P5.out.n2; omega) B1 b1 B2 b2 _ (Src.row (row_base P5.out.stk (Nat.zero_le _)) (by have := P5.out.n1; omega)) (Src.row (row_base P5.out.out (Nat.zero_le _)) (by have := P5.out.n2; omega)) I5.out).mono ?_; rintro e w6 ⟨hb6, hq6⟩; rw [HST.out] at hq6; obtain rfl := hq6; unfold stV stC St.zero; dsimp only [List.length_nil]; have P6 := Lib.hid (P5.out.below hb6); clear ax0 az0 ar0 aq0 ax1 az1 ar1 aq1 ax2 az2 ar2 aq2 ax3 az3 ar3 aq3 ax4 az4 ar4 aq4 ax5 az5 ar5 aq5 ax6 az6 ar6 aq6 ax7 az7 ar7 aq7 ax8 az8 ar8 aq8 ax9 az9 ar9 aq9 ax10 az10 ar10 aq10 alg alr; clear hb6))
          have P7 := Lib.hid (P6.out.below ((Below.refl _ _).alloc (Nat.le_refl _) (.cells #[.int .i64 0, .slice none 0 0, .int .u64 0, .int .u64 0, .int .u64 0, .int .u64 0, .slice none 0 0] 28)))
          generalize w6.alloc _ = w7 at P7 ⊢
          have bx0 : w7.cell? ⟨g, 0, none⟩ = some (.int .u8 0) := hp_cell P7.out.hg 0; have bz0 := hp_frozen P7.out.hg 0; have bx1 : w7.cell? ⟨g, 1, none⟩ = some (.int .i64 t.pc) := hp_cell P7.out.hg 1; have bz1 := hp_frozen P7.out.hg 1; have bx2 : w7.cell? ⟨g, 2, none⟩ = some (.slice B1 t.stk.length b1) := hp_cell P7.out.hg 2; have bz2 := hp_frozen P7.out.hg 2; have bx3 : w7.cell? ⟨g, 3, none⟩ = some (.int .u64 t.la) := hp_cell P7.out.hg 3; have bz3 := hp_frozen P7.out.hg 3; have bx4 : w7.cell? ⟨g, 4, none⟩ = some (.int .u64 t.lb) := hp_cell P7.out.hg 4; have bz4 := hp_frozen P7.out.hg 4; have bx5 : w7.cell? ⟨g, 5, none⟩ = some (.int .u64 t.lc) := hp_cell P7.out.hg 5; have bz5 := hp_frozen P7.out.hg 5; have bx6 : w7.cell? ⟨g, 6, none⟩ = some (.int .u64 t.ld) := hp_cell P7.out.hg 6; have bz6 := hp_frozen P7.out.hg 6; have bx7 : w7.cell? ⟨g, 7, none⟩ = some (.slice B2 t.out.length b2) := hp_cell P7.out.hg 7; have bz7 := hp_frozen P7.out.hg 7; have bx8 : w7.cell? ⟨g, 8, none⟩ = some (.slice none 0 0) := hp_cell P7.out.hg 8; have bz8 := hp_frozen P7.out.hg 8; have bx9 : w7.cell? ⟨g, 9, none⟩ = some (.slice none 0 0) := hp_cell P7.out.hg 9; have bz9 := hp_frozen P7.out.hg 9; have bx10 : w7.cell? ⟨g, 10, none⟩ = some (.int .i64 0) := hp_cell P7.out.hg 10; have bz10 := hp_frozen P7.out.hg 10; have br0 : w7.cell? ⟨r, 0, none⟩ = some (.int .u8 0) := hp_cell P7.out.hr 0; have bq0 := hp_frozen P7.out.hr 0; have br1 : w7.cell? ⟨r, 1, none⟩ = some (.int .i64 0) := hp_cell P7.out.hr 1; have bq1 := hp_frozen P7.out.hr 1; have br2 : w7.cell? ⟨r, 2, none⟩ = some (.slice none 0 0) := hp_cell P7.out.hr 2; have bq2 := hp_frozen P7.out.hr 2; have br3 : w7.cell? ⟨r, 3, none⟩ = some (.int .u64 0) := hp_cell P7.out.hr 3; have bq3 := hp_frozen P7.out.hr 3; have br4 : w7.cell? ⟨r, 4, none⟩ = some (.int .u64 0) := hp_cell P7.out.hr 4; have bq4 := hp_frozen P7.out.hr 4; have br5 : w7.cell? ⟨r, 5, none⟩ = some (.int .u64 0) := hp_cell P7.out.hr 5; have bq5 := hp_frozen P7.out.hr 5; have br6 : w7.cell? ⟨r, 6, none⟩ = some (.int .u64 0) := hp_cell P7.out.hr 6; have bq6 := hp_frozen P7.out.hr 6; have br7 : w7.cell? ⟨r, 7, none⟩ = some (.slice none 0 0) := hp_cell P7.out.hr 7; have bq7 := hp_frozen P7.out.hr 7; have br8 : w7.cell? ⟨r, 8, none⟩ = some (.slice none 0 0) := hp_cell P7.out.hr 8; have bq8 := hp_frozen P7.out.hr 8; have br9 : w7.cell? ⟨r, 9, none⟩ = some (.slice none 0 0) := hp_cell P7.out.hr 9; have bq9 := hp_frozen P7.out.hr 9; have br10 : w7.cell? ⟨r, 10, none⟩ = some (.int .i64 0) := hp_cell P7.out.hr 10; have bq10 := hp_frozen P7.out.hr 10; have blg := hp_lt P7.out.hg; have blr := hp_lt P7.out.hr; have bne := P7.out.ne; have bne' : r ≠ g := fun e => bne e.symm
          clear ane ane'
          go_wp2_with fail
          refine bodyPost_ret (by simp [results, Try.results21, go_sem, br0, br1, br2, br3, br4, br5, br6, br7, br8, br9, br10, bne, bne']; try rfl) rfl ?_
          have M1 := Lib.hid P7.out.m1
          have M2 := Lib.hid P7.out.m2
          rw [show (fuelF most).toNat = k0 by have := HK0.out; omega, HR.out, HRQ.out]
          exact ⟨(bl_new (bl_new (bl_new (bl_new (bl_new (bl_new (bl_new (bl_new (bl_new (bl_new (bl_new (bl_new (bl_new P7.out.bl P7.out.gb _) P7.out.gb _) P7.out.rb _) P7.out.rb _) P7.out.rb _) P7.out.rb _) P7.out.rb _) P7.out.rb _) P7.out.rb _) P7.out.rb _) P7.out.rb _) P7.out.rb _) P7.out.rb _), B1, b1, B2, b2, none, 0, none, 0, rfl, P7.out.ok, (row_ne (row_ne (row_ne (row_ne (row_ne (row_ne (row_ne (row_ne (row_ne (row_ne (row_ne (row_ne (row_ne P7.out.stk (fun k hk => (M1.out k hk).1) _ _) (fun k hk => (M1.out k hk).1) _ _) (fun k hk => (M1.out k hk).2) _ _) (fun k hk => (M1.out k hk).2) _ _) (fun k hk => (M1.out k hk).2) _ _) (fun k hk => (M1.out k hk).2) _ _) (fun k hk => (M1.out k hk).2) _ _) (fun k hk => (M1.out k hk).2) _ _) (fun k hk => (M1.out k hk).2) _ _) (fun k hk => (M1.out k hk).2) _ _) (fun k hk => (M1.out k hk).2) _ _) (fun k hk => (M1.out k hk).2) _ _) (fun k hk => (M1.out k hk).2) _ _), (row_ne (row_ne (row_ne (row_ne (row_ne (row_ne (row_ne (row_ne (row_ne (row_ne (row_ne (row_ne (row_ne P7.out.out (fun k hk => (M2.out k hk).1) _ _) (fun k hk => (M2.out k hk).1) _ _) (fun k hk => (M2.out k hk).2) _ _) (fun k hk => (M2.out k hk).2) _ _) (fun k hk => (M2.out k hk).2) _ _) (fun k hk => (M2.out k hk).2) _ _) (fun k hk => (M2.out k hk).2) _ _) (fun k hk => (M2.out k hk).2) _ _) (fun k hk => (M2.out k hk).2) _ _) (fun k hk => (M2.out k hk).2) _ _) (fun k hk => (M2.out k hk).2) _ _) (fun k hk => (M2.out k hk).2) _ _) (fun k hk => (M2.out k hk).2) _ _), row_nil _ _, grow_nil _, fun k hk => by cases hk⟩
        | ok t' =>
          have HST := Lib.hid hst
          have HGt := Lib.hid (show goF l k t' = R from by have := HGq.out; unfold goF at this; rw [if_neg HNO.out.1, if_neg HNO.out.2, hst] at this; exact this)
          clear hst
          go_upto_region 15 with (first | (go_at_call 46; refine (HAT.out).mono ?_; rintro e w5 ⟨rfl, hb5⟩; rw [HOP.out, HOK.out]; have P5 := Lib.hid (HP.out.below hb5); have I5 := Lib.hid (inss_below HI.out (P5.out.bl)); have ax0 : w5.cell? ⟨g, 0, none⟩ = some (.int .u8 0) := hp_cell P5.out.hg 0; have az0 := hp_frozen P5.out.hg 0; have ax1 : w5.cell? ⟨g, 1, none⟩ = some (.int .i64 t.pc) := hp_cell P5.out.hg 1; have az1 := hp_frozen P5.out.hg 1; have ax2 : w5.cell? ⟨g, 2, none⟩ = some (.slice B1 t.stk.length b1) := hp_cell P5.out.hg 2; have az2 := hp_frozen P5.out.hg 2; have ax3 : w5.cell? ⟨g, 3, none⟩ = some (.int .u64 t.la) := hp_cell P5.out.hg 3; have az3 := hp_frozen P5.out.hg 3; have ax4 : w5.cell? ⟨g, 4, none⟩ = some (.int .u64 t.lb) := hp_cell P5.out.hg 4; have az4 := hp_frozen P5.out.hg 4; have ax5 : w5.cell? ⟨g, 5, none⟩ = some (.int .u64 t.lc) := hp_cell P5.out.hg 5; have az5 := hp_frozen P5.out.hg 5; have ax6 : w5.cell? ⟨g, 6, none⟩ = some (.int .u64 t.ld) := hp_cell P5.out.hg 6; have az6 := hp_frozen P5.out.hg 6; have ax7 : w5.cell? ⟨g, 7, none⟩ = some (.slice B2 t.out.length b2) := hp_cell P5.out.hg 7; have az7 := hp_frozen P5.out.hg 7; have ax8 : w5.cell? ⟨g, 8, none⟩ = some (.slice none 0 0) := hp_cell P5.out.hg 8; have az8 := hp_frozen P5.out.hg 8; have ax9 : w5.cell? ⟨g, 9, none⟩ = some (.slice none 0 0) := hp_cell P5.out.hg 9; have az9 := hp_frozen P5.out.hg 9; have ax10 : w5.cell? ⟨g, 10, none⟩ = some (.int .i64 0) := hp_cell P5.out.hg 10; have az10 := hp_frozen P5.out.hg 10; have ar0 : w5.cell? ⟨r, 0, none⟩ = some (.int .u8 0) := hp_cell P5.out.hr 0; have aq0 := hp_frozen P5.out.hr 0; have ar1 : w5.cell? ⟨r, 1, none⟩ = some (.int .i64 0) := hp_cell P5.out.hr 1; have aq1 := hp_frozen P5.out.hr 1; have ar2 : w5.cell? ⟨r, 2, none⟩ = some (.slice none 0 0) := hp_cell P5.out.hr 2; have aq2 := hp_frozen P5.out.hr 2; have ar3 : w5.cell? ⟨r, 3, none⟩ = some (.int .u64 0) := hp_cell P5.out.hr 3; have aq3 := hp_frozen P5.out.hr 3; have ar4 : w5.cell? ⟨r, 4, none⟩ = some (.int .u64 0) := hp_cell P5.out.hr 4; have aq4 := hp_frozen P5.out.hr 4; have ar5 : w5.cell? ⟨r, 5, none⟩ = some (.int .u64 0) := hp_cell P5.out.hr 5; have aq5 := hp_frozen P5.out.hr 5; have ar6 : w5.cell? ⟨r, 6, none⟩ = some (.int .u64 0) := hp_cell P5.out.hr 6; have aq6 := hp_frozen P5.out.hr 6; have ar7 : w5.cell? ⟨r, 7, none⟩ = some (.slice none 0 0) := hp_cell P5.out.hr 7; have aq7 := hp_frozen P5.out.hr 7; have ar8 : w5.cell? ⟨r, 8, none⟩ = some (.slice none 0 0) := hp_cell P5.out.hr 8; have aq8 := hp_frozen P5.out.hr 8; have ar9 : w5.cell? ⟨r, 9, none⟩ = some (.slice none 0 0) := hp_cell P5.out.hr 9; have aq9 := hp_frozen P5.out.hr 9; have ar10 : w5.cell? ⟨r, 10, none⟩ = some (.int .i64 0) := hp_cell P5.out.hr 10; have aq10 := hp_frozen P5.out.hr 10; have alg := hp_lt P5.out.hg; have alr := hp_lt P5.out.hr; have ane := P5.out.ne; have ane' : r ≠ g := fun e => ane e.symm; clear hb5) | (go_at_call 10; refine (step_sp l c A hlc hll t P5.out.ok (by have := P5.out.n1; omega) (by have := P5.out.n2; omega) B1 b1 B2 b2 _ (Src.row (row_base P5.out.stk (Nat.zero_le _)) (by have := P5.out.n1; omega)) (Src.row (row_base P5.out.out (Nat.zero_le _)) (by have := P5.out.n2; omega)) I5.out).mono ?_; rintro e w6 ⟨hb6, hq6⟩; rw [HST.out] at hq6; (obtain ⟨C1, e1, C2, e2, rfl, hnew⟩ := hq6); unfold stV stC; have P6 := Lib.hid (P5.out.below hb6); have N6 := Lib.hid hnew; have S5 := Lib.hid (P5.out.bl.size); clear ax0 az0 ar0 aq0 ax1 az1 ar1 aq1 ax2 az2 ar2 aq2 ax3 az3 ar3 aq3 ax4 az4 ar4 aq4 ax5 az5 ar5 aq5 ax6 az6 ar6 aq6 ax7 az7 ar7 aq7 ax8 az8 ar8 aq8 ax9 az9 ar9 aq9 ax10 az10 ar10 aq10 alg alr; clear hb6 hnew))
          have P7 := Lib.hid (P6.out.below ((Below.refl _ _).alloc (Nat.le_refl _) (.cells (stC t' C1 e1 C2 e2) 28)))
          have T7 := Lib.hid (row_base (row_below N6.out.2.1 ((Below.refl _ _).alloc (Nat.le_refl _) (.cells (stC t' C1 e1 C2 e2) 28))) S5.out)
          have O7 := Lib.hid (row_base (row_below N6.out.2.2.1 ((Below.refl _ _).alloc (Nat.le_refl _) (.cells (stC t' C1 e1 C2 e2) 28))) S5.out)
          have X7 := Lib.hid (heap_alloc_new w6 (.cells (stC t' C1 e1 C2 e2) 28))
          have xg7 : g ≠ w6.heap.size := fun e => Nat.lt_irrefl _ (e ▸ hp_lt P6.out.hg)
          have xg8 : w6.heap.size ≠ g := fun e => xg7 e.symm
          unfold stC at P7 T7 O7 X7
          obtain ⟨x7, hx7⟩ : ∃ x, w6.heap.size = x := ⟨_, rfl⟩
          rw [hx7] at X7 xg7 xg8 ⊢
          generalize w6.alloc _ = w7 at P7 T7 O7 X7 ⊢
          have bx0 : w7.cell? ⟨g, 0, none⟩ = some (.int .u8 0) := hp_cell P7.out.hg 0; have bz0 := hp_frozen P7.out.hg 0; have bx1 : w7.cell? ⟨g, 1, none⟩ = some (.int .i64 t.pc) := hp_cell P7.out.hg 1; have bz1 := hp_frozen P7.out.hg 1; have bx2 : w7.cell? ⟨g, 2, none⟩ = some (.slice B1 t.stk.length b1) := hp_cell P7.out.hg 2; have bz2 := hp_frozen P7.out.hg 2; have bx3 : w7.cell? ⟨g, 3, none⟩ = some (.int .u64 t.la) := hp_cell P7.out.hg 3; have bz3 := hp_frozen P7.out.hg 3; have bx4 : w7.cell? ⟨g, 4, none⟩ = some (.int .u64 t.lb) := hp_cell P7.out.hg 4; have bz4 := hp_frozen P7.out.hg 4; have bx5 : w7.cell? ⟨g, 5, none⟩ = some (.int .u64 t.lc) := hp_cell P7.out.hg 5; have bz5 := hp_frozen P7.out.hg 5; have bx6 : w7.cell? ⟨g, 6, none⟩ = some (.int .u64 t.ld) := hp_cell P7.out.hg 6; have bz6 := hp_frozen P7.out.hg 6; have bx7 : w7.cell? ⟨g, 7, none⟩ = some (.slice B2 t.out.length b2) := hp_cell P7.out.hg 7; have bz7 := hp_frozen P7.out.hg 7; have bx8 : w7.cell? ⟨g, 8, none⟩ = some (.slice none 0 0) := hp_cell P7.out.hg 8; have bz8 := hp_frozen P7.out.hg 8; have bx9 : w7.cell? ⟨g, 9, none⟩ = some (.slice none 0 0) := hp_cell P7.out.hg 9; have bz9 := hp_frozen P7.out.hg 9; have bx10 : w7.cell? ⟨g, 10, none⟩ = some (.int .i64 0) := hp_cell P7.out.hg 10; have bz10 := hp_frozen P7.out.hg 10; have br0 : w7.cell? ⟨r, 0, none⟩ = some (.int .u8 0) := hp_cell P7.out.hr 0; have bq0 := hp_frozen P7.out.hr 0; have br1 : w7.cell? ⟨r, 1, none⟩ = some (.int .i64 0) := hp_cell P7.out.hr 1; have bq1 := hp_frozen P7.out.hr 1; have br2 : w7.cell? ⟨r, 2, none⟩ = some (.slice none 0 0) := hp_cell P7.out.hr 2; have bq2 := hp_frozen P7.out.hr 2; have br3 : w7.cell? ⟨r, 3, none⟩ = some (.int .u64 0) := hp_cell P7.out.hr 3; have bq3 := hp_frozen P7.out.hr 3; have br4 : w7.cell? ⟨r, 4, none⟩ = some (.int .u64 0) := hp_cell P7.out.hr 4; have bq4 := hp_frozen P7.out.hr 4; have br5 : w7.cell? ⟨r, 5, none⟩ = some (.int .u64 0) := hp_cell P7.out.hr 5; have bq5 := hp_frozen P7.out.hr 5; have br6 : w7.cell? ⟨r, 6, none⟩ = some (.int .u64 0) := hp_cell P7.out.hr 6; have bq6 := hp_frozen P7.out.hr 6; have br7 : w7.cell? ⟨r, 7, none⟩ = some (.slice none 0 0) := hp_cell P7.out.hr 7; have bq7 := hp_frozen P7.out.hr 7; have br8 : w7.cell? ⟨r, 8, none⟩ = some (.slice none 0 0) := hp_cell P7.out.hr 8; have bq8 := hp_frozen P7.out.hr 8; have br9 : w7.cell? ⟨r, 9, none⟩ = some (.slice none 0 0) := hp_cell P7.out.hr 9; have bq9 := hp_frozen P7.out.hr 9; have br10 : w7.cell? ⟨r, 10, none⟩ = some (.int .i64 0) := hp_cell P7.out.hr 10; have bq10 := hp_frozen P7.out.hr 10; have blg := hp_lt P7.out.hg; have blr := hp_lt P7.out.hr; have bne := P7.out.ne; have bne' : r ≠ g := fun e => bne e.symm
          have s0 : w7.cell? ⟨x7, 0, none⟩ = some (.int .i64 t'.pc) := hp_cell X7.out 0; have s1 : w7.cell? ⟨x7, 1, none⟩ = some (.slice C1 t'.stk.length e1) := hp_cell X7.out 1; have s2 : w7.cell? ⟨x7, 2, none⟩ = some (.int .u64 t'.la) := hp_cell X7.out 2; have s3 : w7.cell? ⟨x7, 3, none⟩ = some (.int .u64 t'.lb) := hp_cell X7.out 3; have s4 : w7.cell? ⟨x7, 4, none⟩ = some (.int .u64 t'.lc) := hp_cell X7.out 4; have s5 : w7.cell? ⟨x7, 5, none⟩ = some (.int .u64 t'.ld) := hp_cell X7.out 5; have s6 : w7.cell? ⟨x7, 6, none⟩ = some (.slice C2 t'.out.length e2) := hp_cell X7.out 6
          have lx7 := hp_lt X7.out
          have HL := Lib.hid (stepF_len I5.out HST.out P5.out.n2)
          clear ane ane' hx7
          go_wp2_with fail
          go_roundw
          case rel => exact ⟨k, t', C1, e1, C2, e2, by go_num, by omega, Lib.hid (P7.out.put N6.out.1 T7.out O7.out HL.out.1 HL.out.2), HGt⟩
          case measure => simp [intOf]
end Go.Proofs.Ytlgpjcdlomhlcaa
