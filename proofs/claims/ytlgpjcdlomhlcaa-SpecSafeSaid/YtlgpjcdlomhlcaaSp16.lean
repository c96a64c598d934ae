
/-
  spec: Block.
-/
import Derived.Test.YtlgpjcdlomhlcaaSp15
namespace Go.Proofs.Ytlgpjcdlomhlcaa
open Go.RowKit Go.ChangeShapes Go.WideShapes
set_option linter.unusedSimpArgs false
set_option linter.unusedVariables false

/-- An outcome, plainly. -/
structure Oc where
  kind : Int
  s : St
  hp : List Int
  arms : List Bool
  err : Int
def ocC (o : Oc) (A1 : Option Addr) (c1 : Nat) (A2 : Option Addr) (c2 : Nat) (A3 : Option Addr) (c3 : Nat) (Aa : Option Addr) (ca : Nat) : Array Value :=
  #[.int .u8 o.kind, .int .i64 o.s.pc, .slice A1 o.s.stk.length c1, .int .u64 o.s.la, .int .u64 o.s.lb, .int .u64 o.s.lc, .int .u64 o.s.ld, .slice A2 o.s.out.length c2, .slice A3 o.hp.length c3, .slice Aa o.arms.length ca, .int .i64 o.err]
def OcAt (base : Nat) (w : World) (o : Oc) (A1 : Option Addr) (c1 : Nat) (A2 : Option Addr) (c2 : Nat) (A3 : Option Addr) (c3 : Nat) (Aa : Option Addr) (ca : Nat) : Prop :=
  o.s.ok ∧ RowAt w base A1 c1 o.s.stk ∧ RowAt w base A2 c2 o.s.out ∧ RowAt w base A3 c3 o.hp ∧ GRow 4 w Aa ca (o.arms.map Value.bool) ∧ ∀ k, blk Aa = some k → base ≤ k
def OcPost (o : Oc) (w : World) (e : Ending) (w' : World) : Prop := Below w.heap.size w w' ∧ ∃ A1 c1 A2 c2 A3 c3 Aa ca, e = .returned (.agg (ocC o A1 c1 A2 c2 A3 c3 Aa ca)) ∧ OcAt w.heap.size w' o A1 c1 A2 c2 A3 c3 Aa ca
def ocF (s : St) (hp : List Int) (r : Except Int Bs) : Oc := match r with
  | .error n => ⟨3, s, hp, [], n⟩
  | .ok b => if b.kind = 2 then ⟨2, s, hp, [], 0⟩ else ⟨1, b.s, b.hp, b.arms, 0⟩
theorem BK.of {D : Nat → Prop} {w : World} {g : Nat} {I : Value} {s : St} {hp : List Int} {p : Pl} (h : WK D w g 91 [.slice none 0 0, .slice none 0 0, .int .u8 0] I s hp p) : BK D w g I ⟨s, hp, [], [], 0⟩ p [] none 0 none 0 :=
  ⟨h.less (fun k e => by
    rcases e with e | ⟨m, hm, _⟩ | e | e
    · exact e
    · cases hm
    · cases e
    · cases e), fun m hm => (List.not_mem_nil hm).elim, rfl, fun m hm => (List.not_mem_nil hm).elim, ⟨World.ownsRow_nil w 0 _ 1, fun v hv => (List.not_mem_nil hv).elim⟩, ⟨World.ownsRow_nil w 0 _ 1, fun v hv => (List.not_mem_nil hv).elim⟩, List.Pairwise.nil, fun m hm => (List.not_mem_nil hm).elim, fun k hk => (by cases hk), fun k hk => (by cases hk)⟩
/-- The error's place is written: it is foreign, and no longer asked for. -/
theorem BK.err {D : Nat → Prop} {w : World} {g eb : Nat} {I : Value} {b : Bs} {p : Pl} {ms : List Mk} {Ab Aa : Option Addr} {cb ca : Nat} (h : BK (Fb D eb) w g I b p ms Ab cb Aa ca) (hD : ¬ D eb) (u : Value) : BK D (w.setCell ⟨eb, 0, none⟩ u) g I b p ms Ab cb Aa ca := by
  have hsub : ∀ k, BF D ms Ab Aa k → BF (Fb D eb) ms Ab Aa k := fun k e => by
    rcases e with e | e | e
    · exact .inl (.inl e)
    · exact .inr (.inl e)
    · exact .inr (.inr e)
  have hne : ¬ BF D ms Ab Aa eb := fun e => by
    rcases e with e | ⟨m, hm, e⟩ | e | e
    · exact hD e
    · exact h.mb m hm eb e (.inr rfl)
    · exact h.bB eb e (.inr rfl)
    · exact h.bA eb e (.inr rfl)
  have hf : Fr (BF D ms Ab Aa) w (w.setCell ⟨eb, 0, none⟩ u) := Fr.set w hne 0 u
  exact ⟨(h.wk.foreign (b := eb) (.inl (.inr rfl)) 0 u).less hsub, fun m hm => mk_fr (h.mo m hm) hf (fun k hk => .inr (.inl ⟨m, hm, hk⟩)), h.ma, h.mx, grow_fr h.rb hf (fun k hk => .inr (.inr (.inl hk))), grow_fr h.ra hf (fun k hk => .inr (.inr (.inr hk))), h.pw, fun m hm k hk e => h.mb m hm k hk (.inl e), fun k hk e => h.bB k hk (.inl e), fun k hk e => h.bA k hk (.inl e)⟩
theorem enter_block1 (args : Array Value) (w : World) : (callFunc 47 args).run Try.prog w = .ok (.enter 47 args) w := by kernel_rfl
theorem grow_ne {t : TypeId} {w : World} {A : Option Addr} {c b : Nat} {vs : List Value} (h : GRow t w A c vs) (hn : ∀ k, blk A = some k → k ≠ b) (j : Nat) (u : Value) : GRow t (w.setCell ⟨b, j, none⟩ u) A c vs :=
  grow_fr (F := fun k => k ≠ b) h (Fr.set w (fun e => e rfl) j u) hn
theorem touchF_err {x : Ins3} {s : St} {hp : List Int} {k : Int} (h : touchF x s hp = .error k) : k ≠ 0 := by
  have hg : ∀ {i : Int} {s : St}, getF i s hp = .error k → k ≠ 0 := by
    intro i s h
    unfold getF at h
    split at h
    · cases h
    · cases h; decide
  have hpf : ∀ {i : Int} {s : St}, putF i s hp = .error k → k ≠ 0 := by
    intro i s h
    unfold putF at h
    split at h
    · cases h
    · cases h; decide
  unfold touchF at h
  split at h
  · split at h
    · exact hg h
    · split at h
      · exact hpf h
      · split at h
        · split at h
          · exact hg h
          · exact hpf h
        · cases h; decide
  · cases h; decide
theorem plainF_err {n : Nat} {x : Ins3} {s : St} {k : Int} (h : plainF n x s = .error k) : k ≠ 0 := by
  unfold plainF at h
  split at h
  · cases h; decide
  · split at h
    · have := effF_err h; omega
    · cases h; decide
theorem map_err {α β : Type} {f : α → β} {r : Except Int α} {k : Int} (h : r.map f = .error k) : r = .error k := by
  cases r with
  | error e => simpa [Except.map] using h
  | ok a => cases h
theorem stepB_err {n : Nat} {x : Ins3} {b : Bs} {k : Int} (h : stepB n x b = .error k) : k ≠ 0 := by
  unfold stepB at h
  by_cases e22 : x.op = 22
  · rw [if_pos e22] at h; cases h
  rw [if_neg e22] at h
  by_cases e26 : x.op = 26
  · rw [if_pos e26] at h
    cases hl : b.ms.getLast? with
    | none => rw [hl] at h; cases h
    | some m => rw [hl] at h; cases h
  rw [if_neg e26] at h
  by_cases e23 : x.op = 23
  · rw [if_pos e23] at h; cases h
  rw [if_neg e23] at h
  by_cases e24 : x.op = 24
  · rw [if_pos e24] at h
    cases hl : b.ms.getLast? with
    | none => rw [hl] at h; cases h; decide
    | some m => rw [hl] at h; cases h
  rw [if_neg e24] at h
  by_cases e25 : x.op = 25
  · rw [if_pos e25] at h; cases h
  rw [if_neg e25] at h
  by_cases e4 : x.op = 4 ∨ x.op = 5 ∨ x.op = 6 ∨ x.op = 7
  · rw [if_pos e4] at h; exact touchF_err (map_err h)
  rw [if_neg e4] at h
  by_cases e27 : x.op = 27 ∨ x.op = 28 ∨ x.op = 21
  · rw [if_pos e27] at h; cases h; decide
  rw [if_neg e27] at h
  exact plainF_err (map_err h)
theorem loopB_err (l : List Ins3) : ∀ (j : Nat) (b : Bs) (k : Int), loopB l j b = .error k → k ≠ 0 := by
  intro j
  induction j with
  | zero =>
    intro b k h
    unfold loopB at h
    split at h
    · split at h
      · cases h; decide
      · cases h; decide
    · cases h
  | succ j ih =>
    intro b k h
    unfold loopB at h
    split at h
    · split at h
      · cases hs : stepB l.length (xn l b.s.pc.toNat) b with
        | error e => rw [hs] at h; cases h; exact stepB_err hs
        | ok b' => rw [hs] at h; exact ih b' k h
      · cases h; decide
    · cases h
theorem blockF_err {l : List Ins3} {s : St} {hp : List Int} {j : Nat} {k : Int} (h : blockF l s hp j = .error k) : k ≠ 0 := by
  unfold blockF at h
  split at h
  · split at h
    · exact loopB_err l _ _ _ h
    · cases h; decide
  · cases h; decide
set_option maxRecDepth 20000 in
set_option maxHeartbeats 8000000 in
theorem block_err (l : List Ins3) (c : Nat) (A : Option Addr) (hlc : l.length ≤ c) (hll : l.length ≤ 900) (s : St) (hs : s.ok) (hp : List Int) (most : Int) (hn : s.stk.length ≤ 100) (hro : s.out.length ≤ 100) (hhp : hp.length ≤ 100) (A1 : Option Addr) (c1 : Nat) (A2 : Option Addr) (c2 : Nat) (A3 : Option Addr) (c3 : Nat) (w : World) (h1 : Src w A1 c1 s.stk) (h2 : Src w A2 c2 s.out) (h3 : Src w A3 c3 hp) (hi : InssAt w A l) (n : Int) (hr : blockF l s hp (fuelF most).toNat = .error n) :
    Calls Try.prog 22 #[.slice A l.length c, stV s A1 c1 A2 c2, .slice A3 hp.length c3, .int .i64 most] w (OcPost (⟨3, s, hp, [], n⟩) w) := by
  have HI := Lib.hid hi
  have HR := Lib.hid hr
  have HS := Lib.hid hs
  have S1 := Lib.hid h1
  have S2 := Lib.hid h2
  have S3 := Lib.hid h3
  have BB0 := Lib.hid (show Below w.heap.size w (((w.alloc (.cells #[.int .i64 s.pc, .slice A1 s.stk.length c1, .int .u64 s.la, .int .u64 s.lb, .int .u64 s.lc, .int .u64 s.ld, .slice A2 s.out.length c2] 28)).alloc (.cells #[.int .i64 most] 3)).alloc (.cells #[.int .u8 0, .int .i64 0, .slice none 0 0, .int .u64 0, .int .u64 0, .int .u64 0, .int .u64 0, .slice none 0 0, .slice none 0 0, .slice none 0 0, .int .i64 0] 46)) from (((Below.refl _ _).alloc (Nat.le_refl _) _).alloc (by simp) _).alloc (by simp; omega) _)
  have SZ := Lib.hid (show (((w.alloc (.cells #[.int .i64 s.pc, .slice A1 s.stk.length c1, .int .u64 s.la, .int .u64 s.lb, .int .u64 s.lc, .int .u64 s.ld, .slice A2 s.out.length c2] 28)).alloc (.cells #[.int .i64 most] 3)).alloc (.cells #[.int .u8 0, .int .i64 0, .slice none 0 0, .int .u64 0, .int .u64 0, .int .u64 0, .int .u64 0, .slice none 0 0, .slice none 0 0, .slice none 0 0, .int .i64 0] 46)).heap.size = w.heap.size + 3 from by simp)
  have MO0 := Lib.hid (show (((w.alloc (.cells #[.int .i64 s.pc, .slice A1 s.stk.length c1, .int .u64 s.la, .int .u64 s.lb, .int .u64 s.lc, .int .u64 s.ld, .slice A2 s.out.length c2] 28)).alloc (.cells #[.int .i64 most] 3)).alloc (.cells #[.int .u8 0, .int .i64 0, .slice none 0 0, .int .u64 0, .int .u64 0, .int .u64 0, .int .u64 0, .slice none 0 0, .slice none 0 0, .slice none 0 0, .int .i64 0] 46)).heap[w.heap.size + 1]? = some (.cells #[.int .i64 most] 3 (0, 0)) from hp_alloc ((congrArg _ (by simp)).trans (heap_alloc_new (w.alloc _) _)) _)
  have RO0 := Lib.hid (show (((w.alloc (.cells #[.int .i64 s.pc, .slice A1 s.stk.length c1, .int .u64 s.la, .int .u64 s.lb, .int .u64 s.lc, .int .u64 s.ld, .slice A2 s.out.length c2] 28)).alloc (.cells #[.int .i64 most] 3)).alloc (.cells #[.int .u8 0, .int .i64 0, .slice none 0 0, .int .u64 0, .int .u64 0, .int .u64 0, .int .u64 0, .slice none 0 0, .slice none 0 0, .slice none 0 0, .int .i64 0] 46)).heap[w.heap.size + 1 + 1]? = some (.cells #[.int .u8 0, .int .i64 0, .slice none 0 0, .int .u64 0, .int .u64 0, .int .u64 0, .int .u64 0, .slice none 0 0, .slice none 0 0, .slice none 0 0, .int .i64 0] 46 (0, 0)) from (congrArg _ (by simp)).trans (heap_alloc_new ((w.alloc _).alloc _) _))
  have XB0 := Lib.hid (show (((w.alloc (.cells #[.int .i64 s.pc, .slice A1 s.stk.length c1, .int .u64 s.la, .int .u64 s.lb, .int .u64 s.lc, .int .u64 s.ld, .slice A2 s.out.length c2] 28)).alloc (.cells #[.int .i64 most] 3)).alloc (.cells #[.int .u8 0, .int .i64 0, .slice none 0 0, .int .u64 0, .int .u64 0, .int .u64 0, .int .u64 0, .slice none 0 0, .slice none 0 0, .slice none 0 0, .int .i64 0] 46)).heap[w.heap.size]? = some (.cells #[.int .i64 s.pc, .slice A1 s.stk.length c1, .int .u64 s.la, .int .u64 s.lb, .int .u64 s.lc, .int .u64 s.ld, .slice A2 s.out.length c2] 28 (0, 0)) from hp_alloc (hp_alloc (heap_alloc_new w _) _) _)
  clear hs h1 h2 h3 hi hr
  unfold stV stC
  go_enter Try.func22, Try.ntmps22
  go_wp2_with (first | (go_at_call 41; refine (clone_src A3 c3 hp _ (S3.out.below BB3.out)).mono ?_; rintro e u4 ⟨E3, e3, rfl, hr3, hb⟩; have Q3 := Lib.hid hr3; have BB4 := Lib.hid (BB3.out.trans (hb.mono BB3.out.size)); have C4 := Lib.hid hb; clear hr3 hb) | (go_at_call 28; refine (copied_sp s A1 c1 A2 c2 _ (S1.out.below (BB2.out.alloc BB2.out.size _)) (S2.out.below (BB2.out.alloc BB2.out.size _))).mono ?_; rintro e u3 ⟨E1, e1, E2, e2, rfl, hr1, hr2, hd, hb⟩; unfold stV stC; have Q1 := Lib.hid hr1; have Q2 := Lib.hid hr2; have QD := Lib.hid hd; have BB3 := Lib.hid ((BB2.out.alloc BB2.out.size _).trans (hb.mono (by have := BB2.out.size; simp; omega))); have C3 := Lib.hid hb; clear hr1 hr2 hd hb) | (go_at_call 41; refine (clone_src A3 c3 hp _ (S3.out.below BB1.out)).mono ?_; rintro e u2 ⟨D3, d3, rfl, hr3, hb⟩; have P3 := Lib.hid hr3; have BB2 := Lib.hid (BB1.out.trans (hb.mono BB1.out.size)); have C2 := Lib.hid hb; have XB2 := Lib.hid (hp_below XB1.out hb); have x0 : u2.cell? ⟨w.heap.size, 0, none⟩ = some (.int .i64 s.pc) := hp_cell XB2.out 0; have x1 : u2.cell? ⟨w.heap.size, 1, none⟩ = some (.slice A1 s.stk.length c1) := hp_cell XB2.out 1; have x2 : u2.cell? ⟨w.heap.size, 2, none⟩ = some (.int .u64 s.la) := hp_cell XB2.out 2; have x3 : u2.cell? ⟨w.heap.size, 3, none⟩ = some (.int .u64 s.lb) := hp_cell XB2.out 3; have x4 : u2.cell? ⟨w.heap.size, 4, none⟩ = some (.int .u64 s.lc) := hp_cell XB2.out 4; have x5 : u2.cell? ⟨w.heap.size, 5, none⟩ = some (.int .u64 s.ld) := hp_cell XB2.out 5; have x6 : u2.cell? ⟨w.heap.size, 6, none⟩ = some (.slice A2 s.out.length c2) := hp_cell XB2.out 6; have lx2 := hp_lt XB2.out; clear hr3 hb) | (go_at_call 28; refine (copied_sp s A1 c1 A2 c2 _ (S1.out.below BB0.out) (S2.out.below BB0.out)).mono ?_; rintro e u1 ⟨D1, d1, D2, d2, rfl, hr1, hr2, hd, hb⟩; unfold stV stC; have P1 := Lib.hid hr1; have P2 := Lib.hid hr2; have BB1 := Lib.hid (BB0.out.trans (hb.mono BB0.out.size)); have C1 := Lib.hid hb; have XB1 := Lib.hid (hp_below XB0.out hb); clear hr1 hr2 hd hb))
  have hc2 : (u2.alloc (.cells #[.int .u8 0, .int .i64 s.pc, .slice D1 s.stk.length d1, .int .u64 s.la, .int .u64 s.lb, .int .u64 s.lc, .int .u64 s.ld, .slice D2 s.out.length d2, .slice D3 hp.length d3, .slice none 0 0, .int .i64 0] 46)).heap.size = u2.heap.size + 1 := by simp
  have z3 : u2.heap.size + 1 ≤ u3.heap.size := by have := C3.out.size; rw [hc2] at this; exact this
  have z4 : u3.heap.size ≤ u4.heap.size := C4.out.size
  have R1 := Lib.hid (row_below Q1.out C4.out)
  have R2 := Lib.hid (row_below Q2.out C4.out)
  have hK := WK.make (F := (fun k => k < u2.heap.size + 1)) (T := 91) (X := [.slice none 0 0, .slice none 0 0, .int .u8 0]) (I := .slice A l.length c) (s := s) (hp := hp) (p := ⟨E1, e1, E2, e2, E3, e3⟩) (row_base R1.out (Nat.zero_le _)) (row_base R2.out (Nat.zero_le _)) (row_base Q3.out (Nat.zero_le _)) QD.out
    (fun k hk e => by have a1 := (row_lt Q1.out k hk).2; have a2 := (row_lt Q3.out k e).1; omega) (fun k hk e => by have a1 := (row_lt Q2.out k hk).2; have a2 := (row_lt Q3.out k e).1; omega)
    (fun k hk e => by have a1 := (row_lt Q1.out k hk).1; rw [hc2] at a1; have : k < u2.heap.size + 1 := e; omega) (fun k hk e => by have a1 := (row_lt Q2.out k hk).1; rw [hc2] at a1; have : k < u2.heap.size + 1 := e; omega) (fun k hk e => by have a1 := (row_lt Q3.out k hk).1; have : k < u2.heap.size + 1 := e; omega) (fun k hk => by have : k < u2.heap.size + 1 := hk; omega) HS.out (by decide)
  have hK5 := hK.box (.cells #[.pointer (some ⟨u4.heap.size, 0, none⟩)] 88)
  have e5 : (u4.alloc (.cells (wkL (.slice A l.length c) s hp.length ⟨E1, e1, E2, e2, E3, e3⟩ [.slice none 0 0, .slice none 0 0, .int .u8 0]) 91)).heap.size = u4.heap.size + 1 := by simp
  have hG5 := heap_alloc_new (u4.alloc (.cells (wkL (.slice A l.length c) s hp.length ⟨E1, e1, E2, e2, E3, e3⟩ [.slice none 0 0, .slice none 0 0, .int .u8 0]) 91)) (.cells #[.pointer (some ⟨u4.heap.size, 0, none⟩)] 88)
  change WK (Fb _ (u4.alloc (.cells (wkL (.slice A l.length c) s hp.length ⟨E1, e1, E2, e2, E3, e3⟩ [.slice none 0 0, .slice none 0 0, .int .u8 0]) 91)).heap.size) _ _ _ _ _ _ _ _ at hK5
  rw [e5] at hK5 hG5
  have K5 := Lib.hid hK5
  have G5 := Lib.hid hG5
  have M5 := Lib.hid (hp_alloc (hp_alloc (hp_below (hp_below (hp_alloc (hp_below (hp_below MO0.out C1.out) C2.out) (.cells #[.int .u8 0, .int .i64 s.pc, .slice D1 s.stk.length d1, .int .u64 s.la, .int .u64 s.lb, .int .u64 s.lc, .int .u64 s.ld, .slice D2 s.out.length d2, .slice D3 hp.length d3, .slice none 0 0, .int .i64 0] 46)) C3.out) C4.out) (.cells (wkL (.slice A l.length c) s hp.length ⟨E1, e1, E2, e2, E3, e3⟩ [.slice none 0 0, .slice none 0 0, .int .u8 0]) 91)) (.cells #[.pointer (some ⟨u4.heap.size, 0, none⟩)] 88))
  have O5 := Lib.hid (hp_alloc (hp_alloc (hp_below (hp_below (hp_alloc (hp_below (hp_below RO0.out C1.out) C2.out) (.cells #[.int .u8 0, .int .i64 s.pc, .slice D1 s.stk.length d1, .int .u64 s.la, .int .u64 s.lb, .int .u64 s.lc, .int .u64 s.ld, .slice D2 s.out.length d2, .slice D3 hp.length d3, .slice none 0 0, .int .i64 0] 46)) C3.out) C4.out) (.cells (wkL (.slice A l.length c) s hp.length ⟨E1, e1, E2, e2, E3, e3⟩ [.slice none 0 0, .slice none 0 0, .int .u8 0]) 91)) (.cells #[.pointer (some ⟨u4.heap.size, 0, none⟩)] 88))
  have V5 := Lib.hid (hp_alloc (hp_alloc (hp_below (hp_below (heap_alloc_new u2 (.cells #[.int .u8 0, .int .i64 s.pc, .slice D1 s.stk.length d1, .int .u64 s.la, .int .u64 s.lb, .int .u64 s.lc, .int .u64 s.ld, .slice D2 s.out.length d2, .slice D3 hp.length d3, .slice none 0 0, .int .i64 0] 46)) C3.out) C4.out) (.cells (wkL (.slice A l.length c) s hp.length ⟨E1, e1, E2, e2, E3, e3⟩ [.slice none 0 0, .slice none 0 0, .int .u8 0]) 91)) (.cells #[.pointer (some ⟨u4.heap.size, 0, none⟩)] 88))
  have lf : ∀ (o o' : Obj), Below (u2.alloc (.cells #[.int .u8 0, .int .i64 s.pc, .slice D1 s.stk.length d1, .int .u64 s.la, .int .u64 s.lb, .int .u64 s.lc, .int .u64 s.ld, .slice D2 s.out.length d2, .slice D3 hp.length d3, .slice none 0 0, .int .i64 0] 46)).heap.size (u2.alloc (.cells #[.int .u8 0, .int .i64 s.pc, .slice D1 s.stk.length d1, .int .u64 s.la, .int .u64 s.lb, .int .u64 s.lc, .int .u64 s.ld, .slice D2 s.out.length d2, .slice D3 hp.length d3, .slice none 0 0, .int .i64 0] 46)) ((u4.alloc o).alloc o') := fun o o' => (((C3.out.trans (C4.out.mono C3.out.size)).alloc (Nat.le_trans C3.out.size C4.out.size) o).alloc (by have := Nat.le_trans C3.out.size C4.out.size; simp at this ⊢; omega) o')
  have lg2 := row_below (row_below P1.out C2.out) ((Below.refl _ _).alloc (Nat.le_refl _) (.cells #[.int .u8 0, .int .i64 s.pc, .slice D1 s.stk.length d1, .int .u64 s.la, .int .u64 s.lb, .int .u64 s.lc, .int .u64 s.ld, .slice D2 s.out.length d2, .slice D3 hp.length d3, .slice none 0 0, .int .i64 0] 46))
  have T1 := Lib.hid (row_below lg2 (lf (.cells (wkL (.slice A l.length c) s hp.length ⟨E1, e1, E2, e2, E3, e3⟩ [.slice none 0 0, .slice none 0 0, .int .u8 0]) 91) (.cells #[.pointer (some ⟨u4.heap.size, 0, none⟩)] 88)))
  have T2 := Lib.hid (row_below (row_below (row_below P2.out C2.out) ((Below.refl _ _).alloc (Nat.le_refl _) (.cells #[.int .u8 0, .int .i64 s.pc, .slice D1 s.stk.length d1, .int .u64 s.la, .int .u64 s.lb, .int .u64 s.lc, .int .u64 s.ld, .slice D2 s.out.length d2, .slice D3 hp.length d3, .slice none 0 0, .int .i64 0] 46))) (lf (.cells (wkL (.slice A l.length c) s hp.length ⟨E1, e1, E2, e2, E3, e3⟩ [.slice none 0 0, .slice none 0 0, .int .u8 0]) 91) (.cells #[.pointer (some ⟨u4.heap.size, 0, none⟩)] 88)))
  have T3 := Lib.hid (row_below (row_below P3.out ((Below.refl _ _).alloc (Nat.le_refl _) (.cells #[.int .u8 0, .int .i64 s.pc, .slice D1 s.stk.length d1, .int .u64 s.la, .int .u64 s.lb, .int .u64 s.lc, .int .u64 s.ld, .slice D2 s.out.length d2, .slice D3 hp.length d3, .slice none 0 0, .int .i64 0] 46))) (lf (.cells (wkL (.slice A l.length c) s hp.length ⟨E1, e1, E2, e2, E3, e3⟩ [.slice none 0 0, .slice none 0 0, .int .u8 0]) 91) (.cells #[.pointer (some ⟨u4.heap.size, 0, none⟩)] 88)))
  have B5 := Lib.hid (show Below w.heap.size w ((u4.alloc (.cells (wkL (.slice A l.length c) s hp.length ⟨E1, e1, E2, e2, E3, e3⟩ [.slice none 0 0, .slice none 0 0, .int .u8 0]) 91)).alloc (.cells #[.pointer (some ⟨u4.heap.size, 0, none⟩)] 88)) from (BB4.out.alloc BB4.out.size _).alloc (by have := BB4.out.size; simp; omega) _)
  have L1 := Lib.hid (show ∀ k, blk D1 = some k → w.heap.size + 3 ≤ k ∧ k < u2.heap.size from fun k hk => ⟨by have := (row_lt P1.out k hk).1; rw [SZ.out] at this; exact this, by have := (row_lt P1.out k hk).2; have := C2.out.size; omega⟩)
  have L2 := Lib.hid (show ∀ k, blk D2 = some k → w.heap.size + 3 ≤ k ∧ k < u2.heap.size from fun k hk => ⟨by have := (row_lt P2.out k hk).1; rw [SZ.out] at this; exact this, by have := (row_lt P2.out k hk).2; have := C2.out.size; omega⟩)
  have L3 := Lib.hid (show ∀ k, blk D3 = some k → w.heap.size + 3 ≤ k ∧ k < u2.heap.size from fun k hk => ⟨by have := (row_lt P3.out k hk).1; have := C1.out.size; rw [SZ.out] at this; omega, (row_lt P3.out k hk).2⟩)
  have U2 := Lib.hid (show w.heap.size + 3 ≤ u2.heap.size from by have := C1.out.size; have := C2.out.size; rw [SZ.out] at *; omega)
  clear hc2 z3 z4 hK hK5 e5 hG5 lf lg2 x0 x1 x2 x3 x4 x5 x6 lx2
  change Calls Try.prog _ _ ((u4.alloc (.cells (wkL (.slice A l.length c) s hp.length ⟨E1, e1, E2, e2, E3, e3⟩ [.slice none 0 0, .slice none 0 0, .int .u8 0]) 91)).alloc (.cells #[.pointer (some ⟨u4.heap.size, 0, none⟩)] 88)) _
  generalize ((u4.alloc (.cells (wkL (.slice A l.length c) s hp.length ⟨E1, e1, E2, e2, E3, e3⟩ [.slice none 0 0, .slice none 0 0, .int .u8 0]) 91)).alloc (.cells #[.pointer (some ⟨u4.heap.size, 0, none⟩)] 88)) = w5 at K5 G5 M5 O5 V5 T1 T2 T3 B5 ⊢
  have I5 : InsF (Fb (Fb (fun k => k < u2.heap.size + 1) (u4.heap.size + 1)) w5.heap.size) (w5.alloc (.cells #[.int .i64 0] 29)) A l := ⟨inss_below (inss_below HI.out B5.out) ((Below.refl _ _).alloc (Nat.le_refl _) _), (insF_of (F := Fb (Fb (fun k => k < u2.heap.size + 1) (u4.heap.size + 1)) w5.heap.size) HI.out (fun k hk => .inl (.inl (show k < u2.heap.size + 1 by have := U2.out; omega)))).2⟩
  have HF := block1_sp (B := Fb (Fb (fun k => k < u2.heap.size + 1) (u4.heap.size + 1)) w5.heap.size) (gb := u4.heap.size + 1) (mb := w.heap.size + 1) A c l hlc hll s hp most _ hn hro hhp (BK.of (K5.out.box (.cells #[.int .i64 0] 29))) I5 (hp_alloc G5.out _) (.inl (.inr rfl)) (hp_alloc M5.out _) (.inl (.inl (show w.heap.size + 1 < u2.heap.size + 1 by have := U2.out; omega)))
  rw [HR.out] at HF
  refine (attempt_sp 47 #[.pointer (some ⟨u4.heap.size + 1, 0, none⟩), .pointer (some ⟨w.heap.size + 1, 0, none⟩)] enter_block1 _ _ _ w5 K5.out.fl HF).mono ?_
  rintro e w6 ⟨he, hf6, hm⟩
  have O6 := Lib.hid (hf6.hp O5.out (.inl (show w.heap.size + 1 + 1 < u2.heap.size + 1 by have := U2.out; omega)))
  have B6 := Lib.hid (show Below w.heap.size w w6 from ⟨hf6.os.trans B5.out.os, hf6.tape.trans B5.out.tape, hf6.output.trans B5.out.output, Nat.le_trans B5.out.size hf6.size, fun k hk => (hf6.block k (.inl (show k < u2.heap.size + 1 by have := U2.out; omega))).trans (B5.out.block k hk)⟩)
  obtain rfl : e = .returned (.int .i64 n) := he
  have r0 : w6.cell? ⟨w.heap.size + 1 + 1, 0, none⟩ = some (.int .u8 0) := hp_cell O6.out 0
  have q0 := hp_frozen O6.out 0
  have r1 : w6.cell? ⟨w.heap.size + 1 + 1, 1, none⟩ = some (.int .i64 0) := hp_cell O6.out 1
  have q1 := hp_frozen O6.out 1
  have r2 : w6.cell? ⟨w.heap.size + 1 + 1, 2, none⟩ = some (.slice none 0 0) := hp_cell O6.out 2
  have q2 := hp_frozen O6.out 2
  have r3 : w6.cell? ⟨w.heap.size + 1 + 1, 3, none⟩ = some (.int .u64 0) := hp_cell O6.out 3
  have q3 := hp_frozen O6.out 3
  have r4 : w6.cell? ⟨w.heap.size + 1 + 1, 4, none⟩ = some (.int .u64 0) := hp_cell O6.out 4
  have q4 := hp_frozen O6.out 4
  have r5 : w6.cell? ⟨w.heap.size + 1 + 1, 5, none⟩ = some (.int .u64 0) := hp_cell O6.out 5
  have q5 := hp_frozen O6.out 5
  have r6 : w6.cell? ⟨w.heap.size + 1 + 1, 6, none⟩ = some (.int .u64 0) := hp_cell O6.out 6
  have q6 := hp_frozen O6.out 6
  have r7 : w6.cell? ⟨w.heap.size + 1 + 1, 7, none⟩ = some (.slice none 0 0) := hp_cell O6.out 7
  have q7 := hp_frozen O6.out 7
  have r8 : w6.cell? ⟨w.heap.size + 1 + 1, 8, none⟩ = some (.slice none 0 0) := hp_cell O6.out 8
  have q8 := hp_frozen O6.out 8
  have r9 : w6.cell? ⟨w.heap.size + 1 + 1, 9, none⟩ = some (.slice none 0 0) := hp_cell O6.out 9
  have q9 := hp_frozen O6.out 9
  have r10 : w6.cell? ⟨w.heap.size + 1 + 1, 10, none⟩ = some (.int .i64 0) := hp_cell O6.out 10
  have q10 := hp_frozen O6.out 10
  have lO := hp_lt O6.out
  have V6 := Lib.hid (hf6.hp V5.out (.inl (show u2.heap.size < u2.heap.size + 1 by omega)))
  have v0 : w6.cell? ⟨u2.heap.size, 0, none⟩ = some (.int .u8 0) := hp_cell V6.out 0
  have v1 : w6.cell? ⟨u2.heap.size, 1, none⟩ = some (.int .i64 s.pc) := hp_cell V6.out 1
  have v2 : w6.cell? ⟨u2.heap.size, 2, none⟩ = some (.slice D1 s.stk.length d1) := hp_cell V6.out 2
  have v3 : w6.cell? ⟨u2.heap.size, 3, none⟩ = some (.int .u64 s.la) := hp_cell V6.out 3
  have v4 : w6.cell? ⟨u2.heap.size, 4, none⟩ = some (.int .u64 s.lb) := hp_cell V6.out 4
  have v5 : w6.cell? ⟨u2.heap.size, 5, none⟩ = some (.int .u64 s.lc) := hp_cell V6.out 5
  have v6 : w6.cell? ⟨u2.heap.size, 6, none⟩ = some (.int .u64 s.ld) := hp_cell V6.out 6
  have v7 : w6.cell? ⟨u2.heap.size, 7, none⟩ = some (.slice D2 s.out.length d2) := hp_cell V6.out 7
  have v8 : w6.cell? ⟨u2.heap.size, 8, none⟩ = some (.slice D3 hp.length d3) := hp_cell V6.out 8
  have v9 : w6.cell? ⟨u2.heap.size, 9, none⟩ = some (.slice none 0 0) := hp_cell V6.out 9
  have v10 : w6.cell? ⟨u2.heap.size, 10, none⟩ = some (.int .i64 0) := hp_cell V6.out 10
  have vz0 := hp_frozen V6.out 0
  have vz10 := hp_frozen V6.out 10
  have lV := hp_lt V6.out
  have nV : u2.heap.size ≠ w.heap.size + 1 + 1 := by have := U2.out; omega
  have nV' : w.heap.size + 1 + 1 ≠ u2.heap.size := fun e => nV e.symm
  have N1 : ∀ k, blk D1 = some k → k ≠ w.heap.size + 1 + 1 := fun k hk e => by have := (L1.out k hk).1; omega
  have NN1 : ∀ k, blk D1 = some k → k ≠ u2.heap.size := fun k hk e => by have := (L1.out k hk).2; omega
  have Y1 := Lib.hid (row_base (row_fr T1.out hf6 (fun k hk => .inl (show k < u2.heap.size + 1 by have := (L1.out k hk).2; omega))) (base' := w.heap.size) (by have := SZ.out; have := C1.out.size; omega))
  have N2 : ∀ k, blk D2 = some k → k ≠ w.heap.size + 1 + 1 := fun k hk e => by have := (L2.out k hk).1; omega
  have NN2 : ∀ k, blk D2 = some k → k ≠ u2.heap.size := fun k hk e => by have := (L2.out k hk).2; omega
  have Y2 := Lib.hid (row_base (row_fr T2.out hf6 (fun k hk => .inl (show k < u2.heap.size + 1 by have := (L2.out k hk).2; omega))) (base' := w.heap.size) (by have := SZ.out; have := C1.out.size; omega))
  have N3 : ∀ k, blk D3 = some k → k ≠ w.heap.size + 1 + 1 := fun k hk e => by have := (L3.out k hk).1; omega
  have NN3 : ∀ k, blk D3 = some k → k ≠ u2.heap.size := fun k hk e => by have := (L3.out k hk).2; omega
  have Y3 := Lib.hid (row_base (row_fr T3.out hf6 (fun k hk => .inl (show k < u2.heap.size + 1 by have := (L3.out k hk).2; omega))) (base' := w.heap.size) (by have := SZ.out; have := C1.out.size; omega))
  have hn0 : n ≠ 0 := blockF_err HR.out
  have t1 : (n != 0) = true := by rw [bne_iff_ne]; exact hn0
  have t2 : (n == 0) = false := beq_eq_false_iff_ne.2 hn0
  clear hf6 HF I5 hn0 hm
  go_wp2
  refine bodyPost_ret (by simp [results, Try.results22, go_sem, r0, r1, r2, r3, r4, r5, r6, r7, r8, r9, r10]; try rfl) rfl ?_
  refine ⟨?_, D1, d1, D2, d2, D3, d3, none, 0, rfl, HS.out, ?_, ?_, ?_, ⟨World.ownsRow_nil _ 0 _ 1, fun v hv => (List.not_mem_nil hv).elim⟩, fun k hk => by cases hk⟩
  · (repeat (with_reducible refine bl_new ?_ ?_ _)); exact B6.out
    all_goals (first | (show w.heap.size ≤ w.heap.size + 1 + 1; omega) | (show w.heap.size ≤ u2.heap.size; have := U2.out; omega))
  · (repeat (with_reducible first | refine row_ne ?_ N1 _ _ | refine row_ne ?_ NN1 _ _)); exact Y1.out
  · (repeat (with_reducible first | refine row_ne ?_ N2 _ _ | refine row_ne ?_ NN2 _ _)); exact Y2.out
  · (repeat (with_reducible first | refine row_ne ?_ N3 _ _ | refine row_ne ?_ NN3 _ _)); exact Y3.out
set_option maxRecDepth 20000 in
set_option maxHeartbeats 8000000 in
theorem block_ret (l : List Ins3) (c : Nat) (A : Option Addr) (hlc : l.length ≤ c) (hll : l.length ≤ 900) (s : St) (hs : s.ok) (hp : List Int) (most : Int) (hn : s.stk.length ≤ 100) (hro : s.out.length ≤ 100) (hhp : hp.length ≤ 100) (A1 : Option Addr) (c1 : Nat) (A2 : Option Addr) (c2 : Nat) (A3 : Option Addr) (c3 : Nat) (w : World) (h1 : Src w A1 c1 s.stk) (h2 : Src w A2 c2 s.out) (h3 : Src w A3 c3 hp) (hi : InssAt w A l) (b : Bs) (hr : blockF l s hp (fuelF most).toNat = .ok b)  (hkd : b.kind = 2):
    Calls Try.prog 22 #[.slice A l.length c, stV s A1 c1 A2 c2, .slice A3 hp.length c3, .int .i64 most] w (OcPost (⟨2, s, hp, [], 0⟩) w) := by
  have HI := Lib.hid hi
  have HR := Lib.hid hr
  have HS := Lib.hid hs
  have S1 := Lib.hid h1
  have S2 := Lib.hid h2
  have S3 := Lib.hid h3
  have BB0 := Lib.hid (show Below w.heap.size w (((w.alloc (.cells #[.int .i64 s.pc, .slice A1 s.stk.length c1, .int .u64 s.la, .int .u64 s.lb, .int .u64 s.lc, .int .u64 s.ld, .slice A2 s.out.length c2] 28)).alloc (.cells #[.int .i64 most] 3)).alloc (.cells #[.int .u8 0, .int .i64 0, .slice none 0 0, .int .u64 0, .int .u64 0, .int .u64 0, .int .u64 0, .slice none 0 0, .slice none 0 0, .slice none 0 0, .int .i64 0] 46)) from (((Below.refl _ _).alloc (Nat.le_refl _) _).alloc (by simp) _).alloc (by simp; omega) _)
  have SZ := Lib.hid (show (((w.alloc (.cells #[.int .i64 s.pc, .slice A1 s.stk.length c1, .int .u64 s.la, .int .u64 s.lb, .int .u64 s.lc, .int .u64 s.ld, .slice A2 s.out.length c2] 28)).alloc (.cells #[.int .i64 most] 3)).alloc (.cells #[.int .u8 0, .int .i64 0, .slice none 0 0, .int .u64 0, .int .u64 0, .int .u64 0, .int .u64 0, .slice none 0 0, .slice none 0 0, .slice none 0 0, .int .i64 0] 46)).heap.size = w.heap.size + 3 from by simp)
  have MO0 := Lib.hid (show (((w.alloc (.cells #[.int .i64 s.pc, .slice A1 s.stk.length c1, .int .u64 s.la, .int .u64 s.lb, .int .u64 s.lc, .int .u64 s.ld, .slice A2 s.out.length c2] 28)).alloc (.cells #[.int .i64 most] 3)).alloc (.cells #[.int .u8 0, .int .i64 0, .slice none 0 0, .int .u64 0, .int .u64 0, .int .u64 0, .int .u64 0, .slice none 0 0, .slice none 0 0, .slice none 0 0, .int .i64 0] 46)).heap[w.heap.size + 1]? = some (.cells #[.int .i64 most] 3 (0, 0)) from hp_alloc ((congrArg _ (by simp)).trans (heap_alloc_new (w.alloc _) _)) _)
  have RO0 := Lib.hid (show (((w.alloc (.cells #[.int .i64 s.pc, .slice A1 s.stk.length c1, .int .u64 s.la, .int .u64 s.lb, .int .u64 s.lc, .int .u64 s.ld, .slice A2 s.out.length c2] 28)).alloc (.cells #[.int .i64 most] 3)).alloc (.cells #[.int .u8 0, .int .i64 0, .slice none 0 0, .int .u64 0, .int .u64 0, .int .u64 0, .int .u64 0, .slice none 0 0, .slice none 0 0, .slice none 0 0, .int .i64 0] 46)).heap[w.heap.size + 1 + 1]? = some (.cells #[.int .u8 0, .int .i64 0, .slice none 0 0, .int .u64 0, .int .u64 0, .int .u64 0, .int .u64 0, .slice none 0 0, .slice none 0 0, .slice none 0 0, .int .i64 0] 46 (0, 0)) from (congrArg _ (by simp)).trans (heap_alloc_new ((w.alloc _).alloc _) _))
  have XB0 := Lib.hid (show (((w.alloc (.cells #[.int .i64 s.pc, .slice A1 s.stk.length c1, .int .u64 s.la, .int .u64 s.lb, .int .u64 s.lc, .int .u64 s.ld, .slice A2 s.out.length c2] 28)).alloc (.cells #[.int .i64 most] 3)).alloc (.cells #[.int .u8 0, .int .i64 0, .slice none 0 0, .int .u64 0, .int .u64 0, .int .u64 0, .int .u64 0, .slice none 0 0, .slice none 0 0, .slice none 0 0, .int .i64 0] 46)).heap[w.heap.size]? = some (.cells #[.int .i64 s.pc, .slice A1 s.stk.length c1, .int .u64 s.la, .int .u64 s.lb, .int .u64 s.lc, .int .u64 s.ld, .slice A2 s.out.length c2] 28 (0, 0)) from hp_alloc (hp_alloc (heap_alloc_new w _) _) _)
  clear hs h1 h2 h3 hi hr
  unfold stV stC
  go_enter Try.func22, Try.ntmps22
  go_wp2_with (first | (go_at_call 41; refine (clone_src A3 c3 hp _ (S3.out.below BB3.out)).mono ?_; rintro e u4 ⟨E3, e3, rfl, hr3, hb⟩; have Q3 := Lib.hid hr3; have BB4 := Lib.hid (BB3.out.trans (hb.mono BB3.out.size)); have C4 := Lib.hid hb; clear hr3 hb) | (go_at_call 28; refine (copied_sp s A1 c1 A2 c2 _ (S1.out.below (BB2.out.alloc BB2.out.size _)) (S2.out.below (BB2.out.alloc BB2.out.size _))).mono ?_; rintro e u3 ⟨E1, e1, E2, e2, rfl, hr1, hr2, hd, hb⟩; unfold stV stC; have Q1 := Lib.hid hr1; have Q2 := Lib.hid hr2; have QD := Lib.hid hd; have BB3 := Lib.hid ((BB2.out.alloc BB2.out.size _).trans (hb.mono (by have := BB2.out.size; simp; omega))); have C3 := Lib.hid hb; clear hr1 hr2 hd hb) | (go_at_call 41; refine (clone_src A3 c3 hp _ (S3.out.below BB1.out)).mono ?_; rintro e u2 ⟨D3, d3, rfl, hr3, hb⟩; have P3 := Lib.hid hr3; have BB2 := Lib.hid (BB1.out.trans (hb.mono BB1.out.size)); have C2 := Lib.hid hb; have XB2 := Lib.hid (hp_below XB1.out hb); have x0 : u2.cell? ⟨w.heap.size, 0, none⟩ = some (.int .i64 s.pc) := hp_cell XB2.out 0; have x1 : u2.cell? ⟨w.heap.size, 1, none⟩ = some (.slice A1 s.stk.length c1) := hp_cell XB2.out 1; have x2 : u2.cell? ⟨w.heap.size, 2, none⟩ = some (.int .u64 s.la) := hp_cell XB2.out 2; have x3 : u2.cell? ⟨w.heap.size, 3, none⟩ = some (.int .u64 s.lb) := hp_cell XB2.out 3; have x4 : u2.cell? ⟨w.heap.size, 4, none⟩ = some (.int .u64 s.lc) := hp_cell XB2.out 4; have x5 : u2.cell? ⟨w.heap.size, 5, none⟩ = some (.int .u64 s.ld) := hp_cell XB2.out 5; have x6 : u2.cell? ⟨w.heap.size, 6, none⟩ = some (.slice A2 s.out.length c2) := hp_cell XB2.out 6; have lx2 := hp_lt XB2.out; clear hr3 hb) | (go_at_call 28; refine (copied_sp s A1 c1 A2 c2 _ (S1.out.below BB0.out) (S2.out.below BB0.out)).mono ?_; rintro e u1 ⟨D1, d1, D2, d2, rfl, hr1, hr2, hd, hb⟩; unfold stV stC; have P1 := Lib.hid hr1; have P2 := Lib.hid hr2; have BB1 := Lib.hid (BB0.out.trans (hb.mono BB0.out.size)); have C1 := Lib.hid hb; have XB1 := Lib.hid (hp_below XB0.out hb); clear hr1 hr2 hd hb))
  have hc2 : (u2.alloc (.cells #[.int .u8 0, .int .i64 s.pc, .slice D1 s.stk.length d1, .int .u64 s.la, .int .u64 s.lb, .int .u64 s.lc, .int .u64 s.ld, .slice D2 s.out.length d2, .slice D3 hp.length d3, .slice none 0 0, .int .i64 0] 46)).heap.size = u2.heap.size + 1 := by simp
  have z3 : u2.heap.size + 1 ≤ u3.heap.size := by have := C3.out.size; rw [hc2] at this; exact this
  have z4 : u3.heap.size ≤ u4.heap.size := C4.out.size
  have R1 := Lib.hid (row_below Q1.out C4.out)
  have R2 := Lib.hid (row_below Q2.out C4.out)
  have hK := WK.make (F := (fun k => k < u2.heap.size + 1)) (T := 91) (X := [.slice none 0 0, .slice none 0 0, .int .u8 0]) (I := .slice A l.length c) (s := s) (hp := hp) (p := ⟨E1, e1, E2, e2, E3, e3⟩) (row_base R1.out (Nat.zero_le _)) (row_base R2.out (Nat.zero_le _)) (row_base Q3.out (Nat.zero_le _)) QD.out
    (fun k hk e => by have a1 := (row_lt Q1.out k hk).2; have a2 := (row_lt Q3.out k e).1; omega) (fun k hk e => by have a1 := (row_lt Q2.out k hk).2; have a2 := (row_lt Q3.out k e).1; omega)
    (fun k hk e => by have a1 := (row_lt Q1.out k hk).1; rw [hc2] at a1; have : k < u2.heap.size + 1 := e; omega) (fun k hk e => by have a1 := (row_lt Q2.out k hk).1; rw [hc2] at a1; have : k < u2.heap.size + 1 := e; omega) (fun k hk e => by have a1 := (row_lt Q3.out k hk).1; have : k < u2.heap.size + 1 := e; omega) (fun k hk => by have : k < u2.heap.size + 1 := hk; omega) HS.out (by decide)
  have hK5 := hK.box (.cells #[.pointer (some ⟨u4.heap.size, 0, none⟩)] 88)
  have e5 : (u4.alloc (.cells (wkL (.slice A l.length c) s hp.length ⟨E1, e1, E2, e2, E3, e3⟩ [.slice none 0 0, .slice none 0 0, .int .u8 0]) 91)).heap.size = u4.heap.size + 1 := by simp
  have hG5 := heap_alloc_new (u4.alloc (.cells (wkL (.slice A l.length c) s hp.length ⟨E1, e1, E2, e2, E3, e3⟩ [.slice none 0 0, .slice none 0 0, .int .u8 0]) 91)) (.cells #[.pointer (some ⟨u4.heap.size, 0, none⟩)] 88)
  change WK (Fb _ (u4.alloc (.cells (wkL (.slice A l.length c) s hp.length ⟨E1, e1, E2, e2, E3, e3⟩ [.slice none 0 0, .slice none 0 0, .int .u8 0]) 91)).heap.size) _ _ _ _ _ _ _ _ at hK5
  rw [e5] at hK5 hG5
  have K5 := Lib.hid hK5
  have G5 := Lib.hid hG5
  have M5 := Lib.hid (hp_alloc (hp_alloc (hp_below (hp_below (hp_alloc (hp_below (hp_below MO0.out C1.out) C2.out) (.cells #[.int .u8 0, .int .i64 s.pc, .slice D1 s.stk.length d1, .int .u64 s.la, .int .u64 s.lb, .int .u64 s.lc, .int .u64 s.ld, .slice D2 s.out.length d2, .slice D3 hp.length d3, .slice none 0 0, .int .i64 0] 46)) C3.out) C4.out) (.cells (wkL (.slice A l.length c) s hp.length ⟨E1, e1, E2, e2, E3, e3⟩ [.slice none 0 0, .slice none 0 0, .int .u8 0]) 91)) (.cells #[.pointer (some ⟨u4.heap.size, 0, none⟩)] 88))
  have O5 := Lib.hid (hp_alloc (hp_alloc (hp_below (hp_below (hp_alloc (hp_below (hp_below RO0.out C1.out) C2.out) (.cells #[.int .u8 0, .int .i64 s.pc, .slice D1 s.stk.length d1, .int .u64 s.la, .int .u64 s.lb, .int .u64 s.lc, .int .u64 s.ld, .slice D2 s.out.length d2, .slice D3 hp.length d3, .slice none 0 0, .int .i64 0] 46)) C3.out) C4.out) (.cells (wkL (.slice A l.length c) s hp.length ⟨E1, e1, E2, e2, E3, e3⟩ [.slice none 0 0, .slice none 0 0, .int .u8 0]) 91)) (.cells #[.pointer (some ⟨u4.heap.size, 0, none⟩)] 88))
  have V5 := Lib.hid (hp_alloc (hp_alloc (hp_below (hp_below (heap_alloc_new u2 (.cells #[.int .u8 0, .int .i64 s.pc, .slice D1 s.stk.length d1, .int .u64 s.la, .int .u64 s.lb, .int .u64 s.lc, .int .u64 s.ld, .slice D2 s.out.length d2, .slice D3 hp.length d3, .slice none 0 0, .int .i64 0] 46)) C3.out) C4.out) (.cells (wkL (.slice A l.length c) s hp.length ⟨E1, e1, E2, e2, E3, e3⟩ [.slice none 0 0, .slice none 0 0, .int .u8 0]) 91)) (.cells #[.pointer (some ⟨u4.heap.size, 0, none⟩)] 88))
  have lf : ∀ (o o' : Obj), Below (u2.alloc (.cells #[.int .u8 0, .int .i64 s.pc, .slice D1 s.stk.length d1, .int .u64 s.la, .int .u64 s.lb, .int .u64 s.lc, .int .u64 s.ld, .slice D2 s.out.length d2, .slice D3 hp.length d3, .slice none 0 0, .int .i64 0] 46)).heap.size (u2.alloc (.cells #[.int .u8 0, .int .i64 s.pc, .slice D1 s.stk.length d1, .int .u64 s.la, .int .u64 s.lb, .int .u64 s.lc, .int .u64 s.ld, .slice D2 s.out.length d2, .slice D3 hp.length d3, .slice none 0 0, .int .i64 0] 46)) ((u4.alloc o).alloc o') := fun o o' => (((C3.out.trans (C4.out.mono C3.out.size)).alloc (Nat.le_trans C3.out.size C4.out.size) o).alloc (by have := Nat.le_trans C3.out.size C4.out.size; simp at this ⊢; omega) o')
  have lg2 := row_below (row_below P1.out C2.out) ((Below.refl _ _).alloc (Nat.le_refl _) (.cells #[.int .u8 0, .int .i64 s.pc, .slice D1 s.stk.length d1, .int .u64 s.la, .int .u64 s.lb, .int .u64 s.lc, .int .u64 s.ld, .slice D2 s.out.length d2, .slice D3 hp.length d3, .slice none 0 0, .int .i64 0] 46))
  have T1 := Lib.hid (row_below lg2 (lf (.cells (wkL (.slice A l.length c) s hp.length ⟨E1, e1, E2, e2, E3, e3⟩ [.slice none 0 0, .slice none 0 0, .int .u8 0]) 91) (.cells #[.pointer (some ⟨u4.heap.size, 0, none⟩)] 88)))
  have T2 := Lib.hid (row_below (row_below (row_below P2.out C2.out) ((Below.refl _ _).alloc (Nat.le_refl _) (.cells #[.int .u8 0, .int .i64 s.pc, .slice D1 s.stk.length d1, .int .u64 s.la, .int .u64 s.lb, .int .u64 s.lc, .int .u64 s.ld, .slice D2 s.out.length d2, .slice D3 hp.length d3, .slice none 0 0, .int .i64 0] 46))) (lf (.cells (wkL (.slice A l.length c) s hp.length ⟨E1, e1, E2, e2, E3, e3⟩ [.slice none 0 0, .slice none 0 0, .int .u8 0]) 91) (.cells #[.pointer (some ⟨u4.heap.size, 0, none⟩)] 88)))
  have T3 := Lib.hid (row_below (row_below P3.out ((Below.refl _ _).alloc (Nat.le_refl _) (.cells #[.int .u8 0, .int .i64 s.pc, .slice D1 s.stk.length d1, .int .u64 s.la, .int .u64 s.lb, .int .u64 s.lc, .int .u64 s.ld, .slice D2 s.out.length d2, .slice D3 hp.length d3, .slice none 0 0, .int .i64 0] 46))) (lf (.cells (wkL (.slice A l.length c) s hp.length ⟨E1, e1, E2, e2, E3, e3⟩ [.slice none 0 0, .slice none 0 0, .int .u8 0]) 91) (.cells #[.pointer (some ⟨u4.heap.size, 0, none⟩)] 88)))
  have B5 := Lib.hid (show Below w.heap.size w ((u4.alloc (.cells (wkL (.slice A l.length c) s hp.length ⟨E1, e1, E2, e2, E3, e3⟩ [.slice none 0 0, .slice none 0 0, .int .u8 0]) 91)).alloc (.cells #[.pointer (some ⟨u4.heap.size, 0, none⟩)] 88)) from (BB4.out.alloc BB4.out.size _).alloc (by have := BB4.out.size; simp; omega) _)
  have L1 := Lib.hid (show ∀ k, blk D1 = some k → w.heap.size + 3 ≤ k ∧ k < u2.heap.size from fun k hk => ⟨by have := (row_lt P1.out k hk).1; rw [SZ.out] at this; exact this, by have := (row_lt P1.out k hk).2; have := C2.out.size; omega⟩)
  have L2 := Lib.hid (show ∀ k, blk D2 = some k → w.heap.size + 3 ≤ k ∧ k < u2.heap.size from fun k hk => ⟨by have := (row_lt P2.out k hk).1; rw [SZ.out] at this; exact this, by have := (row_lt P2.out k hk).2; have := C2.out.size; omega⟩)
  have L3 := Lib.hid (show ∀ k, blk D3 = some k → w.heap.size + 3 ≤ k ∧ k < u2.heap.size from fun k hk => ⟨by have := (row_lt P3.out k hk).1; have := C1.out.size; rw [SZ.out] at this; omega, (row_lt P3.out k hk).2⟩)
  have U2 := Lib.hid (show w.heap.size + 3 ≤ u2.heap.size from by have := C1.out.size; have := C2.out.size; rw [SZ.out] at *; omega)
  clear hc2 z3 z4 hK hK5 e5 hG5 lf lg2 x0 x1 x2 x3 x4 x5 x6 lx2
  change Calls Try.prog _ _ ((u4.alloc (.cells (wkL (.slice A l.length c) s hp.length ⟨E1, e1, E2, e2, E3, e3⟩ [.slice none 0 0, .slice none 0 0, .int .u8 0]) 91)).alloc (.cells #[.pointer (some ⟨u4.heap.size, 0, none⟩)] 88)) _
  generalize ((u4.alloc (.cells (wkL (.slice A l.length c) s hp.length ⟨E1, e1, E2, e2, E3, e3⟩ [.slice none 0 0, .slice none 0 0, .int .u8 0]) 91)).alloc (.cells #[.pointer (some ⟨u4.heap.size, 0, none⟩)] 88)) = w5 at K5 G5 M5 O5 V5 T1 T2 T3 B5 ⊢
  have I5 : InsF (Fb (Fb (fun k => k < u2.heap.size + 1) (u4.heap.size + 1)) w5.heap.size) (w5.alloc (.cells #[.int .i64 0] 29)) A l := ⟨inss_below (inss_below HI.out B5.out) ((Below.refl _ _).alloc (Nat.le_refl _) _), (insF_of (F := Fb (Fb (fun k => k < u2.heap.size + 1) (u4.heap.size + 1)) w5.heap.size) HI.out (fun k hk => .inl (.inl (show k < u2.heap.size + 1 by have := U2.out; omega)))).2⟩
  have HF := block1_sp (B := Fb (Fb (fun k => k < u2.heap.size + 1) (u4.heap.size + 1)) w5.heap.size) (gb := u4.heap.size + 1) (mb := w.heap.size + 1) A c l hlc hll s hp most _ hn hro hhp (BK.of (K5.out.box (.cells #[.int .i64 0] 29))) I5 (hp_alloc G5.out _) (.inl (.inr rfl)) (hp_alloc M5.out _) (.inl (.inl (show w.heap.size + 1 < u2.heap.size + 1 by have := U2.out; omega)))
  rw [HR.out] at HF
  refine (attempt_sp 47 #[.pointer (some ⟨u4.heap.size + 1, 0, none⟩), .pointer (some ⟨w.heap.size + 1, 0, none⟩)] enter_block1 _ _ _ w5 K5.out.fl HF).mono ?_
  rintro e w6 ⟨he, hf6, hm⟩
  have O6 := Lib.hid (hf6.hp O5.out (.inl (show w.heap.size + 1 + 1 < u2.heap.size + 1 by have := U2.out; omega)))
  have B6 := Lib.hid (show Below w.heap.size w w6 from ⟨hf6.os.trans B5.out.os, hf6.tape.trans B5.out.tape, hf6.output.trans B5.out.output, Nat.le_trans B5.out.size hf6.size, fun k hk => (hf6.block k (.inl (show k < u2.heap.size + 1 by have := U2.out; omega))).trans (B5.out.block k hk)⟩)
  obtain rfl : e = .returned (.int .i64 0) := he
  obtain ⟨w0, ⟨p6, ms6, Ab6, cb6, Aa6, ca6, hk⟩, he0, hw6⟩ := hm
  have hk6 := hk.err (fun e => Nat.lt_irrefl _ (K5.out.fl _ e)) (.int .i64 0)
  rw [← hw6] at hk6
  have K6 := Lib.hid hk6
  have G6 := Lib.hid (hf6.hp G5.out (.inr rfl))
  have g6 : w6.cell? ⟨u4.heap.size + 1, 0, none⟩ = some (.pointer (some ⟨u4.heap.size, 0, none⟩)) := hp_cell G6.out 0
  have lgb := hp_lt G6.out
  have lg := K6.out.wk.lt
  have k11 := K6.out.b9.2.2
  clear hk hk6 he0 hw6
  have r0 : w6.cell? ⟨w.heap.size + 1 + 1, 0, none⟩ = some (.int .u8 0) := hp_cell O6.out 0
  have q0 := hp_frozen O6.out 0
  have r1 : w6.cell? ⟨w.heap.size + 1 + 1, 1, none⟩ = some (.int .i64 0) := hp_cell O6.out 1
  have q1 := hp_frozen O6.out 1
  have r2 : w6.cell? ⟨w.heap.size + 1 + 1, 2, none⟩ = some (.slice none 0 0) := hp_cell O6.out 2
  have q2 := hp_frozen O6.out 2
  have r3 : w6.cell? ⟨w.heap.size + 1 + 1, 3, none⟩ = some (.int .u64 0) := hp_cell O6.out 3
  have q3 := hp_frozen O6.out 3
  have r4 : w6.cell? ⟨w.heap.size + 1 + 1, 4, none⟩ = some (.int .u64 0) := hp_cell O6.out 4
  have q4 := hp_frozen O6.out 4
  have r5 : w6.cell? ⟨w.heap.size + 1 + 1, 5, none⟩ = some (.int .u64 0) := hp_cell O6.out 5
  have q5 := hp_frozen O6.out 5
  have r6 : w6.cell? ⟨w.heap.size + 1 + 1, 6, none⟩ = some (.int .u64 0) := hp_cell O6.out 6
  have q6 := hp_frozen O6.out 6
  have r7 : w6.cell? ⟨w.heap.size + 1 + 1, 7, none⟩ = some (.slice none 0 0) := hp_cell O6.out 7
  have q7 := hp_frozen O6.out 7
  have r8 : w6.cell? ⟨w.heap.size + 1 + 1, 8, none⟩ = some (.slice none 0 0) := hp_cell O6.out 8
  have q8 := hp_frozen O6.out 8
  have r9 : w6.cell? ⟨w.heap.size + 1 + 1, 9, none⟩ = some (.slice none 0 0) := hp_cell O6.out 9
  have q9 := hp_frozen O6.out 9
  have r10 : w6.cell? ⟨w.heap.size + 1 + 1, 10, none⟩ = some (.int .i64 0) := hp_cell O6.out 10
  have q10 := hp_frozen O6.out 10
  have lO := hp_lt O6.out
  have V6 := Lib.hid (hf6.hp V5.out (.inl (show u2.heap.size < u2.heap.size + 1 by omega)))
  have v0 : w6.cell? ⟨u2.heap.size, 0, none⟩ = some (.int .u8 0) := hp_cell V6.out 0
  have v1 : w6.cell? ⟨u2.heap.size, 1, none⟩ = some (.int .i64 s.pc) := hp_cell V6.out 1
  have v2 : w6.cell? ⟨u2.heap.size, 2, none⟩ = some (.slice D1 s.stk.length d1) := hp_cell V6.out 2
  have v3 : w6.cell? ⟨u2.heap.size, 3, none⟩ = some (.int .u64 s.la) := hp_cell V6.out 3
  have v4 : w6.cell? ⟨u2.heap.size, 4, none⟩ = some (.int .u64 s.lb) := hp_cell V6.out 4
  have v5 : w6.cell? ⟨u2.heap.size, 5, none⟩ = some (.int .u64 s.lc) := hp_cell V6.out 5
  have v6 : w6.cell? ⟨u2.heap.size, 6, none⟩ = some (.int .u64 s.ld) := hp_cell V6.out 6
  have v7 : w6.cell? ⟨u2.heap.size, 7, none⟩ = some (.slice D2 s.out.length d2) := hp_cell V6.out 7
  have v8 : w6.cell? ⟨u2.heap.size, 8, none⟩ = some (.slice D3 hp.length d3) := hp_cell V6.out 8
  have v9 : w6.cell? ⟨u2.heap.size, 9, none⟩ = some (.slice none 0 0) := hp_cell V6.out 9
  have v10 : w6.cell? ⟨u2.heap.size, 10, none⟩ = some (.int .i64 0) := hp_cell V6.out 10
  have vz0 := hp_frozen V6.out 0
  have vz10 := hp_frozen V6.out 10
  have lV := hp_lt V6.out
  have nV : u2.heap.size ≠ w.heap.size + 1 + 1 := by have := U2.out; omega
  have nV' : w.heap.size + 1 + 1 ≠ u2.heap.size := fun e => nV e.symm
  have N1 : ∀ k, blk D1 = some k → k ≠ w.heap.size + 1 + 1 := fun k hk e => by have := (L1.out k hk).1; omega
  have NN1 : ∀ k, blk D1 = some k → k ≠ u2.heap.size := fun k hk e => by have := (L1.out k hk).2; omega
  have Y1 := Lib.hid (row_base (row_fr T1.out hf6 (fun k hk => .inl (show k < u2.heap.size + 1 by have := (L1.out k hk).2; omega))) (base' := w.heap.size) (by have := SZ.out; have := C1.out.size; omega))
  have N2 : ∀ k, blk D2 = some k → k ≠ w.heap.size + 1 + 1 := fun k hk e => by have := (L2.out k hk).1; omega
  have NN2 : ∀ k, blk D2 = some k → k ≠ u2.heap.size := fun k hk e => by have := (L2.out k hk).2; omega
  have Y2 := Lib.hid (row_base (row_fr T2.out hf6 (fun k hk => .inl (show k < u2.heap.size + 1 by have := (L2.out k hk).2; omega))) (base' := w.heap.size) (by have := SZ.out; have := C1.out.size; omega))
  have N3 : ∀ k, blk D3 = some k → k ≠ w.heap.size + 1 + 1 := fun k hk e => by have := (L3.out k hk).1; omega
  have NN3 : ∀ k, blk D3 = some k → k ≠ u2.heap.size := fun k hk e => by have := (L3.out k hk).2; omega
  have Y3 := Lib.hid (row_base (row_fr T3.out hf6 (fun k hk => .inl (show k < u2.heap.size + 1 by have := (L3.out k hk).2; omega))) (base' := w.heap.size) (by have := SZ.out; have := C1.out.size; omega))
  rw [hkd] at k11
  clear hf6 HF I5 hkd
  go_wp2
  refine bodyPost_ret (by simp [results, Try.results22, go_sem, r0, r1, r2, r3, r4, r5, r6, r7, r8, r9, r10]; try rfl) rfl ?_
  refine ⟨?_, D1, d1, D2, d2, D3, d3, none, 0, rfl, HS.out, ?_, ?_, ?_, ⟨World.ownsRow_nil _ 0 _ 1, fun v hv => (List.not_mem_nil hv).elim⟩, fun k hk => by cases hk⟩
  · (repeat (with_reducible refine bl_new ?_ ?_ _)); exact B6.out
    all_goals (first | (show w.heap.size ≤ w.heap.size + 1 + 1; omega) | (show w.heap.size ≤ u2.heap.size; have := U2.out; omega))
  · (repeat (with_reducible first | refine row_ne ?_ N1 _ _ | refine row_ne ?_ NN1 _ _)); exact Y1.out
  · (repeat (with_reducible first | refine row_ne ?_ N2 _ _ | refine row_ne ?_ NN2 _ _)); exact Y2.out
  · (repeat (with_reducible first | refine row_ne ?_ N3 _ _ | refine row_ne ?_ NN3 _ _)); exact Y3.out
set_option maxRecDepth 20000 in
set_option maxHeartbeats 8000000 in
theorem block_fin (l : List Ins3) (c : Nat) (A : Option Addr) (hlc : l.length ≤ c) (hll : l.length ≤ 900) (s : St) (hs : s.ok) (hp : List Int) (most : Int) (hn : s.stk.length ≤ 100) (hro : s.out.length ≤ 100) (hhp : hp.length ≤ 100) (A1 : Option Addr) (c1 : Nat) (A2 : Option Addr) (c2 : Nat) (A3 : Option Addr) (c3 : Nat) (w : World) (h1 : Src w A1 c1 s.stk) (h2 : Src w A2 c2 s.out) (h3 : Src w A3 c3 hp) (hi : InssAt w A l) (b : Bs) (hr : blockF l s hp (fuelF most).toNat = .ok b)  (hkd : b.kind ≠ 2):
    Calls Try.prog 22 #[.slice A l.length c, stV s A1 c1 A2 c2, .slice A3 hp.length c3, .int .i64 most] w (OcPost (⟨1, b.s, b.hp, b.arms, 0⟩) w) := by
  have HI := Lib.hid hi
  have HR := Lib.hid hr
  have HS := Lib.hid hs
  have S1 := Lib.hid h1
  have S2 := Lib.hid h2
  have S3 := Lib.hid h3
  have BB0 := Lib.hid (show Below w.heap.size w (((w.alloc (.cells #[.int .i64 s.pc, .slice A1 s.stk.length c1, .int .u64 s.la, .int .u64 s.lb, .int .u64 s.lc, .int .u64 s.ld, .slice A2 s.out.length c2] 28)).alloc (.cells #[.int .i64 most] 3)).alloc (.cells #[.int .u8 0, .int .i64 0, .slice none 0 0, .int .u64 0, .int .u64 0, .int .u64 0, .int .u64 0, .slice none 0 0, .slice none 0 0, .slice none 0 0, .int .i64 0] 46)) from (((Below.refl _ _).alloc (Nat.le_refl _) _).alloc (by simp) _).alloc (by simp; omega) _)
  have SZ := Lib.hid (show (((w.alloc (.cells #[.int .i64 s.pc, .slice A1 s.stk.length c1, .int .u64 s.la, .int .u64 s.lb, .int .u64 s.lc, .int .u64 s.ld, .slice A2 s.out.length c2] 28)).alloc (.cells #[.int .i64 most] 3)).alloc (.cells #[.int .u8 0, .int .i64 0, .slice none 0 0, .int .u64 0, .int .u64 0, .int .u64 0, .int .u64 0, .slice none 0 0, .slice none 0 0, .slice none 0 0, .int .i64 0] 46)).heap.size = w.heap.size + 3 from by simp)
  have MO0 := Lib.hid (show (((w.alloc (.cells #[.int .i64 s.pc, .slice A1 s.stk.length c1, .int .u64 s.la, .int .u64 s.lb, .int .u64 s.lc, .int .u64 s.ld, .slice A2 s.out.length c2] 28)).alloc (.cells #[.int .i64 most] 3)).alloc (.cells #[.int .u8 0, .int .i64 0, .slice none 0 0, .int .u64 0, .int .u64 0, .int .u64 0, .int .u64 0, .slice none 0 0, .slice none 0 0, .slice none 0 0, .int .i64 0] 46)).heap[w.heap.size + 1]? = some (.cells #[.int .i64 most] 3 (0, 0)) from hp_alloc ((congrArg _ (by simp)).trans (heap_alloc_new (w.alloc _) _)) _)
  have RO0 := Lib.hid (show (((w.alloc (.cells #[.int .i64 s.pc, .slice A1 s.stk.length c1, .int .u64 s.la, .int .u64 s.lb, .int .u64 s.lc, .int .u64 s.ld, .slice A2 s.out.length c2] 28)).alloc (.cells #[.int .i64 most] 3)).alloc (.cells #[.int .u8 0, .int .i64 0, .slice none 0 0, .int .u64 0, .int .u64 0, .int .u64 0, .int .u64 0, .slice none 0 0, .slice none 0 0, .slice none 0 0, .int .i64 0] 46)).heap[w.heap.size + 1 + 1]? = some (.cells #[.int .u8 0, .int .i64 0, .slice none 0 0, .int .u64 0, .int .u64 0, .int .u64 0, .int .u64 0, .slice none 0 0, .slice none 0 0, .slice none 0 0, .int .i64 0] 46 (0, 0)) from (congrArg _ (by simp)).trans (heap_alloc_new ((w.alloc _).alloc _) _))
  have XB0 := Lib.hid (show (((w.alloc (.cells #[.int .i64 s.pc, .slice A1 s.stk.length c1, .int .u64 s.la, .int .u64 s.lb, .int .u64 s.lc, .int .u64 s.ld, .slice A2 s.out.length c2] 28)).alloc (.cells #[.int .i64 most] 3)).alloc (.cells #[.int .u8 0, .int .i64 0, .slice none 0 0, .int .u64 0, .int .u64 0, .int .u64 0, .int .u64 0, .slice none 0 0, .slice none 0 0, .slice none 0 0, .int .i64 0] 46)).heap[w.heap.size]? = some (.cells #[.int .i64 s.pc, .slice A1 s.stk.length c1, .int .u64 s.la, .int .u64 s.lb, .int .u64 s.lc, .int .u64 s.ld, .slice A2 s.out.length c2] 28 (0, 0)) from hp_alloc (hp_alloc (heap_alloc_new w _) _) _)
  clear hs h1 h2 h3 hi hr
  unfold stV stC
  go_enter Try.func22, Try.ntmps22
  go_wp2_with (first | (go_at_call 41; refine (clone_src A3 c3 hp _ (S3.out.below BB3.out)).mono ?_; rintro e u4 ⟨E3, e3, rfl, hr3, hb⟩; have Q3 := Lib.hid hr3; have BB4 := Lib.hid (BB3.out.trans (hb.mono BB3.out.size)); have C4 := Lib.hid hb; clear hr3 hb) | (go_at_call 28; refine (copied_sp s A1 c1 A2 c2 _ (S1.out.below (BB2.out.alloc BB2.out.size _)) (S2.out.below (BB2.out.alloc BB2.out.size _))).mono ?_; rintro e u3 ⟨E1, e1, E2, e2, rfl, hr1, hr2, hd, hb⟩; unfold stV stC; have Q1 := Lib.hid hr1; have Q2 := Lib.hid hr2; have QD := Lib.hid hd; have BB3 := Lib.hid ((BB2.out.alloc BB2.out.size _).trans (hb.mono (by have := BB2.out.size; simp; omega))); have C3 := Lib.hid hb; clear hr1 hr2 hd hb) | (go_at_call 41; refine (clone_src A3 c3 hp _ (S3.out.below BB1.out)).mono ?_; rintro e u2 ⟨D3, d3, rfl, hr3, hb⟩; have P3 := Lib.hid hr3; have BB2 := Lib.hid (BB1.out.trans (hb.mono BB1.out.size)); have C2 := Lib.hid hb; have XB2 := Lib.hid (hp_below XB1.out hb); have x0 : u2.cell? ⟨w.heap.size, 0, none⟩ = some (.int .i64 s.pc) := hp_cell XB2.out 0; have x1 : u2.cell? ⟨w.heap.size, 1, none⟩ = some (.slice A1 s.stk.length c1) := hp_cell XB2.out 1; have x2 : u2.cell? ⟨w.heap.size, 2, none⟩ = some (.int .u64 s.la) := hp_cell XB2.out 2; have x3 : u2.cell? ⟨w.heap.size, 3, none⟩ = some (.int .u64 s.lb) := hp_cell XB2.out 3; have x4 : u2.cell? ⟨w.heap.size, 4, none⟩ = some (.int .u64 s.lc) := hp_cell XB2.out 4; have x5 : u2.cell? ⟨w.heap.size, 5, none⟩ = some (.int .u64 s.ld) := hp_cell XB2.out 5; have x6 : u2.cell? ⟨w.heap.size, 6, none⟩ = some (.slice A2 s.out.length c2) := hp_cell XB2.out 6; have lx2 := hp_lt XB2.out; clear hr3 hb) | (go_at_call 28; refine (copied_sp s A1 c1 A2 c2 _ (S1.out.below BB0.out) (S2.out.below BB0.out)).mono ?_; rintro e u1 ⟨D1, d1, D2, d2, rfl, hr1, hr2, hd, hb⟩; unfold stV stC; have P1 := Lib.hid hr1; have P2 := Lib.hid hr2; have BB1 := Lib.hid (BB0.out.trans (hb.mono BB0.out.size)); have C1 := Lib.hid hb; have XB1 := Lib.hid (hp_below XB0.out hb); clear hr1 hr2 hd hb))
  have hc2 : (u2.alloc (.cells #[.int .u8 0, .int .i64 s.pc, .slice D1 s.stk.length d1, .int .u64 s.la, .int .u64 s.lb, .int .u64 s.lc, .int .u64 s.ld, .slice D2 s.out.length d2, .slice D3 hp.length d3, .slice none 0 0, .int .i64 0] 46)).heap.size = u2.heap.size + 1 := by simp
  have z3 : u2.heap.size + 1 ≤ u3.heap.size := by have := C3.out.size; rw [hc2] at this; exact this
  have z4 : u3.heap.size ≤ u4.heap.size := C4.out.size
  have R1 := Lib.hid (row_below Q1.out C4.out)
  have R2 := Lib.hid (row_below Q2.out C4.out)
  have hK := WK.make (F := (fun k => k < u2.heap.size + 1)) (T := 91) (X := [.slice none 0 0, .slice none 0 0, .int .u8 0]) (I := .slice A l.length c) (s := s) (hp := hp) (p := ⟨E1, e1, E2, e2, E3, e3⟩) (row_base R1.out (Nat.zero_le _)) (row_base R2.out (Nat.zero_le _)) (row_base Q3.out (Nat.zero_le _)) QD.out
    (fun k hk e => by have a1 := (row_lt Q1.out k hk).2; have a2 := (row_lt Q3.out k e).1; omega) (fun k hk e => by have a1 := (row_lt Q2.out k hk).2; have a2 := (row_lt Q3.out k e).1; omega)
    (fun k hk e => by have a1 := (row_lt Q1.out k hk).1; rw [hc2] at a1; have : k < u2.heap.size + 1 := e; omega) (fun k hk e => by have a1 := (row_lt Q2.out k hk).1; rw [hc2] at a1; have : k < u2.heap.size + 1 := e; omega) (fun k hk e => by have a1 := (row_lt Q3.out k hk).1; have : k < u2.heap.size + 1 := e; omega) (fun k hk => by have : k < u2.heap.size + 1 := hk; omega) HS.out (by decide)
  have hK5 := hK.box (.cells #[.pointer (some ⟨u4.heap.size, 0, none⟩)] 88)
  have e5 : (u4.alloc (.cells (wkL (.slice A l.length c) s hp.length ⟨E1, e1, E2, e2, E3, e3⟩ [.slice none 0 0, .slice none 0 0, .int .u8 0]) 91)).heap.size = u4.heap.size + 1 := by simp
  have hG5 := heap_alloc_new (u4.alloc (.cells (wkL (.slice A l.length c) s hp.length ⟨E1, e1, E2, e2, E3, e3⟩ [.slice none 0 0, .slice none 0 0, .int .u8 0]) 91)) (.cells #[.pointer (some ⟨u4.heap.size, 0, none⟩)] 88)
  change WK (Fb _ (u4.alloc (.cells (wkL (.slice A l.length c) s hp.length ⟨E1, e1, E2, e2, E3, e3⟩ [.slice none 0 0, .slice none 0 0, .int .u8 0]) 91)).heap.size) _ _ _ _ _ _ _ _ at hK5
  rw [e5] at hK5 hG5
  have K5 := Lib.hid hK5
  have G5 := Lib.hid hG5
  have M5 := Lib.hid (hp_alloc (hp_alloc (hp_below (hp_below (hp_alloc (hp_below (hp_below MO0.out C1.out) C2.out) (.cells #[.int .u8 0, .int .i64 s.pc, .slice D1 s.stk.length d1, .int .u64 s.la, .int .u64 s.lb, .int .u64 s.lc, .int .u64 s.ld, .slice D2 s.out.length d2, .slice D3 hp.length d3, .slice none 0 0, .int .i64 0] 46)) C3.out) C4.out) (.cells (wkL (.slice A l.length c) s hp.length ⟨E1, e1, E2, e2, E3, e3⟩ [.slice none 0 0, .slice none 0 0, .int .u8 0]) 91)) (.cells #[.pointer (some ⟨u4.heap.size, 0, none⟩)] 88))
  have O5 := Lib.hid (hp_alloc (hp_alloc (hp_below (hp_below (hp_alloc (hp_below (hp_below RO0.out C1.out) C2.out) (.cells #[.int .u8 0, .int .i64 s.pc, .slice D1 s.stk.length d1, .int .u64 s.la, .int .u64 s.lb, .int .u64 s.lc, .int .u64 s.ld, .slice D2 s.out.length d2, .slice D3 hp.length d3, .slice none 0 0, .int .i64 0] 46)) C3.out) C4.out) (.cells (wkL (.slice A l.length c) s hp.length ⟨E1, e1, E2, e2, E3, e3⟩ [.slice none 0 0, .slice none 0 0, .int .u8 0]) 91)) (.cells #[.pointer (some ⟨u4.heap.size, 0, none⟩)] 88))
  have V5 := Lib.hid (hp_alloc (hp_alloc (hp_below (hp_below (heap_alloc_new u2 (.cells #[.int .u8 0, .int .i64 s.pc, .slice D1 s.stk.length d1, .int .u64 s.la, .int .u64 s.lb, .int .u64 s.lc, .int .u64 s.ld, .slice D2 s.out.length d2, .slice D3 hp.length d3, .slice none 0 0, .int .i64 0] 46)) C3.out) C4.out) (.cells (wkL (.slice A l.length c) s hp.length ⟨E1, e1, E2, e2, E3, e3⟩ [.slice none 0 0, .slice none 0 0, .int .u8 0]) 91)) (.cells #[.pointer (some ⟨u4.heap.size, 0, none⟩)] 88))
  have lf : ∀ (o o' : Obj), Below (u2.alloc (.cells #[.int .u8 0, .int .i64 s.pc, .slice D1 s.stk.length d1, .int .u64 s.la, .int .u64 s.lb, .int .u64 s.lc, .int .u64 s.ld, .slice D2 s.out.length d2, .slice D3 hp.length d3, .slice none 0 0, .int .i64 0] 46)).heap.size (u2.alloc (.cells #[.int .u8 0, .int .i64 s.pc, .slice D1 s.stk.length d1, .int .u64 s.la, .int .u64 s.lb, .int .u64 s.lc, .int .u64 s.ld, .slice D2 s.out.length d2, .slice D3 hp.length d3, .slice none 0 0, .int .i64 0] 46)) ((u4.alloc o).alloc o') := fun o o' => (((C3.out.trans (C4.out.mono C3.out.size)).alloc (Nat.le_trans C3.out.size C4.out.size) o).alloc (by have := Nat.le_trans C3.out.size C4.out.size; simp at this ⊢; omega) o')
  have lg2 := row_below (row_below P1.out C2.out) ((Below.refl _ _).alloc (Nat.le_refl _) (.cells #[.int .u8 0, .int .i64 s.pc, .slice D1 s.stk.length d1, .int .u64 s.la, .int .u64 s.lb, .int .u64 s.lc, .int .u64 s.ld, .slice D2 s.out.length d2, .slice D3 hp.length d3, .slice none 0 0, .int .i64 0] 46))
  have T1 := Lib.hid (row_below lg2 (lf (.cells (wkL (.slice A l.length c) s hp.length ⟨E1, e1, E2, e2, E3, e3⟩ [.slice none 0 0, .slice none 0 0, .int .u8 0]) 91) (.cells #[.pointer (some ⟨u4.heap.size, 0, none⟩)] 88)))
  have T2 := Lib.hid (row_below (row_below (row_below P2.out C2.out) ((Below.refl _ _).alloc (Nat.le_refl _) (.cells #[.int .u8 0, .int .i64 s.pc, .slice D1 s.stk.length d1, .int .u64 s.la, .int .u64 s.lb, .int .u64 s.lc, .int .u64 s.ld, .slice D2 s.out.length d2, .slice D3 hp.length d3, .slice none 0 0, .int .i64 0] 46))) (lf (.cells (wkL (.slice A l.length c) s hp.length ⟨E1, e1, E2, e2, E3, e3⟩ [.slice none 0 0, .slice none 0 0, .int .u8 0]) 91) (.cells #[.pointer (some ⟨u4.heap.size, 0, none⟩)] 88)))
  have T3 := Lib.hid (row_below (row_below P3.out ((Below.refl _ _).alloc (Nat.le_refl _) (.cells #[.int .u8 0, .int .i64 s.pc, .slice D1 s.stk.length d1, .int .u64 s.la, .int .u64 s.lb, .int .u64 s.lc, .int .u64 s.ld, .slice D2 s.out.length d2, .slice D3 hp.length d3, .slice none 0 0, .int .i64 0] 46))) (lf (.cells (wkL (.slice A l.length c) s hp.length ⟨E1, e1, E2, e2, E3, e3⟩ [.slice none 0 0, .slice none 0 0, .int .u8 0]) 91) (.cells #[.pointer (some ⟨u4.heap.size, 0, none⟩)] 88)))
  have B5 := Lib.hid (show Below w.heap.size w ((u4.alloc (.cells (wkL (.slice A l.length c) s hp.length ⟨E1, e1, E2, e2, E3, e3⟩ [.slice none 0 0, .slice none 0 0, .int .u8 0]) 91)).alloc (.cells #[.pointer (some ⟨u4.heap.size, 0, none⟩)] 88)) from (BB4.out.alloc BB4.out.size _).alloc (by have := BB4.out.size; simp; omega) _)
  have L1 := Lib.hid (show ∀ k, blk D1 = some k → w.heap.size + 3 ≤ k ∧ k < u2.heap.size from fun k hk => ⟨by have := (row_lt P1.out k hk).1; rw [SZ.out] at this; exact this, by have := (row_lt P1.out k hk).2; have := C2.out.size; omega⟩)
  have L2 := Lib.hid (show ∀ k, blk D2 = some k → w.heap.size + 3 ≤ k ∧ k < u2.heap.size from fun k hk => ⟨by have := (row_lt P2.out k hk).1; rw [SZ.out] at this; exact this, by have := (row_lt P2.out k hk).2; have := C2.out.size; omega⟩)
  have L3 := Lib.hid (show ∀ k, blk D3 = some k → w.heap.size + 3 ≤ k ∧ k < u2.heap.size from fun k hk => ⟨by have := (row_lt P3.out k hk).1; have := C1.out.size; rw [SZ.out] at this; omega, (row_lt P3.out k hk).2⟩)
  have U2 := Lib.hid (show w.heap.size + 3 ≤ u2.heap.size from by have := C1.out.size; have := C2.out.size; rw [SZ.out] at *; omega)
  clear hc2 z3 z4 hK hK5 e5 hG5 lf lg2 x0 x1 x2 x3 x4 x5 x6 lx2
  change Calls Try.prog _ _ ((u4.alloc (.cells (wkL (.slice A l.length c) s hp.length ⟨E1, e1, E2, e2, E3, e3⟩ [.slice none 0 0, .slice none 0 0, .int .u8 0]) 91)).alloc (.cells #[.pointer (some ⟨u4.heap.size, 0, none⟩)] 88)) _
  generalize ((u4.alloc (.cells (wkL (.slice A l.length c) s hp.length ⟨E1, e1, E2, e2, E3, e3⟩ [.slice none 0 0, .slice none 0 0, .int .u8 0]) 91)).alloc (.cells #[.pointer (some ⟨u4.heap.size, 0, none⟩)] 88)) = w5 at K5 G5 M5 O5 V5 T1 T2 T3 B5 ⊢
  have I5 : InsF (Fb (Fb (fun k => k < u2.heap.size + 1) (u4.heap.size + 1)) w5.heap.size) (w5.alloc (.cells #[.int .i64 0] 29)) A l := ⟨inss_below (inss_below HI.out B5.out) ((Below.refl _ _).alloc (Nat.le_refl _) _), (insF_of (F := Fb (Fb (fun k => k < u2.heap.size + 1) (u4.heap.size + 1)) w5.heap.size) HI.out (fun k hk => .inl (.inl (show k < u2.heap.size + 1 by have := U2.out; omega)))).2⟩
  have HF := block1_sp (B := Fb (Fb (fun k => k < u2.heap.size + 1) (u4.heap.size + 1)) w5.heap.size) (gb := u4.heap.size + 1) (mb := w.heap.size + 1) A c l hlc hll s hp most _ hn hro hhp (BK.of (K5.out.box (.cells #[.int .i64 0] 29))) I5 (hp_alloc G5.out _) (.inl (.inr rfl)) (hp_alloc M5.out _) (.inl (.inl (show w.heap.size + 1 < u2.heap.size + 1 by have := U2.out; omega)))
  rw [HR.out] at HF
  refine (attempt_sp 47 #[.pointer (some ⟨u4.heap.size + 1, 0, none⟩), .pointer (some ⟨w.heap.size + 1, 0, none⟩)] enter_block1 _ _ _ w5 K5.out.fl HF).mono ?_
  rintro e w6 ⟨he, hf6, hm⟩
  have O6 := Lib.hid (hf6.hp O5.out (.inl (show w.heap.size + 1 + 1 < u2.heap.size + 1 by have := U2.out; omega)))
  have B6 := Lib.hid (show Below w.heap.size w w6 from ⟨hf6.os.trans B5.out.os, hf6.tape.trans B5.out.tape, hf6.output.trans B5.out.output, Nat.le_trans B5.out.size hf6.size, fun k hk => (hf6.block k (.inl (show k < u2.heap.size + 1 by have := U2.out; omega))).trans (B5.out.block k hk)⟩)
  obtain rfl : e = .returned (.int .i64 0) := he
  obtain ⟨w0, ⟨p6, ms6, Ab6, cb6, Aa6, ca6, hk⟩, he0, hw6⟩ := hm
  have hk6 := hk.err (fun e => Nat.lt_irrefl _ (K5.out.fl _ e)) (.int .i64 0)
  rw [← hw6] at hk6
  have K6 := Lib.hid hk6
  have G6 := Lib.hid (hf6.hp G5.out (.inr rfl))
  have g6 : w6.cell? ⟨u4.heap.size + 1, 0, none⟩ = some (.pointer (some ⟨u4.heap.size, 0, none⟩)) := hp_cell G6.out 0
  have lgb := hp_lt G6.out
  have lg := K6.out.wk.lt
  have k11 := K6.out.b9.2.2
  clear hk hk6 he0 hw6
  have t1 : (b.kind == 2) = false := beq_eq_false_iff_ne.2 hkd
  clear hf6 HF I5 hkd
  obtain ⟨_, j1, j2, j3, j4, j5, j6, j7, j8⟩ := K6.out.wk.at
  have j10 := K6.out.b9.2.1
  go_wp2_with fail
  refine quiet_tail 15 (by kernel_rfl) (by kernel_rfl) ?_
  simp only [List.take_succ_cons, List.take_zero, List.drop_succ_cons, List.drop_zero]
  repeat (go_big_quiet_step (fail))
  refine wpQuiet_nil ?_
  have K7 := Lib.hid (K6.out.below ((Below.refl _ _).drew))
  have O7 := Lib.hid (hp_dr O6.out)
  have B7 := Lib.hid B6.out.drew
  change wpList _ _ _ _ _ w6.drew
  clear j1 j2 j3 j4 j5 j6 j7 j8 j10 k11 g6 lgb lg
  generalize w6.drew = w7 at K7 O7 B7 ⊢
  have r0 : w7.cell? ⟨w.heap.size + 1 + 1, 0, none⟩ = some (.int .u8 0) := hp_cell O7.out 0
  have q0 := hp_frozen O7.out 0
  have r1 : w7.cell? ⟨w.heap.size + 1 + 1, 1, none⟩ = some (.int .i64 0) := hp_cell O7.out 1
  have q1 := hp_frozen O7.out 1
  have r2 : w7.cell? ⟨w.heap.size + 1 + 1, 2, none⟩ = some (.slice none 0 0) := hp_cell O7.out 2
  have q2 := hp_frozen O7.out 2
  have r3 : w7.cell? ⟨w.heap.size + 1 + 1, 3, none⟩ = some (.int .u64 0) := hp_cell O7.out 3
  have q3 := hp_frozen O7.out 3
  have r4 : w7.cell? ⟨w.heap.size + 1 + 1, 4, none⟩ = some (.int .u64 0) := hp_cell O7.out 4
  have q4 := hp_frozen O7.out 4
  have r5 : w7.cell? ⟨w.heap.size + 1 + 1, 5, none⟩ = some (.int .u64 0) := hp_cell O7.out 5
  have q5 := hp_frozen O7.out 5
  have r6 : w7.cell? ⟨w.heap.size + 1 + 1, 6, none⟩ = some (.int .u64 0) := hp_cell O7.out 6
  have q6 := hp_frozen O7.out 6
  have r7 : w7.cell? ⟨w.heap.size + 1 + 1, 7, none⟩ = some (.slice none 0 0) := hp_cell O7.out 7
  have q7 := hp_frozen O7.out 7
  have r8 : w7.cell? ⟨w.heap.size + 1 + 1, 8, none⟩ = some (.slice none 0 0) := hp_cell O7.out 8
  have q8 := hp_frozen O7.out 8
  have r9 : w7.cell? ⟨w.heap.size + 1 + 1, 9, none⟩ = some (.slice none 0 0) := hp_cell O7.out 9
  have q9 := hp_frozen O7.out 9
  have r10 : w7.cell? ⟨w.heap.size + 1 + 1, 10, none⟩ = some (.int .i64 0) := hp_cell O7.out 10
  have q10 := hp_frozen O7.out 10
  have lO := hp_lt O7.out
  go_wp2
  refine bodyPost_ret (by simp [results, Try.results22, go_sem, r0, r1, r2, r3, r4, r5, r6, r7, r8, r9, r10]; try rfl) rfl ?_
  have LT : w.heap.size + 1 + 1 < u2.heap.size + 1 := by have := U2.out; omega
  have N1 : ∀ k, blk p6.A1 = some k → k ≠ w.heap.size + 1 + 1 := fun k hk e => K7.out.wk.f1 k hk (.inl (.inl (show k < u2.heap.size + 1 by omega)))
  have N2 : ∀ k, blk p6.A2 = some k → k ≠ w.heap.size + 1 + 1 := fun k hk e => K7.out.wk.f2 k hk (.inl (.inl (show k < u2.heap.size + 1 by omega)))
  have N3 : ∀ k, blk p6.A3 = some k → k ≠ w.heap.size + 1 + 1 := fun k hk e => K7.out.wk.f3 k hk (.inl (.inl (show k < u2.heap.size + 1 by omega)))
  have N4 : ∀ k, blk Aa6 = some k → k ≠ w.heap.size + 1 + 1 := fun k hk e => K7.out.bA k hk (.inl (show k < u2.heap.size + 1 by omega))
  have GE : ∀ k, ¬ k < u2.heap.size + 1 → w.heap.size ≤ k := fun k hk => by have := U2.out; omega
  have Y1 := row_rebase (base' := w.heap.size) K7.out.wk.stk (fun k hk => GE k (fun e => K7.out.wk.f1 k hk (.inl (.inl e))))
  have Y2 := row_rebase (base' := w.heap.size) K7.out.wk.out (fun k hk => GE k (fun e => K7.out.wk.f2 k hk (.inl (.inl e))))
  have Y3 := row_rebase (base' := w.heap.size) K7.out.wk.hep (fun k hk => GE k (fun e => K7.out.wk.f3 k hk (.inl (.inl e))))
  refine ⟨?_, p6.A1, p6.c1, p6.A2, p6.c2, p6.A3, p6.c3, Aa6, ca6, rfl, K7.out.wk.ok, ?_, ?_, ?_, ?_, fun k hk => GE k (fun e => K7.out.bA k hk (.inl e))⟩
  · (repeat (with_reducible refine bl_new ?_ ?_ _)); exact B7.out
    all_goals (show w.heap.size ≤ w.heap.size + 1 + 1; omega)
  · (repeat (with_reducible refine row_ne ?_ N1 _ _)); exact Y1
  · (repeat (with_reducible refine row_ne ?_ N2 _ _)); exact Y2
  · (repeat (with_reducible refine row_ne ?_ N3 _ _)); exact Y3
  · (repeat (with_reducible refine grow_ne ?_ N4 _ _)); exact K7.out.ra
/-- What a block over a heap comes to. -/
theorem block_sp (l : List Ins3) (c : Nat) (A : Option Addr) (hlc : l.length ≤ c) (hll : l.length ≤ 900) (s : St) (hs : s.ok) (hp : List Int) (most : Int) (hn : s.stk.length ≤ 100) (hro : s.out.length ≤ 100) (hhp : hp.length ≤ 100) (A1 : Option Addr) (c1 : Nat) (A2 : Option Addr) (c2 : Nat) (A3 : Option Addr) (c3 : Nat) (w : World) (h1 : Src w A1 c1 s.stk) (h2 : Src w A2 c2 s.out) (h3 : Src w A3 c3 hp) (hi : InssAt w A l) :
    Calls Try.prog 22 #[.slice A l.length c, stV s A1 c1 A2 c2, .slice A3 hp.length c3, .int .i64 most] w (OcPost (ocF s hp (blockF l s hp (fuelF most).toNat)) w) := by
  cases hr : blockF l s hp (fuelF most).toNat with
  | error n => exact block_err l c A hlc hll s hs hp most hn hro hhp A1 c1 A2 c2 A3 c3 w h1 h2 h3 hi n hr
  | ok b =>
    unfold ocF
    dsimp only
    by_cases hkd : b.kind = 2
    · rw [if_pos hkd]; exact block_ret l c A hlc hll s hs hp most hn hro hhp A1 c1 A2 c2 A3 c3 w h1 h2 h3 hi b hr hkd
    · rw [if_neg hkd]; exact block_fin l c A hlc hll s hs hp most hn hro hhp A1 c1 A2 c2 A3 c3 w h1 h2 h3 hi b hr hkd
end Go.Proofs.Ytlgpjcdlomhlcaa
