
/-
  calls: the objects, fits, ContainsFunc, Tvars.
-/
import Derived.Test.YtmmfadakhnagpaaCl3
import Derived.Test.YtmmfadakhnagpaaCalls
import Derived.Test.YtmmfadakhnagpaaRef6
import Derived.Test.YtmmfadakhnagpaaFlow1
import Derived.Deep.LoopGhost
import Derived.Deep.CutBlock
import Derived.LoopTactic
import Derived.Handy
namespace Go.Proofs.Ytmmfadakhnagpaa
open Go.RowKit Go.ChangeShapes Go.WideShapes
set_option linter.unusedSimpArgs false
set_option linter.unusedVariables false

theorem goodK_eq (k s : Int) : goodK k s = goodB k s := by
  unfold goodK goodB
  cases h1 : (k == 1) <;> cases h2 : (k == 2) <;> cases h3 : (k == 3) <;> cases h4 : (k == 4) <;> simp_all
/-- An object that takes its calls. -/
def TkP (f : FuncId) (w : World) (p : Nat) (K : Int) : Prop := ∀ w', Below w.heap.size w w' → ∀ c : Int, Calls Try.prog f #[.pointer (some ⟨p, 0, none⟩), .int .u8 c] w' fun e w'' => e = .returned (.bool (tkI K c)) ∧ w' = w''
theorem TkP.below {f : FuncId} {w w1 : World} {p : Nat} {K : Int} (h : TkP f w p K) (hb : Below w.heap.size w w1) : TkP f w1 p K := fun w' h' c => h w' (hb.trans (h'.mono hb.size)) c
theorem newO (K sz : Int) (h : goodK K sz = true) (w : World) : Calls Try.prog 18 #[.int .u8 K, .int .i64 sz] w fun e w' => ∃ p, e = .returned (.pointer (some ⟨p, 0, none⟩)) ∧ TkP 43 w' p K ∧ Below w.heap.size w w' := by
  rcases good_cases h with ⟨rfl, rfl⟩ | ⟨rfl, h1, h2⟩ | ⟨rfl, h1, h2⟩ | ⟨rfl, h1, h2⟩
  · refine (newMu w).mono ?_
    rintro e w' ⟨p, a, he, H, hb, _, _⟩
    exact ⟨p, he, fun w2 h2 c => muTakesO p a _ c w2 (muAt_below H h2), hb⟩
  · refine (newSe sz h1 h2 w).mono ?_
    rintro e w' ⟨p, a, he, H, hb, _, _⟩
    exact ⟨p, he, fun w2 h2 c => seTakesO p a _ c w2 (seAt_below H h2), hb⟩
  · refine (newQu (fun _ => True) (fun _ => trivial) sz h1 h2 w).mono ?_
    rintro e w' ⟨p, a, he, H, hb, _, _⟩
    exact ⟨p, he, fun w2 h2 c => quTakesO p a _ c w2 (quAt_below H h2), hb⟩
  · refine (newBa sz h1 h2 w).mono ?_
    rintro e w' ⟨p, a, he, H, hb, _, _⟩
    exact ⟨p, he, fun w2 h2 c => baTakesO p a _ c w2 (baAt_below H h2), hb⟩
theorem newR (K sz : Int) (h : goodK K sz = true) (w : World) : Calls Try.prog 14 #[.int .u8 K, .int .i64 sz] w fun e w' => ∃ p, e = .returned (.pointer (some ⟨p, 0, none⟩)) ∧ TkP 24 w' p K ∧ Below w.heap.size w w' := by
  rcases good_cases h with ⟨rfl, rfl⟩ | ⟨rfl, h1, h2⟩ | ⟨rfl, h1, h2⟩ | ⟨rfl, h1, h2⟩
  · refine (rNew1 (ok := fun _ => True) (fun _ => trivial) w).mono ?_
    rintro e w' ⟨p, he, H, hb, _⟩
    exact ⟨p, he, fun w2 h2 c => rTakes_1 c w2 (RIn_below H h2), hb⟩
  · refine (rNew2 (ok := fun _ => True) (fun _ => trivial) sz h1 h2 w).mono ?_
    rintro e w' ⟨p, he, H, hb, _⟩
    exact ⟨p, he, fun w2 h2 c => rTakes_2 c w2 (RIn_below H h2), hb⟩
  · refine (rNew3 (ok := fun _ => True) (fun _ => trivial) sz h1 h2 w).mono ?_
    rintro e w' ⟨p, he, H, hb, _⟩
    exact ⟨p, he, fun w2 h2 c => rTakes_3 c w2 (RIn_below H h2), hb⟩
  · refine (rNew4 (ok := fun _ => True) (fun _ => trivial) sz h1 h2 w).mono ?_
    rintro e w' ⟨p, he, H, hb, _⟩
    exact ⟨p, he, fun w2 h2 c => rTakes_4 c w2 (RIn_below H h2), hb⟩
set_option maxHeartbeats 8000000 in
theorem cfits (p : Nat) (K who : Int) (c : Cl) (hc : c.ok) (w : World) (HT : TkP 43 w p K) : Calls Try.prog 21 #[.pointer (some ⟨p, 0, none⟩), .int .i64 who, .agg #[.int .u8 c.k, .int .i64 c.who, .int .u64 c.v]] w fun e w' => e = .returned (.bool (fitF K who c)) ∧ Below w.heap.size w w' := by
  obtain ⟨k, cw, v⟩ := c
  have hb := (Below.refl w.heap.size w).alloc (Nat.le_refl _) (.cells #[.int .u8 k, .int .i64 cw, .int .u64 v] 55)
  have HK := Lib.hid (HT _ hb k)
  have HB := Lib.hid hb
  have HR := Lib.hid (right_any v hc.2.2)
  unfold fitF
  dsimp only
  obtain ⟨tk, htk⟩ : ∃ b, tkI K k = b := ⟨_, rfl⟩
  obtain ⟨rb, hrb⟩ : ∃ b, rightB v = b := ⟨_, rfl⟩
  rw [htk] at HK ⊢
  rw [hrb] at HR ⊢
  clear htk hrb hb HT hc
  cases h5 : (k == 5) <;> cases h8 : (k == 8) <;> cases tk <;> cases hw : (cw == who) <;> cases rb <;> cases hv : (v == 0)
  all_goals first | (exfalso; have e5 : k = 5 := by simpa using h5; have e8 : k = 8 := by simpa using h8; omega) | skip
  all_goals
    go_enter Try.func21, Try.ntmps21
    go_wp2_with (first | (go_at_call 43; refine HK.out.mono ?_; rintro e w' ⟨rfl, rfl⟩) | (go_at_call 37; refine (HR.out _).mono ?_; rintro e w' ⟨rfl, rfl⟩))
    go_ret
    exact ⟨rfl, HB.out⟩
/-- A list of calls in memory. -/
def ClsAt (w : World) (A : Option Addr) (cs : List Cl) : Prop := cs.length ≤ maxLen ∧ ∀ (j : Nat) (c : Cl), cs[j]? = some c → ∃ ad, A = some ad ∧ CallAt w (ad.add (j * 3)) c.k c.who c.v
theorem ClsAt.below {w w1 : World} {A : Option Addr} {cs : List Cl} (h : ClsAt w A cs) (hb : Below w.heap.size w w1) : ClsAt w1 A cs :=
  ⟨h.1, fun j c hj => by obtain ⟨ad, he, hc⟩ := h.2 j c hj; exact ⟨ad, he, callAt_below hc hb⟩⟩
theorem cls_list {P : Nat → Cl → Prop} (n : Nat) (h : ∀ j, j < n → ∃ s, P j s) : ∃ l : List Cl, l.length = n ∧ ∀ (j : Nat) (s : Cl), l[j]? = some s → P j s := by
  induction n with
  | zero => exact ⟨[], rfl, fun j s h => by simp at h⟩
  | succ n ih =>
    obtain ⟨l, hl, hp⟩ := ih (fun j hj => h j (by omega))
    obtain ⟨s, hs⟩ := h n (Nat.lt_succ_self n)
    refine ⟨l ++ [s], by simp [hl], fun j t hj => ?_⟩
    by_cases hjn : j < l.length
    · rw [List.getElem?_append_left hjn] at hj
      exact hp j t hj
    · rw [List.getElem?_append_right (by omega)] at hj
      have : j - l.length = 0 := by
        by_cases h0 : j - l.length = 0
        · exact h0
        · rw [List.getElem?_eq_none (by simp; omega)] at hj; cases hj
      rw [this] at hj
      simp only [List.getElem?_cons_zero, Option.some.injEq] at hj
      subst hj
      have e : j = n := by omega
      rw [e]; exact hs
theorem cls_of {w : World} {A : Option Addr} {n : Nat} (h : CallsAt w A n) : ∃ cs, cs.length = n ∧ ClsAt w A cs := by
  obtain ⟨l, hl, hp⟩ := cls_list (P := fun j s => ∃ ad, A = some ad ∧ CallAt w (ad.add (j * 3)) s.k s.who s.v) n (fun j hj => by
    obtain ⟨ad, k, who, v, he, hc⟩ := h.2 j hj
    exact ⟨⟨k, who, v⟩, ad, he, hc⟩)
  exact ⟨l, hl, by rw [hl]; exact h.1, hp⟩
theorem callAt_ok {w : World} {ad : Addr} {c : Cl} (h : CallAt w ad c.k c.who c.v) : c.ok := ⟨h.1, h.2.1, h.2.2.1⟩
theorem any_take {p : Cl → Bool} {cs : List Cl} {j : Nat} {c : Cl} (h : (cs.take j).any p = false) (hc : cs[j]? = some c) (hp : p c = false) : (cs.take (j + 1)).any p = false := by
  rw [List.take_add_one, List.any_append, h, hc]
  simp [hp]
theorem any_hit {p : Cl → Bool} {cs : List Cl} {j : Nat} {c : Cl} (hc : cs[j]? = some c) (hp : p c = true) : cs.any p = true := List.any_eq_true.2 ⟨c, List.mem_of_getElem? hc, hp⟩
set_option maxRecDepth 20000 in
set_option maxHeartbeats 8000000 in
theorem indexF (k : Nat) (caps : Array Value) (p : Cl → Bool) (cs : List Cl) (A : Option Addr) (c : Nat) (hl : cs.length ≤ 100) (W : World) (HS : ClsAt W A cs) (HK : ∀ (args : Array Value) (w : World), (callFunc k args).run Try.prog w = .ok (.enter k args) w)
    (HF : ∀ (j : Nat) (x : Cl), cs[j]? = some x → ∀ w1, Below W.heap.size W w1 → Calls Try.prog k (#[.agg #[.int .u8 x.k, .int .i64 x.who, .int .u64 x.v]] ++ caps) w1 fun e w2 => e = .returned (.bool (p x)) ∧ Below w1.heap.size w1 w2) :
    Calls Try.prog 42 #[.slice A cs.length c, .func (.func k) #[] caps] W fun e w' => (∃ i : Int, e = .returned (.int .i64 i) ∧ decide (i ≥ 0) = cs.any p) ∧ Below W.heap.size W w' := by
  have HSh := Lib.hid HS
  have HFh := Lib.hid HF
  have HL := Lib.hid hl
  clear HS HF hl
  go_enter Try.func42, Try.ntmps42
  go_wp2_with fail
  go_loopg [5, 8] cs.length (fun gm s5 s8 wx => ∃ j : Nat, j ≤ cs.length ∧ gm = cs.length - j ∧ s8 = .int .i64 j ∧ Hid ((cs.take j).any p = false) ∧ Hid (Below W.heap.size W wx))
  case atStart => exact ⟨0, Nat.zero_le _, rfl, rfl, Lib.hid rfl, Lib.hid (Below.refl _ _)⟩
  case round =>
    obtain ⟨j, hj, rfl, rfl, HJ, HB⟩ := hrel
    by_cases hlt : j < cs.length
    · obtain ⟨x, hx⟩ : ∃ x, cs[j]? = some x := ⟨_, List.getElem?_eq_getElem hlt⟩
      have t1 : decide (j < cs.length) = true := decide_eq_true hlt
      have t1' : decide ((j : Int) < (cs.length : Int)) = true := decide_eq_true (by omega)
      have t3 : (j : Int) < (cs.length : Int) := by omega
      have t4 : (0 : Int) ≤ (j : Int) := by omega
      have s5 : wrap64 ((j : Int) + 1) = (j : Int) + 1 := by have := HL.out; unfold wrap64; omega
      have tj : decide ((j : Int) ≥ 0) = true := decide_eq_true (by omega)
      obtain ⟨ad, rfl, _, _, _, a0, a1, a2⟩ := (HSh.out.below HB.out).2 j x hx
      have HC := Lib.hid (fun w1 hb => HFh.out j x hx w1 hb)
      have HX := Lib.hid hx
      have HLT := Lib.hid hlt
      obtain ⟨xk, xw, xv⟩ := x
      dsimp only at a0 a1 a2 HC
      have la := World.block_lt_of_cell? wr _ a0
      clear hx hlt hj
      cases hp : p ⟨xk, xw, xv⟩
      · go_wp2_with (first | (refine (HC.out _ HB.out).mono ?_; rintro e w1 ⟨rfl, hb1⟩; rw [hp]; have B1 := Lib.hid (HB.out.trans (hb1.mono HB.out.size)); clear hb1))
        go_roundg (cs.length - (j + 1))
        case measure => have := HLT.out; omega
        case rel => exact ⟨j + 1, HLT.out, rfl, by first | rfl | (rw [s5]; rfl), Lib.hid (any_take HJ.out HX.out hp), B1⟩
      · go_wp2_with (first | (refine (HC.out _ HB.out).mono ?_; rintro e w1 ⟨rfl, hb1⟩; rw [hp]; have B1 := Lib.hid (HB.out.trans (hb1.mono HB.out.size)); clear hb1))
        go_ret
        exact ⟨⟨j, rfl, by rw [any_hit HX.out hp]; exact tj⟩, B1.out⟩
    · obtain rfl : j = cs.length := by omega
      have t1 : decide (cs.length < cs.length) = false := decide_eq_false (by omega)
      have t1' : decide ((cs.length : Int) < (cs.length : Int)) = false := decide_eq_false (by omega)
      go_wp2_with fail
      go_ret
      exact ⟨⟨-1, rfl, by have := HJ.out; rw [List.take_length] at this; rw [this]; rfl⟩, HB.out⟩
set_option maxHeartbeats 8000000 in
theorem containsF (k : Nat) (caps : Array Value) (p : Cl → Bool) (cs : List Cl) (A : Option Addr) (c : Nat) (hl : cs.length ≤ 100) (W : World) (HS : ClsAt W A cs) (HK : ∀ (args : Array Value) (w : World), (callFunc k args).run Try.prog w = .ok (.enter k args) w)
    (HF : ∀ (j : Nat) (x : Cl), cs[j]? = some x → ∀ w1, Below W.heap.size W w1 → Calls Try.prog k (#[.agg #[.int .u8 x.k, .int .i64 x.who, .int .u64 x.v]] ++ caps) w1 fun e w2 => e = .returned (.bool (p x)) ∧ Below w1.heap.size w1 w2) :
    Calls Try.prog 19 #[.slice A cs.length c, .func (.func k) #[] caps] W fun e w' => e = .returned (.bool (cs.any p)) ∧ Below W.heap.size W w' := by
  have HI := Lib.hid (indexF k caps p cs A c hl W HS HK HF)
  obtain ⟨b, hb⟩ : ∃ b, cs.any p = b := ⟨_, rfl⟩
  rw [hb] at HI ⊢
  clear hb HS HK HF hl
  go_enter Try.func19, Try.ntmps19
  go_wp2_with (go_at_call 42; refine HI.out.mono ?_; rintro e w1 ⟨⟨i, rfl, hi⟩, hb⟩; have hi2 : decide (0 ≤ i) = b := hi; have HB := Lib.hid hb; clear hb)
  go_ret
  exact ⟨by simp [hi2], HB.out⟩
set_option maxHeartbeats 8000000 in
theorem ctv (K sz : Int) (w : World) : Calls Try.prog 12 #[.int .u8 K, .int .i64 sz] w fun e w' => e = .returned (.int .i64 (tvI K sz)) ∧ Below w.heap.size w w' := by
  cases hg : goodK K sz
  · have HN := Lib.hid (oNew0 K sz (by rw [← goodK_eq]; exact hg))
    have E := Lib.hid (show tvI K sz = 0 by unfold tvI; rw [hg]; rfl)
    clear hg
    go_enter Try.func12, Try.ntmps12
    go_wp2_with (go_at_call 18; refine (HN.out _).mono ?_; rintro e w1 ⟨rfl, hb⟩; have HB := Lib.hid hb; clear hb)
    go_ret
    exact ⟨by rw [E.out]; rfl, HB.out⟩
  · have HN := Lib.hid (newO K sz hg)
    rcases good_cases hg with ⟨rfl, rfl⟩ | ⟨rfl, h1, h2⟩ | ⟨rfl, h1, h2⟩ | ⟨rfl, h1, h2⟩
    all_goals
      have E := Lib.hid (show tvI _ _ = _ by unfold tvI; rw [hg])
      try (have e1 : wrap64 (sz + 1) = sz + 1 := by unfold wrap64; omega)
      try (have e2 : wrap64 (sz + 1 + 1) = sz + 2 := by unfold wrap64; omega)
      try (have e3 : wrap64 (sz + 2) = sz + 2 := by unfold wrap64; omega)
      clear hg
      try clear h1 h2
      go_enter Try.func12, Try.ntmps12
      go_wp2_with (go_at_call 18; refine (HN.out _).mono ?_; rintro e w1 ⟨p, rfl, _, hb⟩; have HB := Lib.hid hb; clear hb)
      go_ret
      exact ⟨by rw [E.out]; first | rfl | simp [*], HB.out⟩
set_option maxHeartbeats 8000000 in
theorem rtv (K sz : Int) (w : World) : Calls Try.prog 26 #[.int .u8 K, .int .i64 sz] w fun e w' => e = .returned (.int .i64 (tvI K sz)) ∧ Below w.heap.size w w' := by
  cases hg : goodK K sz
  · have HN := Lib.hid (rNew0 K sz (by rw [← goodK_eq]; exact hg))
    have E := Lib.hid (show tvI K sz = 0 by unfold tvI; rw [hg]; rfl)
    clear hg
    go_enter Try.func26, Try.ntmps26
    go_wp2_with (go_at_call 14; refine (HN.out _).mono ?_; rintro e w1 ⟨rfl, hb⟩; have HB := Lib.hid hb; clear hb)
    go_ret
    exact ⟨by rw [E.out]; rfl, HB.out⟩
  · have HN := Lib.hid (newR K sz hg)
    rcases good_cases hg with ⟨rfl, rfl⟩ | ⟨rfl, h1, h2⟩ | ⟨rfl, h1, h2⟩ | ⟨rfl, h1, h2⟩
    all_goals
      have E := Lib.hid (show tvI _ _ = _ by unfold tvI; rw [hg])
      try (have e1 : wrap64 (sz + 1) = sz + 1 := by unfold wrap64; omega)
      try (have e2 : wrap64 (sz + 1 + 1) = sz + 2 := by unfold wrap64; omega)
      try (have e3 : wrap64 (sz + 2) = sz + 2 := by unfold wrap64; omega)
      clear hg
      try clear h1 h2
      go_enter Try.func26, Try.ntmps26
      go_wp2_with (go_at_call 14; refine (HN.out _).mono ?_; rintro e w1 ⟨p, rfl, _, hb⟩; have HB := Lib.hid hb; clear hb)
      go_ret
      exact ⟨by rw [E.out]; first | rfl | simp [*], HB.out⟩
end Go.Proofs.Ytmmfadakhnagpaa
