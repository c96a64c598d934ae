
/-
  rowlocklaw21.LinearIs: for every kind and size, and spans, it returns true.
-/
import Derived.Test.YtbanfaboimachaaLin6
namespace Go.Proofs.Ytbanfaboimachaa
open Go.RowKit Go.ChangeShapes Go.WideShapes
set_option linter.unusedSimpArgs false
set_option linter.unusedVariables false

def SpansIn (w : World) (A : Option Addr) (n c : Nat) : Prop := ∃ l : List Spn, l.length = n ∧ SpansAt w A l ∧ n ≤ c ∧ (A = none → c = 0)
theorem list_of {P : Nat → Spn → Prop} (n : Nat) (h : ∀ j, j < n → ∃ s, P j s) : ∃ l : List Spn, l.length = n ∧ ∀ (j : Nat) (s : Spn), l[j]? = some s → P j s := by
  induction n with
  | zero => exact ⟨[], rfl, fun j s hs => by simp at hs⟩
  | succ n ih =>
    obtain ⟨l, hl, hp⟩ := ih (fun j hj => h j (by omega))
    obtain ⟨s, hs⟩ := h n (by omega)
    refine ⟨l ++ [s], by simp [hl], fun j t ht => ?_⟩
    by_cases hj : j < n
    · rw [List.getElem?_append_left (by omega)] at ht
      exact hp j t ht
    · rw [List.getElem?_append_right (by omega)] at ht
      have : j = n := by
        have := (List.getElem?_eq_some_iff.mp ht).1
        simp at this
        omega
      subst this
      rw [hl, Nat.sub_self] at ht
      obtain rfl := Option.some.inj ht
      exact hs
set_option maxRecDepth 100000 in
theorem spans_of {H : Type} {enc : TypeId × Value → H} {W : World} {base : Nat} {spare : Nat → Bool} {held : Bool} {a : Option Addr} {len cap : Nat} {d : DataW H} {p : List MemPlace} (h : DataW.Trod enc Try.prog W base spare held 22 (.slice a len cap) d p) : SpansIn W a len cap := by
  obtain ⟨fuel, h⟩ := h
  rcases Go.Deep.open_slice Try.underlying22 h with ⟨h0, _⟩ | ⟨a', len', cap', m, n, D, Pl, hcs, hb, hl, hm, hmm, hx, hi⟩
  · obtain ⟨rfl, rfl, rfl⟩ : a = none ∧ len = 0 ∧ cap = 0 := by simpa [Value.cells] using h0
    exact ⟨[], rfl, ⟨Nat.zero_le _, fun j s hs => by simp at hs⟩, Nat.le_refl _, fun _ => rfl⟩
  · obtain ⟨rfl, rfl, rfl⟩ : a = some a' ∧ len = len' ∧ cap = cap' := by simpa [Value.cells] using hcs
    have key : ∀ j, j < len → ∃ s, SpAt W (a'.add (j * 6)) s := by
      intro j hj
      obtain ⟨cs', hc, ht'⟩ := hi j (by rw [hmm]; split <;> omega)
      have hC : Program.cellsOf Try.prog 41 = 6 := by kernel_rfl
      have hC3 : Program.cellsOf Try.prog 39 = 3 := by kernel_rfl
      rw [hC] at hc
      obtain ⟨ys, n', hn', hy, hlen, hyl, hf⟩ := DataW.trod_struct Try.underlying41 ht'
      rw [hC] at hlen
      obtain ⟨_, _, hat⟩ := World.cells?_some hc
      match cs', hlen, ys, hyl with
      | [c0, c1, c2, c3, c4, c5], _, [y0, y1, y2, y3], _ =>
        have h0 := hf 0 _ rfl
        obtain ⟨zs, n2, hn2, hz, hlen2, hzl, hg⟩ := DataW.trod_struct (cs := [c0, c1, c2]) Try.underlying39 ((congrArg _ (by kernel_rfl)).trans h0)
        match zs, hzl with
        | [z0, z1, z2], _ =>
          obtain ⟨k, e0, _, b0⟩ := DataW.trod_int (cs := [c0]) Try.underlying35 ((congrArg _ (by kernel_rfl)).trans (hg 0 _ rfl))
          obtain ⟨who, e1, _, b1⟩ := DataW.trod_int (cs := [c1]) Try.underlying3 ((congrArg _ (by kernel_rfl)).trans (hg 1 _ rfl))
          obtain ⟨v, e2, _, b2⟩ := DataW.trod_int (cs := [c2]) Try.underlying37 ((congrArg _ (by kernel_rfl)).trans (hg 2 _ rfl))
          obtain ⟨ans, e3, _, b3⟩ := DataW.trod_int (cs := [c3]) Try.underlying37 ((congrArg _ (by kernel_rfl)).trans (hf 1 _ rfl))
          obtain ⟨fr, e4, _, b4⟩ := DataW.trod_int (cs := [c4]) Try.underlying3 ((congrArg _ (by kernel_rfl)).trans (hf 2 _ rfl))
          obtain ⟨en, e5, _, b5⟩ := DataW.trod_int (cs := [c5]) Try.underlying3 ((congrArg _ (by kernel_rfl)).trans (hf 3 _ rfl))
          simp only [List.cons.injEq, and_true] at e0 e1 e2 e3 e4 e5
          subst e0 e1 e2 e3 e4 e5
          have q2 := bounds_u64 b2
          have q3 := bounds_u64 b3
          have q1 := bounds_i64 b1
          have q4 := bounds_i64 b4
          have q5 := bounds_i64 b5
          have w2 : W64 v := ⟨by omega, by omega⟩
          have w3 : W64 ans := ⟨by omega, by omega⟩
          exact ⟨⟨k, who, v, ans, fr, en⟩, ⟨bounds_u8 b0, ⟨q1.1, q1.2⟩, w2, w3, ⟨q4.1, q4.2⟩, ⟨q5.1, q5.2⟩⟩, hat 0 (by omega), hat 1 (by omega), hat 2 (by omega), hat 3 (by omega), hat 4 (by omega), hat 5 (by omega)⟩
    obtain ⟨l, hl1, hl2⟩ := list_of len key
    exact ⟨l, hl1, ⟨by rw [hl1]; exact Nat.le_trans hl hm, fun j s hs => ⟨a', rfl, hl2 j s hs⟩⟩, hl, fun h => by cases h⟩
theorem lkind_any (k : Int) (h0 : 0 ≤ k) (h1 : k ≤ 255) (w : World) : Calls Try.prog 6 #[.int .u8 k] w fun e w' => e = .returned (.tuple #[.int .u8 (1 + k % 4), .int .i64 (k / 4 % 4)]) ∧ w = w' := by
  go_enter Try.func6, Try.ntmps6
  go_wp2
  go_ret2
  exact ⟨rfl, rfl⟩
def s0 : Spn := ⟨1, 0, 0, 4607182418800017408, 0, 3⟩
def s1 : Spn := ⟨1, 1, 0, 4607182418800017408, 1, 4⟩
theorem spans_two {w : World} {g : Nat} (h : w.heap[g]? = some (.cells #[.int .u8 1, .int .i64 0, .int .u64 0, .int .u64 4607182418800017408, .int .i64 0, .int .i64 3, .int .u8 1, .int .i64 1, .int .u64 0, .int .u64 4607182418800017408, .int .i64 1, .int .i64 4] 41 (0, 0))) : SpansAt w (some ⟨g, 0, none⟩) [s0, s1] := by
  refine ⟨by unfold maxLen; simp, fun j s hs => ⟨_, rfl, ?_⟩⟩
  rw [add_at]
  match j with
  | 0 =>
    obtain rfl : s0 = s := by simpa using hs
    exact ⟨⟨⟨by decide, by decide⟩, ⟨by decide, by decide⟩, ⟨by decide, by decide⟩, ⟨by decide, by decide⟩, ⟨by decide, by decide⟩, ⟨by decide, by decide⟩⟩, hp_cell h 0, hp_cell h 1, hp_cell h 2, hp_cell h 3, hp_cell h 4, hp_cell h 5⟩
  | 1 =>
    obtain rfl : s1 = s := by simpa using hs
    exact ⟨⟨⟨by decide, by decide⟩, ⟨by decide, by decide⟩, ⟨by decide, by decide⟩, ⟨by decide, by decide⟩, ⟨by decide, by decide⟩, ⟨by decide, by decide⟩⟩, hp_cell h 6, hp_cell h 7, hp_cell h 8, hp_cell h 9, hp_cell h 10, hp_cell h 11⟩
  | j + 2 => simp at hs
theorem spans_take {w : World} {A : Option Addr} {l : List Spn} (h : SpansAt w A l) (n : Nat) : SpansAt w A (l.take n) :=
  ⟨by have := h.1; simp; omega, fun j s hs => by
    rw [List.getElem?_take] at hs
    split at hs
    · exact h.2 j s hs
    · cases hs⟩
theorem two_good : GoodOrder [s0, s1] [1, 0] := by
  intro i hi
  match i with
  | 0 =>
    refine ⟨1, rfl, by decide, by decide, fun j m hj hm => ?_⟩
    match j with
    | 0 => omega
    | 1 => obtain rfl : 0 = m := by simpa using hm
           decide
    | j + 2 => simp at hm
  | 1 =>
    refine ⟨0, rfl, by decide, by decide, fun j m hj hm => ?_⟩
    match j with
    | 0 => omega
    | 1 => omega
    | j + 2 => simp at hm
  | i + 2 => simp at hi; omega
theorem live_f1 : foundF 1 0 [s0, s1] (goodB 1 0 && rightL [s0, s1]) = ([], 5) := by decide +kernel
theorem live_f2 : foundF 1 0 [s0] (goodB 1 0 && rightL [s0]) = ([0], 0) := by decide +kernel
theorem live_f3 : runF [s0, s1] (stNew 1 0) [1, 0] 0 = (1, 7) := by decide +kernel
theorem live_f4 : (goodB 1 0 && rightL [s0, s1]) = true := by decide +kernel
theorem live_f5 : restB [s0, s1] [1, 0] = true := by decide +kernel
theorem ints_two {w : World} {g : Nat} (h : w.heap[g]? = some (.cells #[.int .i64 1, .int .i64 0] 3 (0, 0))) : IntsAt okAll w (some ⟨g, 0, none⟩) [1, 0] := by
  refine ⟨fun v hv => ?_, .inr ⟨g, 0, _, rfl, h, fun j v hj => ?_, trivial⟩⟩
  · simp at hv; rcases hv with rfl | rfl <;> exact ⟨by decide, by decide⟩
  · match j with
    | 0 => obtain rfl : 1 = v := by simpa using hj
           rfl
    | 1 => obtain rfl : 0 = v := by simpa using hj
           rfl
    | j + 2 => simp at hj
def FoundAs (n : Nat) (x : Int) (w : World) (e : Ending) (w' : World) : Prop := ∃ A' c', e = .returned (.tuple #[.slice A' n c', .int .i64 x]) ∧ Below w.heap.size w w'
theorem found_as (k size : Int) (A : Option Addr) (c : Nat) (l : List Spn) (n : Nat) (hn : l.length = n) (hl : n ≤ 24) (r : List Int × Int) (hr : foundF k size l (goodB k size && rightL l) = r) (w : World) (H : SpansAt w A l) :
    Calls Try.prog 7 #[.int .u8 k, .int .i64 size, .slice A n c] w (FoundAs r.1.length r.2 w) := by
  subst hn
  refine (found_any k size A c l hl w H).mono fun e w' ⟨A', c', he, _, hb⟩ => ⟨A', c', ?_, hb⟩
  rw [he, hr]
theorem live_found1 (A : Option Addr) (c : Nat) (w : World) (H : SpansAt w A [s0, s1]) : Calls Try.prog 7 #[.int .u8 1, .int .i64 0, .slice A 2 c] w (FoundAs 0 5 w) := found_as 1 0 A c [s0, s1] 2 rfl (by decide) ([], 5) live_f1 w H
theorem live_found2 (A : Option Addr) (c : Nat) (w : World) (H : SpansAt w A [s0, s1]) : Calls Try.prog 7 #[.int .u8 1, .int .i64 0, .slice A 1 c] w (FoundAs 1 0 w) := found_as 1 0 A c [s0] 1 rfl (by decide) ([0], 0) live_f2 w (spans_take H 1)
theorem legal_as (k size : Int) (A : Option Addr) (c : Nat) (l : List Spn) (n : Nat) (hn : l.length = n) (A2 : Option Addr) (c2 : Nat) (o : List Int) (m : Nat) (hm : o.length = m) (hl : n ≤ 24) (hg : (goodB k size && rightL l) = true) (hG : GoodOrder l o) (hR : restB l o = true) (r : Int × Int) (hr : runF l (stNew k size) o 0 = r) (w : World) (H : SpansAt w A l) (HI : IntsAt okAll w A2 o) (hc : m ≤ c2) (hA : A2 = none → c2 = 0) :
    Calls Try.prog 9 #[.int .u8 k, .int .i64 size, .slice A n c, .slice A2 m c2] w (LegalPost r w) := by
  subst hn hm hr
  exact legal_any k size A c l A2 c2 o hl hg hG hR w H HI hc hA
theorem live_legal (A : Option Addr) (c : Nat) (A2 : Option Addr) (c2 : Nat) (hc : 2 ≤ c2) (hA : A2 = none → c2 = 0) (w : World) (H : SpansAt w A [s0, s1]) (HI : IntsAt okAll w A2 [1, 0]) : Calls Try.prog 9 #[.int .u8 1, .int .i64 0, .slice A 2 c, .slice A2 2 c2] w (LegalPost (1, 7) w) :=
  legal_as 1 0 A c [s0, s1] 2 rfl A2 c2 [1, 0] 2 rfl (by decide) live_f4 two_good live_f5 (1, 7) live_f3 w H HI hc hA
theorem live_f6 : rightL [s0, s1] = true := by decide +kernel
theorem live_f7 : bef (sp [s0, s1] 0) (sp [s0, s1] 1) = false := by decide +kernel
theorem live_right (A : Option Addr) (c : Nat) (w : World) (H : SpansAt w A [s0, s1]) : Calls Try.prog 15 #[.slice A 2 c] w fun e w' => e = .returned (.bool true) ∧ Below w.heap.size w w' :=
  (right_lin A c [s0, s1] (by decide) w H).mono fun e w' ⟨h1, h2⟩ => ⟨by rw [h1, live_f6], h2⟩
theorem live_before (A : Option Addr) (c : Nat) (w : World) (H : SpansAt w A [s0, s1]) : Calls Try.prog 16 #[.slice A 2 c, .int .i64 0, .int .i64 1] w fun e w' => e = .returned (.bool false) ∧ Below w.heap.size w w' :=
  (bef_any [s0, s1] A c 0 1 (by decide) (by decide) (by decide) w H).mono fun e w' ⟨h1, h2⟩ => ⟨by rw [h1, live_f7], below_of_drewN h2⟩
set_option maxHeartbeats 4000000 in
set_option maxRecDepth 100000 in
theorem linLive (w : World) : Calls Try.prog 8 #[] w fun e w' => e = .returned (.bool true) ∧ Below w.heap.size w w' := by
  have hb0 : Below w.heap.size w (w.alloc (.cells #[.int .u8 1, .int .i64 0, .int .u64 0, .int .u64 4607182418800017408, .int .i64 0, .int .i64 3, .int .u8 1, .int .i64 1, .int .u64 0, .int .u64 4607182418800017408, .int .i64 1, .int .i64 4] 41)) := (Below.refl _ _).alloc (Nat.le_refl _) _
  have hs0 : SpansAt (w.alloc (.cells #[.int .u8 1, .int .i64 0, .int .u64 0, .int .u64 4607182418800017408, .int .i64 0, .int .i64 3, .int .u8 1, .int .i64 1, .int .u64 0, .int .u64 4607182418800017408, .int .i64 1, .int .i64 4] 41)) (some ⟨w.heap.size, 0, none⟩) [s0, s1] := spans_two (heap_alloc_new w _)
  have B0 := Lib.hid hb0
  have S0 := Lib.hid hs0
  clear hb0 hs0
  go_enter Try.func8, Try.ntmps8
  go_wp2_with (first
    | (go_at_call 7; ((with_reducible refine (live_found1 _ _ _ S0.out).mono ?_); rintro e w1 ⟨A1, c1, rfl, hb⟩); have B1 := Lib.hid (B0.out.trans (hb.mono B0.out.size)); have S1 := Lib.hid (spans_below S0.out hb); clear hb)
    | (go_at_call 7; ((with_reducible refine (live_found2 _ _ _ S1.out).mono ?_); rintro e w2 ⟨A2, c2, rfl, hb⟩); have B2 := Lib.hid (B1.out.trans (hb.mono B1.out.size)); have S2 := Lib.hid (spans_below S1.out hb); clear hb)
    | (go_at_call 9; refine (live_legal _ _ _ _ (Nat.le_refl _) (fun h => by cases h) _ (spans_below S2.out ((Below.refl _ _).alloc (Nat.le_refl _) _)) (ints_two (heap_alloc_new w2 _))).mono ?_; rintro e w3 ⟨rfl, hb⟩; have B3 := Lib.hid ((B2.out.alloc B2.out.size _).trans (hb.mono (by have := B2.out.size; simp; omega))); have S3 := Lib.hid (spans_below S2.out (((Below.refl _ _).alloc (Nat.le_refl _) _).trans (hb.mono (by simp)))); clear hb)
    | (go_at_call 15; refine (live_right _ _ _ S3.out).mono ?_; rintro e w4 ⟨rfl, hb⟩; have B4 := Lib.hid (B3.out.trans (hb.mono B3.out.size)); have S4 := Lib.hid (spans_below S3.out hb); clear hb)
    | (go_at_call 16; refine (live_before _ _ _ S4.out).mono ?_; rintro e w5 ⟨rfl, hb⟩; have B5 := Lib.hid (B4.out.trans (hb.mono B4.out.size)); clear hb))
  go_ret
  exact ⟨by first | rfl | simp, B5.out⟩
theorem lslice_to (n : Nat) (A : Option Addr) (len c : Nat) (hk : n ≤ c) (hA : A = none → c = 0) (w : World) : (Instr.slice 22 (.slice A len c) none (some (.int .i64 (n : Int))) none).run Try.prog w = .ok (.slice A n c) w := by
  have hu := run_underlying (P := Try.prog) Try.underlying22
  have hs : ∀ w, (sizeOf 41).run Try.prog w = .ok 6 w := fun w => by kernel_rfl
  cases A with
  | none =>
    obtain rfl := hA rfl
    obtain rfl : n = 0 := by omega
    simp [Instr.slice, Instr.sliceBounds, Instr.sliceBound, asIntOf, hu, hs]
  | some a =>
    simp [Instr.slice, Instr.sliceBounds, Instr.sliceBound, asIntOf, hu, hs]
    rw [if_pos (by omega)]
    simp [Addr.add]
theorem found_full (k size : Int) (A : Option Addr) (c : Nat) (l : List Spn) (n : Nat) (hn : l.length = n) (hl : n ≤ 24) (w : World) (H : SpansAt w A l) :
    Calls Try.prog 7 #[.int .u8 k, .int .i64 size, .slice A n c] w (FoundPost k size l w) := by
  subst hn
  exact found_any k size A c l hl w H
theorem found_cases (k size : Int) (l : List Spn) (hl : l.length ≤ 6) : foundF k size l (goodB k size && rightL l) = ([], 3) ∨ foundF k size l (goodB k size && rightL l) = ([], 5) ∨ ∃ o, foundF k size l (goodB k size && rightL l) = (o, 0) ∧ (goodB k size && rightL l) = true ∧ GoodOrder l o ∧ restB l o = true ∧ runF l (stNew k size) o 0 = (0, 0) := by
  unfold foundF
  cases hg : (goodB k size && rightL l)
  · exact .inl rfl
  · have h6 : decide (6 < l.length) = false := decide_eq_false (by omega)
    rw [h6]
    cases hs : searchF l (left l []) (stNew k size) [] with
    | none => exact .inr (.inl rfl)
    | some o =>
      obtain ⟨h1, h2, h3⟩ := searchF_good hs
      exact .inr (.inr ⟨o, rfl, rfl, h1, h2, h3⟩)
set_option maxHeartbeats 4000000 in
set_option maxRecDepth 100000 in
theorem linearIs_walk0 (W : World) (k : Int) (k0 : 0 ≤ k) (k1 : k ≤ 255) (A : Option Addr) (len cap : Nat) (hC : SpansIn W A len cap) :
    Calls Try.prog 3 #[.int .u8 k, .slice A len cap] W fun e w' => e = .returned (.bool true) ∧ Below W.heap.size W w' := by
  obtain ⟨l, hl, hS, hc, hA⟩ := hC
  have hlm : len ≤ 9223372036854775807 := by have := hS.1; unfold maxLen at this; omega
  have key : ∃ (l' : List Spn) (n : Nat), l'.length = n ∧ n ≤ 6 ∧ SpansAt W A l' ∧ ((decide (6 < len) = true ∧ n = 6) ∨ (decide (6 < len) = false ∧ n = len)) := by
    by_cases h : 6 < len
    · exact ⟨l.take 6, 6, by simp; omega, Nat.le_refl _, spans_take hS 6, .inl ⟨decide_eq_true h, rfl⟩⟩
    · exact ⟨l, len, hl, by omega, hS, .inr ⟨decide_eq_false h, rfl⟩⟩
  obtain ⟨l', n, hn, hn6, hS', hway⟩ := key
  have HS := Lib.hid hS'
  have HN := Lib.hid hn
  have HA := Lib.hid hA
  have hcs := found_cases (1 + k % 4) (k / 4 % 4) l' (by omega)
  have HF := Lib.hid (fun w (H : SpansAt w A l') => found_full (1 + k % 4) (k / 4 % 4) A cap l' n hn (by omega) w H)
  have s1 : 6 < len → ∀ w, (Instr.slice 22 (.slice A len cap) none (some (.int .i64 6)) none).run Try.prog w = .ok (.slice A 6 cap) w := fun h w => lslice_to 6 A len cap (by omega) hA w
  have HS1 := Lib.hid s1
  clear hl hS hA hn hS' s1
  have hw2 : (decide (6 < len) = true ∧ decide (6 < (len : Int)) = true ∧ n = 6) ∨ (decide (6 < len) = false ∧ decide (6 < (len : Int)) = false ∧ n = len) := by
    rcases hway with ⟨h, e⟩ | ⟨h, e⟩
    · exact .inl ⟨h, decide_eq_true (by have := of_decide_eq_true h; omega), e⟩
    · exact .inr ⟨h, decide_eq_false (by have := of_decide_eq_false h; omega), e⟩
  clear hway
  rcases hcs with hf | hf | ⟨o, hf, hg, hG, hR, hr⟩
  · have HFF := Lib.hid hf
    clear hf
    rcases hw2 with ⟨t1, t2, rfl⟩ | ⟨t1, t2, rfl⟩
    · have s1 := HS1.out (of_decide_eq_true t1)
      go_enter Try.func3, Try.ntmps3
      go_wp2_with (first | (go_at_call 6; refine (lkind_any k k0 k1 _).mono ?_; rintro e w' ⟨rfl, rfl⟩) | (go_at_call 7; refine (HF.out _ HS.out).mono ?_; rintro e w1 ⟨A1, c1, he, hk, hb⟩; rw [HFF.out] at he; subst he; have B1 := Lib.hid hb; clear hk hb) | (go_at_call 8; refine (linLive _).mono ?_; rintro e w2 ⟨rfl, hb⟩; have B2 := Lib.hid (B1.out.trans (hb.mono B1.out.size)); clear hb))
      go_ret
      exact ⟨rfl, B2.out⟩
    · go_enter Try.func3, Try.ntmps3
      go_wp2_with (first | (go_at_call 6; refine (lkind_any k k0 k1 _).mono ?_; rintro e w' ⟨rfl, rfl⟩) | (go_at_call 7; refine (HF.out _ HS.out).mono ?_; rintro e w1 ⟨A1, c1, he, hk, hb⟩; rw [HFF.out] at he; subst he; have B1 := Lib.hid hb; clear hk hb) | (go_at_call 8; refine (linLive _).mono ?_; rintro e w2 ⟨rfl, hb⟩; have B2 := Lib.hid (B1.out.trans (hb.mono B1.out.size)); clear hb))
      go_ret
      exact ⟨rfl, B2.out⟩
  · have HFF := Lib.hid hf
    clear hf
    rcases hw2 with ⟨t1, t2, rfl⟩ | ⟨t1, t2, rfl⟩
    · have s1 := HS1.out (of_decide_eq_true t1)
      go_enter Try.func3, Try.ntmps3
      go_wp2_with (first | (go_at_call 6; refine (lkind_any k k0 k1 _).mono ?_; rintro e w' ⟨rfl, rfl⟩) | (go_at_call 7; refine (HF.out _ HS.out).mono ?_; rintro e w1 ⟨A1, c1, he, hk, hb⟩; rw [HFF.out] at he; subst he; have B1 := Lib.hid hb; clear hk hb) | (go_at_call 8; refine (linLive _).mono ?_; rintro e w2 ⟨rfl, hb⟩; have B2 := Lib.hid (B1.out.trans (hb.mono B1.out.size)); clear hb))
      go_ret
      exact ⟨rfl, B2.out⟩
    · go_enter Try.func3, Try.ntmps3
      go_wp2_with (first | (go_at_call 6; refine (lkind_any k k0 k1 _).mono ?_; rintro e w' ⟨rfl, rfl⟩) | (go_at_call 7; refine (HF.out _ HS.out).mono ?_; rintro e w1 ⟨A1, c1, he, hk, hb⟩; rw [HFF.out] at he; subst he; have B1 := Lib.hid hb; clear hk hb) | (go_at_call 8; refine (linLive _).mono ?_; rintro e w2 ⟨rfl, hb⟩; have B2 := Lib.hid (B1.out.trans (hb.mono B1.out.size)); clear hb))
      go_ret
      exact ⟨rfl, B2.out⟩
  · have HFF := Lib.hid hf
    have HL := Lib.hid (fun (A2 : Option Addr) (c2 : Nat) w (H : SpansAt w A l') (HI : IntsAt okAll w A2 o) (hc : o.length ≤ c2) (hA : A2 = none → c2 = 0) => legal_as (1 + k % 4) (k / 4 % 4) A cap l' n HN.out A2 c2 o o.length rfl (by omega) hg hG hR (0, 0) hr w H HI hc hA)
    clear hf hg hG hR hr
    rcases hw2 with ⟨t1, t2, rfl⟩ | ⟨t1, t2, rfl⟩
    · have s1 := HS1.out (of_decide_eq_true t1)
      go_enter Try.func3, Try.ntmps3
      go_wp2_with (first | (go_at_call 6; refine (lkind_any k k0 k1 _).mono ?_; rintro e w' ⟨rfl, rfl⟩) | (go_at_call 7; refine (HF.out _ HS.out).mono ?_; rintro e w1 ⟨A1, c1, he, hk, hb⟩; rw [HFF.out] at he hk; subst he; have B1 := Lib.hid hb; have K1 := Lib.hid hk; clear hk hb) | (go_at_call 9; refine (HL.out A1 c1 _ (spans_below HS.out B1.out) K1.out.1 K1.out.2.1 K1.out.2.2).mono ?_; rintro e w2 ⟨rfl, hb⟩; have B2 := Lib.hid (B1.out.trans (hb.mono B1.out.size)); clear hb) | (go_at_call 8; refine (linLive _).mono ?_; rintro e w3 ⟨rfl, hb⟩; have B3 := Lib.hid (B2.out.trans (hb.mono B2.out.size)); clear hb))
      go_ret
      exact ⟨rfl, B3.out⟩
    · go_enter Try.func3, Try.ntmps3
      go_wp2_with (first | (go_at_call 6; refine (lkind_any k k0 k1 _).mono ?_; rintro e w' ⟨rfl, rfl⟩) | (go_at_call 7; refine (HF.out _ HS.out).mono ?_; rintro e w1 ⟨A1, c1, he, hk, hb⟩; rw [HFF.out] at he hk; subst he; have B1 := Lib.hid hb; have K1 := Lib.hid hk; clear hk hb) | (go_at_call 9; refine (HL.out A1 c1 _ (spans_below HS.out B1.out) K1.out.1 K1.out.2.1 K1.out.2.2).mono ?_; rintro e w2 ⟨rfl, hb⟩; have B2 := Lib.hid (B1.out.trans (hb.mono B1.out.size)); clear hb) | (go_at_call 8; refine (linLive _).mono ?_; rintro e w3 ⟨rfl, hb⟩; have B3 := Lib.hid (B2.out.trans (hb.mono B2.out.size)); clear hb))
      go_ret
      exact ⟨rfl, B3.out⟩
theorem linearIs_walk (W : World) (k : Int) (hk : (Lit.int .u8 k).wf = true) (A : Option Addr) (len cap : Nat) (hC : SpansIn W A len cap) :
    Calls Try.prog 3 #[.int .u8 k, .slice A len cap] W fun e w' => e = .returned (.bool true) ∧ Below W.heap.size W w' :=
  linearIs_walk0 W k (bounds_u8 hk).1 (bounds_u8 hk).2 A len cap hC
end Go.Proofs.Ytbanfaboimachaa
