
/-
  rowlocktop.TopOverlap: for every size, and how many Downs, and Ups, it returns true.
-/
import Derived.Test.YtbanfaboimachaaLin7
namespace Go.Proofs.Ytbanfaboimachaa
open Go.RowKit
set_option linter.unusedSimpArgs false
set_option linter.unusedVariables false

def spC (s : Spn) : List Value := [.int .u8 s.k, .int .i64 s.who, .int .u64 s.v, .int .u64 s.ans, .int .i64 s.fr, .int .i64 s.en]
def spsC (l : List Spn) : List Value := l.flatMap spC
theorem spsC_len (l : List Spn) : (spsC l).length = l.length * 6 := by
  induction l with
  | nil => rfl
  | cons x l ih =>
    unfold spsC at *
    rw [List.flatMap_cons, List.length_append, ih]
    simp [spC]
    omega
theorem spsC_append (l m : List Spn) : spsC (l ++ m) = spsC l ++ spsC m := by unfold spsC; rw [List.flatMap_append]
theorem spsC_at : ∀ (l : List Spn) (j : Nat) (s : Spn), l[j]? = some s → ∀ i u, (spC s)[i]? = some u → (spsC l)[j * 6 + i]? = some u := by
  intro l
  induction l with
  | nil => intro j s h; simp at h
  | cons x l ih =>
    intro j s h i u hu
    have hi : i < 6 := (List.getElem?_eq_some_iff.mp hu).1
    have e : spsC (x :: l) = spC x ++ spsC l := by unfold spsC; rw [List.flatMap_cons]
    have e6 : (spC x).length = 6 := rfl
    rw [e]
    cases j with
    | zero =>
      obtain rfl : x = s := by simpa using h
      rw [List.getElem?_append_left (by omega), Nat.zero_mul, Nat.zero_add]
      exact hu
    | succ j =>
      rw [List.getElem?_append_right (by omega), e6, show (j + 1) * 6 + i - 6 = j * 6 + i by omega]
      exact ih j s (by simpa using h) i u hu
def SRow (w : World) (base : Nat) (A : Option Addr) (c : Nat) (l : List Spn) : Prop := w.ownsRow base 41 6 (.slice A l.length c) l.length (spsC l) ∧ ∀ s ∈ l, s.ok
theorem srow_nil (w : World) (base : Nat) : SRow w base none 0 [] := ⟨World.ownsRow_nil w base _ 6, fun x hx => (List.not_mem_nil hx).elim⟩
theorem srow_below {w w1 : World} {base c : Nat} {A : Option Addr} {l : List Spn} (h : SRow w base A c l) (hb : Below w.heap.size w w1) : SRow w1 base A c l :=
  ⟨h.1.kept (gb_below (r := none) hb) (by cases hh : (Value.slice A l.length c).ownBlock <;> simp), h.2⟩
theorem srow_lt {w : World} {base c : Nat} {A : Option Addr} {l : List Spn} (h : SRow w base A c l) : ∀ k, iblk A = some k → base ≤ k ∧ k < w.heap.size := by
  intro k hk
  exact h.1.lt k (by rw [iblk_own]; exact hk)
theorem srow_spans {w : World} {base c : Nat} {A : Option Addr} {l : List Spn} (h : SRow w base A c l) (hl : l.length ≤ 1000) : SpansAt w A l := by
  refine ⟨by unfold maxLen; omega, fun j s hs => ?_⟩
  have hj : j < l.length := (List.getElem?_eq_some_iff.mp hs).1
  have hok : s.ok := h.2 s (by obtain ⟨hj, e⟩ := List.getElem?_eq_some_iff.mp hs; rw [← e]; exact List.getElem_mem hj)
  rcases h.1.2 with ⟨hn, _⟩ | ⟨g, cap, cur, hv, _, hg, _, _, _, ht⟩
  · simp only [Value.slice.injEq] at hn; omega
  · simp only [Value.slice.injEq] at hv
    obtain ⟨rfl, _⟩ := hv
    have key : ∀ i u, (spC s)[i]? = some u → w.cell? ⟨g, j * 6 + i, none⟩ = some u := by
      intro i u hu
      have hi : i < 6 := (List.getElem?_eq_some_iff.mp hu).1
      have hc := spsC_at l j s hs i u hu
      rw [hp_cell hg, ← Array.getElem?_toList]
      rw [← ht, List.getElem?_take] at hc
      split at hc
      · exact hc
      · cases hc
    refine ⟨⟨g, 0, none⟩, rfl, hok, ?_⟩
    rw [add_at, Nat.zero_add]
    exact ⟨key 0 _ rfl, key 1 _ rfl, key 2 _ rfl, key 3 _ rfl, key 4 _ rfl, key 5 _ rfl⟩
theorem Span_info : (Try.prog.info? 41).map (fun i => (i.zero, i.size, i.bytes)) = some (some (.agg #[.int .u8 0, .int .i64 0, .int .u64 0, .int .u64 0, .int .i64 0, .int .i64 0]), 6, 48) := by kernel_rfl
theorem append_span {ops : Array Oper} {rest : List Oper} {o : Oper} {a : Act} {Q : Exit → Act → World → Prop} {w : World} (hgd : o.guard = none) (s x : Operand)
    (ho : o.op = .call { callee := .builtin .append, args := #[s, x], argTypes := #[22, 22] })
    (base : Nat) (A0 : Option Addr) (c0 : Nat) (l : List Spn) (n : Nat) (hn : l.length = n) (hs : a.eval s = .slice A0 n c0) (hr : SRow w base A0 c0 l) (g : Nat) (q : Spn) (hq : q.ok) (hx : a.eval x = .slice (some ⟨g, 0, none⟩) 1 1)
    (hg : w.heap[g]? = some (.cells #[.int .u8 q.k, .int .i64 q.who, .int .u64 q.v, .int .u64 q.ans, .int .i64 q.fr, .int .i64 q.en] 41 (0, 0))) (hlen : n ≤ 100) (hbase : base ≤ w.heap.size)
    (h : ∀ A' c' w', SRow w' base A' c' (l ++ [q]) → w.grownBy w' (iblk A0) → wpList Try.prog ops Q rest (a.put o.dst (.slice A' (n + 1) c')) w') : wpList Try.prog ops Q (o :: rest) a w := by
  subst hn
  obtain ⟨i0, hi, hz0, hz1, hz2⟩ := info_parts Span_info
  refine wpList_append_own w hgd s x 22 ho base 41 i0 _ 6 48 Try.underlying22 hi hz0 hz1 hz2 rfl (by decide) (.slice A0 l.length c0) l.length (spsC l) hs hr.1 ⟨g, 0, none⟩ 1 1 (spC q) hx rfl ?_ ?_ (by unfold maxLen; omega) (by omega) hbase ?_
  · intro j u hu
    rw [add_at, Nat.zero_add, hp_cell hg, ← Array.getElem?_toList]
    exact hu
  · intro u hu
    simp only [spC, List.mem_cons, List.not_mem_nil, or_false] at hu
    rcases hu with rfl | rfl | rfl | rfl | rfl | rfl <;> rfl
  · intro v' w' h1 h2 _
    rw [iblk_own] at h2
    have hc : spsC l ++ spC q = spsC (l ++ [q]) := by rw [spsC_append]; simp [spsC]
    have hlen' : (l ++ [q]).length = l.length + 1 := by simp
    rw [hc] at h1
    have hv : ∃ A' c', v' = .slice A' (l.length + 1) c' := by
      rcases h1.2 with ⟨_, h0⟩ | ⟨g', cap, cur, hv, _⟩
      · exact absurd h0 (by omega)
      · exact ⟨_, _, hv⟩
    obtain ⟨A', c', rfl⟩ := hv
    refine h A' c' w' ⟨by rw [hlen']; exact h1, fun t ht => ?_⟩ h2
    rcases List.mem_append.mp ht with ht | ht
    · exact hr.2 t ht
    · rw [List.mem_singleton.mp ht]; exact hq
def ovS (d i : Nat) : Spn := ⟨bif decide (i < d) then 3 else 4, 0, 0, 4607182418800017408, i, 100 + i⟩
def ovL (d m : Nat) : List Spn := (List.range m).map (ovS d)
theorem ovL_len (d m : Nat) : (ovL d m).length = m := by simp [ovL]
theorem ovL_succ (d m : Nat) : ovL d (m + 1) = ovL d m ++ [ovS d m] := by simp [ovL, List.range_succ]
def ovOk (n d u : Nat) : Bool :=
  bif decide (d ≤ n + u) then ((foundF 2 n (ovL d (d + u)) (goodB 2 n && rightL (ovL d (d + u)))).2 == 0 && (foundF 2 n (ovL d (d + u)) (goodB 2 n && rightL (ovL d (d + u)))).1.length == d + u)
  else ((foundF 2 n (ovL d (d + u)) (goodB 2 n && rightL (ovL d (d + u)))).2 == 5 && (foundF 2 n (ovL d (d + u)) (goodB 2 n && rightL (ovL d (d + u)))).1.length == 0)
theorem ov_all : ∀ n, n < 4 → ∀ d, d < 4 → ∀ u, u < 3 → ovOk n d u = true := by decide +kernel
def OvAt (W : World) (A : Option Addr) (c : Nat) (d j : Nat) (w : World) : Prop := SRow w W.heap.size A c (ovL d j) ∧ Below W.heap.size W w
theorem ov_next {W wr w2 : World} {A A' : Option Addr} {c c' d j : Nat} {o : Obj} (h : OvAt W A c d j wr) (hr : SRow w2 W.heap.size A' c' (ovL d j ++ [ovS d j])) (hg : (wr.alloc o).grownBy w2 (iblk A)) : OvAt W A' c' d (j + 1) w2 := by
  refine ⟨by rw [ovL_succ]; exact hr, (h.2.alloc h.2.size o).grown hg (by have := h.2.size; simp; omega) (fun k hk => (srow_lt h.1 k hk).1)⟩
theorem ov_ok {d j : Nat} (h : j ≤ 100) : (ovS d j).ok := by
  unfold Spn.ok ovS I64 W64
  dsimp only
  refine ⟨?_, ⟨by omega, by omega⟩, ⟨by omega, by omega⟩, ⟨by omega, by omega⟩, ⟨by omega, by omega⟩, ⟨by omega, by omega⟩⟩
  cases decide (j < d) <;> simp
set_option maxHeartbeats 4000000 in
set_option maxRecDepth 100000 in
theorem topOverlap_walk0 (W : World) (x y z : Int) (n d u : Nat) (hx : x % 4 = n) (hy : y % 4 = d) (hz : z % 3 = u) (hn : n < 4) (hd : d < 4) (hu : u < 3) (x0 : 0 ≤ x) (x1 : x ≤ 255) (y0 : 0 ≤ y) (y1 : y ≤ 255) (z0 : 0 ≤ z) (z1 : z ≤ 255) :
    Calls Try.prog 5 #[.int .u8 x, .int .u8 y, .int .u8 z] W fun e w' => e = .returned (.bool true) ∧ Below W.heap.size W w' := by
  have HOV := Lib.hid (ov_all n hn d hd u hu)
  go_enter Try.func5, Try.ntmps5
  go_wp2_with fail
  clear x0 x1 y0 y1 z0 z1
  generalize x % 4 = gx at hx ⊢
  generalize y % 4 = gy at hy ⊢
  generalize z % 3 = gz at hz ⊢
  subst hx hy hz
  go_loopw [11, 10] (fun i s wr => ∃ (j : Nat) (A : Option Addr) (c : Nat), j ≤ d + u ∧ i = .int .i64 j ∧ s = .slice A j c ∧ Hid (OvAt W A c d j wr)) (fun i _ _ => d + u - (intOf i).toNat)
  case atStart => exact ⟨0, none, 0, by omega, rfl, rfl, Lib.hid ⟨srow_nil _ _, Below.refl _ _⟩⟩
  case round =>
    obtain ⟨j, A, c, hj, rfl, rfl, HR⟩ := hrel
    by_cases hlt : j < d + u
    · have t1 : decide ((j : Int) < (d : Int) + (u : Int)) = true := decide_eq_true (by omega)
      have HOK := Lib.hid (ov_ok (d := d) (j := j) (by omega))
      by_cases hjd : j < d
      · have t2 : decide ((d : Int) ≤ (j : Int)) = false := decide_eq_false (by omega)
        have t2' : decide (d ≤ j) = false := decide_eq_false (by omega)
        have HQ : Hid (ovS d j = ⟨3, 0, 0, 4607182418800017408, j, 100 + j⟩) := Lib.hid (by unfold ovS; rw [decide_eq_true hjd]; rfl)
        go_wp2_with (first | (at_builtin; refine append_span rfl (.tmp 34) (.tmp 41) rfl W.heap.size A c (ovL d j) j (ovL_len d j) rfl (srow_below HR.out.1 ((Below.refl _ _).alloc (Nat.le_refl _) _)) wr.heap.size (ovS d j) HOK.out rfl (by rw [HQ.out]; exact heap_alloc_new wr _) (by omega) (by have := HR.out.2.size; simp; omega) ?_; intro A' c' w2 hr2 hg2; have HR2 := Lib.hid (ov_next HR.out hr2 hg2); clear hr2 hg2))
        go_roundw
        case rel => exact ⟨j + 1, A', c', by omega, by go_num, rfl, HR2⟩
        case measure => simp [intOf]; omega
      · have t2 : decide ((d : Int) ≤ (j : Int)) = true := decide_eq_true (by omega)
        have t2' : decide (d ≤ j) = true := decide_eq_true (by omega)
        have HQ : Hid (ovS d j = ⟨4, 0, 0, 4607182418800017408, j, 100 + j⟩) := Lib.hid (by unfold ovS; rw [decide_eq_false hjd]; rfl)
        go_wp2_with (first | (at_builtin; refine append_span rfl (.tmp 34) (.tmp 41) rfl W.heap.size A c (ovL d j) j (ovL_len d j) rfl (srow_below HR.out.1 ((Below.refl _ _).alloc (Nat.le_refl _) _)) wr.heap.size (ovS d j) HOK.out rfl (by rw [HQ.out]; exact heap_alloc_new wr _) (by omega) (by have := HR.out.2.size; simp; omega) ?_; intro A' c' w2 hr2 hg2; have HR2 := Lib.hid (ov_next HR.out hr2 hg2); clear hr2 hg2))
        go_roundw
        case rel => exact ⟨j + 1, A', c', by omega, by go_num, rfl, HR2⟩
        case measure => simp [intOf]; omega
    · obtain rfl : j = d + u := by omega
      have t1 : decide (((d + u : Nat) : Int) < (d : Int) + (u : Int)) = false := decide_eq_false (by omega)
      have HF := Lib.hid (found_full 2 (n : Int) A c (ovL d (d + u)) (d + u) (ovL_len _ _) (by omega) wr (srow_spans HR.out.1 (by rw [ovL_len]; omega)))
      obtain ⟨r, hr⟩ : ∃ r, foundF 2 n (ovL d (d + u)) (goodB 2 n && rightL (ovL d (d + u))) = r := ⟨_, rfl⟩
      have HRR := Lib.hid hr
      have hov := HOV.out
      unfold ovOk at hov
      rw [hr] at hov
      clear hr
      obtain ⟨o, e⟩ := r
      by_cases hle : d ≤ n + u
      · rw [decide_eq_true hle] at hov
        simp only [cond_true, Bool.and_eq_true, beq_iff_eq] at hov
        obtain ⟨rfl, ho⟩ := hov
        have HO := Lib.hid ho
        have t2 : decide ((d : Int) ≤ (n : Int) + (u : Int)) = true := decide_eq_true (by omega)
        have t3 : ((o.length : Int) == (d : Int) + (u : Int)) = true := by rw [ho]; simp
        clear ho
        go_wp2_with (go_at_call 7; refine HF.out.mono ?_; rintro e w3 ⟨A3, c3, he, _, hb⟩; rw [HRR.out] at he; subst he; have HB := Lib.hid (HR.out.2.trans (hb.mono HR.out.2.size)); clear hb)
        go_ret
        exact ⟨by first | rfl | simp [t3], HB.out⟩
      · rw [decide_eq_false hle] at hov
        simp only [cond_false, Bool.and_eq_true, beq_iff_eq] at hov
        obtain ⟨rfl, ho⟩ := hov
        have t2 : decide ((d : Int) ≤ (n : Int) + (u : Int)) = false := decide_eq_false (by omega)
        have HO := Lib.hid ho
        have t3 : ((o.length : Int) == 0) = true := by rw [ho]; simp
        clear ho
        go_wp2_with (go_at_call 7; refine HF.out.mono ?_; rintro e w3 ⟨A3, c3, he, _, hb⟩; rw [HRR.out] at he; subst he; have HB := Lib.hid (HR.out.2.trans (hb.mono HR.out.2.size)); clear hb)
        go_ret
        exact ⟨by first | rfl | simp [t3], HB.out⟩
theorem topOverlap_walk (x : Int) (hx : (Lit.int .u8 x).wf = true) (y : Int) (hy : (Lit.int .u8 y).wf = true) (z : Int) (hz : (Lit.int .u8 z).wf = true) (W : World) :
    Calls Try.prog 5 #[.int .u8 x, .int .u8 y, .int .u8 z] W fun e w' => e = .returned (.bool true) ∧ Below W.heap.size W w' := by
  have h1 := bounds_u8 hx
  have h2 := bounds_u8 hy
  have h3 := bounds_u8 hz
  exact topOverlap_walk0 W x y z (x % 4).toNat (y % 4).toNat (z % 3).toNat (by omega) (by omega) (by omega) (by omega) (by omega) (by omega) h1.1 h1.2 h2.1 h2.2 h3.1 h3.2
end Go.Proofs.Ytbanfaboimachaa
