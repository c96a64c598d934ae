
/-
  Slices of instructions: what stands in them; rows of them that a law makes itself.
-/
import Derived.Test.YtmmfadakhnagpaaInts
import Derived.Deep.Slices
import Derived.Deep.Fields
import Derived.ChangeSame
import Derived.OpenShut
namespace Go.Proofs.Ytmmfadakhnagpaa
open Go.RowKit Go.ChangeShapes Go.WideShapes
set_option linter.unusedSimpArgs false
set_option linter.unusedVariables false

structure Ins3 where
  op : Int
  arg : Int
  val : Int
def Ins3.zero : Ins3 := ⟨0, 0, 0⟩
def Ins3.ok (s : Ins3) : Prop := (0 ≤ s.op ∧ s.op ≤ 255) ∧ I64 s.arg ∧ W64 s.val
def InAt (w : World) (ad : Addr) (s : Ins3) : Prop := s.ok ∧ w.cell? ad = some (.int .u8 s.op) ∧ w.cell? ⟨ad.block, ad.off + 1, none⟩ = some (.int .i64 s.arg) ∧ w.cell? ⟨ad.block, ad.off + 2, none⟩ = some (.int .u64 s.val)
def InssAt (w : World) (A : Option Addr) (l : List Ins3) : Prop := l.length ≤ maxLen ∧ ∀ (j : Nat) (s : Ins3), l[j]? = some s → ∃ ad, A = some ad ∧ InAt w (ad.add (j * 3)) s
theorem inAt_lt {w : World} {ad : Addr} {s : Ins3} (h : InAt w ad s) : ad.block < w.heap.size := World.block_lt_of_cell? w ad h.2.1
theorem inAt_below {B : Nat} {w w1 : World} {ad : Addr} {s : Ins3} (h : InAt w ad s) (hB : ad.block < B) (hb : Below B w w1) : InAt w1 ad s :=
  ⟨h.1, (hb.cell hB).trans h.2.1, (hb.cell (p := ⟨ad.block, ad.off + 1, none⟩) hB).trans h.2.2.1, (hb.cell (p := ⟨ad.block, ad.off + 2, none⟩) hB).trans h.2.2.2⟩
theorem inss_below {w w1 : World} {A : Option Addr} {l : List Ins3} (h : InssAt w A l) (hb : Below w.heap.size w w1) : InssAt w1 A l :=
  ⟨h.1, fun j s hj => by
    obtain ⟨ad, e, hs⟩ := h.2 j s hj
    exact ⟨ad, e, inAt_below hs (inAt_lt hs) hb⟩⟩
def xn (l : List Ins3) (j : Nat) : Ins3 := (l[j]?).getD Ins3.zero
theorem xn_get {l : List Ins3} {j : Nat} (hj : j < l.length) : l[j]? = some (xn l j) := by unfold xn; rw [List.getElem?_eq_getElem hj]; rfl
theorem xn_at {w : World} {A : Option Addr} {l : List Ins3} (h : InssAt w A l) {j : Nat} (hj : j < l.length) : ∃ ad, A = some ad ∧ InAt w (ad.add (j * 3)) (xn l j) := h.2 j _ (xn_get hj)
theorem xn_some {w : World} {ad : Addr} {l : List Ins3} (h : InssAt w (some ad) l) {j : Nat} (hj : j < l.length) : InAt w (ad.add (j * 3)) (xn l j) := by
  obtain ⟨ad', e, h⟩ := xn_at h hj
  obtain rfl := Option.some.inj e
  exact h
theorem inss_take {w : World} {A : Option Addr} {l : List Ins3} (h : InssAt w A l) (n : Nat) : InssAt w A (l.take n) :=
  ⟨by have := h.1; simp; omega, fun j s hs => by
    rw [List.getElem?_take] at hs
    split at hs
    · exact h.2 j s hs
    · cases hs⟩
def InsIn (w : World) (A : Option Addr) (n c : Nat) : Prop := ∃ l : List Ins3, l.length = n ∧ InssAt w A l ∧ n ≤ c ∧ (A = none → c = 0)
theorem ilist_of {P : Nat → Ins3 → Prop} (n : Nat) (h : ∀ j, j < n → ∃ s, P j s) : ∃ l : List Ins3, l.length = n ∧ ∀ (j : Nat) (s : Ins3), l[j]? = some s → P j s := by
  induction n with
  | zero => exact ⟨[], rfl, fun j s hs => by simp at hs⟩
  | succ n ih =>
    obtain ⟨l, hl, hp⟩ := ih (fun j hj => h j (by omega))
    obtain ⟨s, hs⟩ := h n (by omega)
    refine ⟨l ++ [s], by simp [hl], fun j t ht => ?_⟩
    by_cases hj : j < n
    · rw [List.getElem?_append_left (by omega)] at ht
      exact hp j t ht
    · rw [List.getElem?_append_right (by omega)] at ht
      have : j = n := by
        have := (List.getElem?_eq_some_iff.mp ht).1
        simp at this
        omega
      subst this
      rw [hl, Nat.sub_self] at ht
      obtain rfl := Option.some.inj ht
      exact hs
set_option maxRecDepth 100000 in
theorem ins_of {H : Type} {enc : TypeId × Value → H} {W : World} {base : Nat} {spare : Nat → Bool} {held : Bool} {a : Option Addr} {len cap : Nat} {d : DataW H} {p : List MemPlace} (h : DataW.Trod enc Try.prog W base spare held 25 (.slice a len cap) d p) : InsIn W a len cap := by
  obtain ⟨fuel, h⟩ := h
  rcases Go.Deep.open_slice Try.underlying25 h with ⟨h0, _⟩ | ⟨a', len', cap', m, n, D, Pl, hcs, hb, hl, hm, hmm, hx, hi⟩
  · obtain ⟨rfl, rfl, rfl⟩ : a = none ∧ len = 0 ∧ cap = 0 := by simpa [Value.cells] using h0
    exact ⟨[], rfl, ⟨Nat.zero_le _, fun j s hs => by simp at hs⟩, Nat.le_refl _, fun _ => rfl⟩
  · obtain ⟨rfl, rfl, rfl⟩ : a = some a' ∧ len = len' ∧ cap = cap' := by simpa [Value.cells] using hcs
    have key : ∀ j, j < len → ∃ s, InAt W (a'.add (j * 3)) s := by
      intro j hj
      obtain ⟨cs', hc, ht'⟩ := hi j (by rw [hmm]; split <;> omega)
      have hC : Program.cellsOf Try.prog 64 = 3 := by kernel_rfl
      rw [hC] at hc
      obtain ⟨ys, n', hn', hy, hlen, hyl, hf⟩ := DataW.trod_struct Try.underlying64 ht'
      rw [hC] at hlen
      obtain ⟨_, _, hat⟩ := World.cells?_some hc
      match cs', hlen, ys, hyl with
      | [c0, c1, c2], _, [y0, y1, y2], _ =>
        obtain ⟨op, e0, _, b0⟩ := DataW.trod_int (cs := [c0]) Try.underlying62 ((congrArg _ (by kernel_rfl)).trans (hf 0 _ rfl))
        obtain ⟨arg, e1, _, b1⟩ := DataW.trod_int (cs := [c1]) Try.underlying3 ((congrArg _ (by kernel_rfl)).trans (hf 1 _ rfl))
        obtain ⟨v, e2, _, b2⟩ := DataW.trod_int (cs := [c2]) Try.underlying53 ((congrArg _ (by kernel_rfl)).trans (hf 2 _ rfl))
        simp only [List.cons.injEq, and_true] at e0 e1 e2
        subst e0 e1 e2
        have q2 := bounds_u64 b2
        have q1 := bounds_i64 b1
        have w2 : W64 v := ⟨by omega, by omega⟩
        exact ⟨⟨op, arg, v⟩, ⟨bounds_u8 b0, ⟨q1.1, q1.2⟩, w2⟩, hat 0 (by omega), hat 1 (by omega), hat 2 (by omega)⟩
    obtain ⟨l, hl1, hl2⟩ := ilist_of len key
    exact ⟨l, hl1, ⟨by rw [hl1]; exact Nat.le_trans hl hm, fun j s hs => ⟨a', rfl, hl2 j s hs⟩⟩, hl, fun h => by cases h⟩
def inC (s : Ins3) : List Value := [.int .u8 s.op, .int .i64 s.arg, .int .u64 s.val]
def inV (s : Ins3) : Value := .agg #[.int .u8 s.op, .int .i64 s.arg, .int .u64 s.val]
def insC (l : List Ins3) : List Value := l.flatMap inC
theorem insC_len (l : List Ins3) : (insC l).length = l.length * 3 := by
  induction l with
  | nil => rfl
  | cons x l ih =>
    unfold insC at *
    rw [List.flatMap_cons, List.length_append, ih]
    simp [inC]
    omega
theorem insC_append (l m : List Ins3) : insC (l ++ m) = insC l ++ insC m := by unfold insC; rw [List.flatMap_append]
theorem insC_one (l : List Ins3) : ∀ u ∈ insC l, u.oneCell' = true := by
  intro u hu
  unfold insC at hu
  rw [List.mem_flatMap] at hu
  obtain ⟨s, _, hu⟩ := hu
  simp only [inC, List.mem_cons, List.not_mem_nil, or_false] at hu
  rcases hu with rfl | rfl | rfl <;> rfl
theorem insC_at : ∀ (l : List Ins3) (j : Nat) (s : Ins3), l[j]? = some s → ∀ i u, (inC s)[i]? = some u → (insC l)[j * 3 + i]? = some u := by
  intro l
  induction l with
  | nil => intro j s h; simp at h
  | cons x l ih =>
    intro j s h i u hu
    have hi : i < 3 := (List.getElem?_eq_some_iff.mp hu).1
    have e : insC (x :: l) = inC x ++ insC l := by unfold insC; rw [List.flatMap_cons]
    have e6 : (inC x).length = 3 := rfl
    rw [e]
    cases j with
    | zero =>
      obtain rfl : x = s := by simpa using h
      rw [List.getElem?_append_left (by omega), Nat.zero_mul, Nat.zero_add]
      exact hu
    | succ j =>
      rw [List.getElem?_append_right (by omega), e6, show (j + 1) * 3 + i - 3 = j * 3 + i by omega]
      exact ih j s (by simpa using h) i u hu
def NRow (w : World) (base : Nat) (A : Option Addr) (c : Nat) (l : List Ins3) : Prop := w.ownsRow base 64 3 (.slice A l.length c) l.length (insC l) ∧ ∀ s ∈ l, s.ok
theorem nrow_nil (w : World) (base : Nat) : NRow w base none 0 [] := ⟨World.ownsRow_nil w base _ 3, fun x hx => (List.not_mem_nil hx).elim⟩
theorem nrow_below {w w1 : World} {base c : Nat} {A : Option Addr} {l : List Ins3} (h : NRow w base A c l) (hb : Below w.heap.size w w1) : NRow w1 base A c l :=
  ⟨h.1.kept (gb_below (r := none) hb) (by cases hh : (Value.slice A l.length c).ownBlock <;> simp), h.2⟩
theorem nrow_lt {w : World} {base c : Nat} {A : Option Addr} {l : List Ins3} (h : NRow w base A c l) : ∀ k, iblk A = some k → base ≤ k ∧ k < w.heap.size := by
  intro k hk
  exact h.1.lt k (by rw [iblk_own]; exact hk)
theorem nrow_inss {w : World} {base c : Nat} {A : Option Addr} {l : List Ins3} (h : NRow w base A c l) (hl : l.length ≤ 1000) : InssAt w A l ∧ l.length ≤ c ∧ (A = none → c = 0) := by
  refine ⟨⟨by unfold maxLen; omega, fun j s hs => ?_⟩, ?_⟩
  · have hj : j < l.length := (List.getElem?_eq_some_iff.mp hs).1
    have hok : s.ok := h.2 s (by obtain ⟨hj, e⟩ := List.getElem?_eq_some_iff.mp hs; rw [← e]; exact List.getElem_mem hj)
    rcases h.1.2 with ⟨hn, _⟩ | ⟨g, cap, cur, hv, _, hg, _, _, _, ht⟩
    · simp only [Value.slice.injEq] at hn; omega
    · simp only [Value.slice.injEq] at hv
      obtain ⟨rfl, _⟩ := hv
      have key : ∀ i u, (inC s)[i]? = some u → w.cell? ⟨g, j * 3 + i, none⟩ = some u := by
        intro i u hu
        have hc := insC_at l j s hs i u hu
        rw [hp_cell hg, ← Array.getElem?_toList]
        rw [← ht, List.getElem?_take] at hc
        split at hc
        · exact hc
        · cases hc
      refine ⟨⟨g, 0, none⟩, rfl, hok, ?_⟩
      rw [add_at, Nat.zero_add]
      exact ⟨key 0 _ rfl, key 1 _ rfl, key 2 _ rfl⟩
  · rcases h.1.2 with ⟨hn, _⟩ | ⟨g, cap, cur, hv, _, _, hcap, _⟩
    · simp only [Value.slice.injEq] at hn
      exact ⟨by omega, fun _ => hn.2.2⟩
    · simp only [Value.slice.injEq] at hv
      exact ⟨by omega, fun h => by rw [hv.1] at h; cases h⟩
theorem Ins_info : (Try.prog.info? 64).map (fun i => (i.zero, i.size, i.bytes)) = some (some (.agg #[.int .u8 0, .int .i64 0, .int .u64 0]), 3, 24) := by kernel_rfl
theorem append_ins {ops : Array Oper} {rest : List Oper} {o : Oper} {a : Act} {Q : Exit → Act → World → Prop} {w : World} (hgd : o.guard = none) (s x : Operand)
    (ho : o.op = .call { callee := .builtin .append, args := #[s, x], argTypes := #[25, 25] })
    (base : Nat) (A0 : Option Addr) (c0 : Nat) (l : List Ins3) (hs : a.eval s = .slice A0 l.length c0) (hr : NRow w base A0 c0 l) (g : Nat) (q : Ins3) (hq : q.ok) (hx : a.eval x = .slice (some ⟨g, 0, none⟩) 1 1)
    (hg : w.heap[g]? = some (.cells #[.int .u8 q.op, .int .i64 q.arg, .int .u64 q.val] 64 (0, 0))) (hlen : l.length ≤ 1000) (hbase : base ≤ w.heap.size) (l' : List Ins3) (hl : l ++ [q] = l')
    (h : ∀ A' c' w', NRow w' base A' c' l' → w.grownBy w' (iblk A0) → wpList Try.prog ops Q rest (a.put o.dst (.slice A' l'.length c')) w') : wpList Try.prog ops Q (o :: rest) a w := by
  subst hl
  obtain ⟨i0, hi, hz0, hz1, hz2⟩ := info_parts Ins_info
  refine wpList_append_own w hgd s x 25 ho base 64 i0 _ 3 24 Try.underlying25 hi hz0 hz1 hz2 rfl (by decide) (.slice A0 l.length c0) l.length (insC l) hs hr.1 ⟨g, 0, none⟩ 1 1 (inC q) hx rfl ?_ ?_ (by unfold maxLen; omega) (by omega) hbase ?_
  · intro j u hu
    rw [add_at, Nat.zero_add, hp_cell hg, ← Array.getElem?_toList]
    exact hu
  · intro u hu
    simp only [inC, List.mem_cons, List.not_mem_nil, or_false] at hu
    rcases hu with rfl | rfl | rfl <;> rfl
  · intro v' w' h1 h2 _
    rw [iblk_own] at h2
    have hc : insC l ++ inC q = insC (l ++ [q]) := by rw [insC_append]; simp [insC]
    have hlen' : (l ++ [q]).length = l.length + 1 := by simp
    rw [hc] at h1
    have hv : ∃ A' c', v' = .slice A' (l ++ [q]).length c' := by
      rw [hlen']
      rcases h1.2 with ⟨_, h0⟩ | ⟨g', cap, cur, hv, _⟩
      · exact absurd h0 (by omega)
      · exact ⟨_, _, hv⟩
    obtain ⟨A', c', rfl⟩ := hv
    refine h A' c' w' ⟨by rw [← hlen'] at h1; exact h1, fun t ht => ?_⟩ h2
    rcases List.mem_append.mp ht with ht | ht
    · exact hr.2 t ht
    · rw [List.mem_singleton.mp ht]; exact hq
end Go.Proofs.Ytmmfadakhnagpaa
