
/-
  Rows of instructions.
-/
import Derived.Test.YtmmfadakhnagpaaIns
import Derived.ChangeSlices
import Derived.WalkSpells
import Derived.WalkLawsBesides
namespace Go.Proofs.Ytmmfadakhnagpaa
open Go.RowKit Go.ChangeShapes Go.WideShapes
set_option linter.unusedSimpArgs false
set_option linter.unusedVariables false

theorem inss_cells {w : World} {g o : Nat} {l : List Ins3} (h : InssAt w (some ⟨g, o, none⟩) l) : ∀ (j : Nat) (u : Value), (insC l)[j]? = some u → w.cell? (Addr.add ⟨g, o, none⟩ j) = some u := by
  intro j u hu
  have hj : j < (insC l).length := (List.getElem?_eq_some_iff.mp hu).1
  rw [insC_len] at hj
  have hq : j / 3 < l.length := by omega
  have hs := xn_some h hq
  obtain ⟨_, h0, h1, h2⟩ := hs
  have hat := insC_at l (j / 3) _ (xn_get hq)
  rw [add_at] at h0 h1 h2 ⊢
  dsimp only at h1 h2
  have hr : j % 3 = 0 ∨ j % 3 = 1 ∨ j % 3 = 2 := by omega
  rcases hr with hr | hr | hr
  · have := hat 0 _ rfl
    rw [show j / 3 * 3 + 0 = j by omega, hu] at this
    obtain rfl := Option.some.inj this
    rw [show o + j / 3 * 3 = o + j by omega] at h0
    exact h0
  · have := hat 1 _ rfl
    rw [show j / 3 * 3 + 1 = j by omega, hu] at this
    obtain rfl := Option.some.inj this
    rw [show o + j / 3 * 3 + 1 = o + j by omega] at h1
    exact h1
  · have := hat 2 _ rfl
    rw [show j / 3 * 3 + 2 = j by omega, hu] at this
    obtain rfl := Option.some.inj this
    rw [show o + j / 3 * 3 + 2 = o + j by omega] at h2
    exact h2
theorem nrow_of {w : World} {base : Nat} {v : Value} {l : List Ins3} (h : w.ownsRow base 64 3 v l.length (insC l)) (hok : ∀ s ∈ l, s.ok) : ∃ A c, v = .slice A l.length c ∧ NRow w base A c l := by
  rcases h.2 with ⟨hv, hn⟩ | ⟨g, cap, cur, hv, _⟩
  · have e : l = [] := List.eq_nil_of_length_eq_zero hn
    subst e
    subst hv
    exact ⟨none, 0, rfl, h, hok⟩
  · subst hv
    exact ⟨_, _, rfl, h, hok⟩
theorem append_inss {ops : Array Oper} {rest : List Oper} {o : Oper} {a : Act} {Q : Exit → Act → World → Prop} {w : World} (hgd : o.guard = none) (s x : Operand)
    (ho : o.op = .call { callee := .builtin .append, args := #[s, x], argTypes := #[25, 25] })
    (base : Nat) (v0 : Value) (l : List Ins3) (hs : a.eval s = v0) (hr : w.ownsRow base 64 3 v0 l.length (insC l)) (hok : ∀ x ∈ l, x.ok) (b : Addr) (n c : Nat) (src : List Ins3) (hn : n = src.length) (hx : a.eval x = .slice (some b) n c)
    (hv : ∀ (j : Nat) (u : Value), (insC src)[j]? = some u → w.cell? (b.add j) = some u) (hoks : ∀ x ∈ src, x.ok) (hlen : l.length + src.length ≤ 1000) (hbase : base ≤ w.heap.size) (l' : List Ins3) (hl : l ++ src = l')
    (h : ∀ A' c' w', NRow w' base A' c' l' → w.grownBy w' v0.ownBlock → wpList Try.prog ops Q rest (a.put o.dst (.slice A' l'.length c')) w') : wpList Try.prog ops Q (o :: rest) a w := by
  subst hl
  subst hn
  obtain ⟨i0, hi, hz0, hz1, hz2⟩ := info_parts Ins_info
  refine wpList_append_own_at w hgd s x 25 ho base 64 i0 _ 3 24 Try.underlying25 hi hz0 hz1 hz2 rfl (by decide) v0 l.length (insC l) hs hr b src.length c (insC src) hx (insC_len src) hv (insC_one src) (by unfold maxLen; omega) (by omega) hbase ?_
  intro v' w' h1 h2 _ _
  rw [← insC_append, ← List.length_append] at h1
  obtain ⟨A', c', rfl, hrow⟩ := nrow_of h1 (fun t ht => by
    rcases List.mem_append.mp ht with ht | ht
    · exact hok t ht
    · exact hoks t ht)
  exact h A' c' w' hrow h2
theorem nrow_made (w : World) (base : Nat) (l : List Ins3) (hok : ∀ x ∈ l, x.ok) (hb : base ≤ w.heap.size) (hl : l.length ≤ 1000) : NRow (w.alloc (.cells (insC l).toArray 64)) base (some ⟨w.heap.size, 0, none⟩) l.length l :=
  ⟨⟨insC_len l, .inr ⟨w.heap.size, l.length, (insC l).toArray, rfl, hb, heap_alloc_new w _, Nat.le_refl _, by unfold maxLen; omega, by simp [insC_len], by rw [List.take_of_length_le (by simp [insC_len])]⟩⟩, hok⟩
theorem made_cells (w : World) (l : List Ins3) : ∀ (j : Nat) (u : Value), (insC l)[j]? = some u → (w.alloc (.cells (insC l).toArray 64)).cell? (Addr.add ⟨w.heap.size, 0, none⟩ j) = some u := fun j u hu => by
  rw [add_at, Nat.zero_add, hp_cell (heap_alloc_new w _)]
  simpa using hu
/-- A row of instructions that grows. -/
structure RI (W w : World) (A : Option Addr) (c : Nat) (l : List Ins3) : Prop where
  row : NRow w W.heap.size A c l
  bl : Below W.heap.size W w
theorem RI.alloc {W w : World} {A : Option Addr} {c : Nat} {l : List Ins3} (h : RI W w A c l) (o : Obj) : RI W (w.alloc o) A c l := ⟨nrow_below h.row ((Below.refl _ _).alloc (Nat.le_refl _) o), h.bl.alloc h.bl.size o⟩
theorem RI.more {W w w1 : World} {A A1 : Option Addr} {c c1 : Nat} {l l1 : List Ins3} (h : RI W w A c l) (hr : NRow w1 W.heap.size A1 c1 l1) (hg : w.grownBy w1 (Value.slice A l.length c).ownBlock) : RI W w1 A1 c1 l1 := ⟨hr, h.bl.grown hg h.bl.size (fun k hk => (h.row.1.lt k hk).1)⟩
theorem inss_made {w : World} {b : Nat} {l : List Ins3} {t : TypeId} (hb : w.heap[b]? = some (.cells (insC l).toArray t (0, 0))) (hok : ∀ x ∈ l, x.ok) (hl : l.length ≤ 1000) : InssAt w (some ⟨b, 0, none⟩) l := by
  refine ⟨by unfold maxLen; omega, fun j s hs => ⟨_, rfl, hok s (List.mem_of_getElem? hs), ?_⟩⟩
  have key : ∀ i u, (inC s)[i]? = some u → w.cell? ⟨b, j * 3 + i, none⟩ = some u := fun i u hu => by
    rw [hp_cell hb]
    have := insC_at l j s hs i u hu
    simpa using this
  have e : (Addr.add ⟨b, 0, none⟩ (j * 3)) = ⟨b, j * 3, none⟩ := by rw [add_at, Nat.zero_add]
  rw [e]
  exact ⟨key 0 _ rfl, key 1 _ rfl, key 2 _ rfl⟩
theorem RI.nil (W : World) : RI W W none 0 [] := ⟨nrow_nil W _, Below.refl _ _⟩
theorem RI.below {W w w1 : World} {A : Option Addr} {c : Nat} {l : List Ins3} (h : RI W w A c l) (hb : Below w.heap.size w w1) : RI W w1 A c l := ⟨nrow_below h.row hb, h.bl.trans (hb.mono h.bl.size)⟩
instance (n : Int) : Decidable (I64 n) := by unfold I64; infer_instance
instance (n : Int) : Decidable (W64 n) := by unfold W64; infer_instance
instance (x : Ins3) : Decidable x.ok := by unfold Ins3.ok; infer_instance
end Go.Proofs.Ytmmfadakhnagpaa
