
/-
  rowlockref15.Brackets: what it comes to.
-/
import Derived.Test.YtcjkpeojjonpiaaCk1
namespace Go.Proofs.Ytcjkpeojjonpiaa
open Go.RowKit Go.ChangeShapes Go.WideShapes
set_option linter.unusedSimpArgs false
set_option linter.unusedVariables false

structure Bk where
  ins : List Int
  opn : List Int
  wg : Int
def topB (opn : List Int) : Int := opn.getLast?.getD (-1)
def badA (l : List Ins3) (opn : List Int) (o : Int) : Bool := (o == 21 && decide (topB opn ≥ 0)) || (o == 23 && (decide (topB opn < 0) || decide ((armsI l opn : Int) ≥ 4)))
def fitC (l : List Ins3) (opn : List Int) (o : Int) : Bool := closesI o != 0 && !decide (topB opn < 0) && (xn l (topB opn).toNat).op == closesI o
def badC (l : List Ins3) (opn : List Int) (o : Int) : Bool := closesI o != 0 && !fitC l opn o
def opnC (l : List Ins3) (opn : List Int) (o : Int) : List Int := if fitC l opn o then opn.dropLast else opn
def lessW (k wg : Int) : Bool := decide (wg < 0) || decide (k < wg)
def wgC (l : List Ins3) (opn : List Int) (o wg i : Int) : Int := if (fitC l opn o && (xn l (topB opn).toNat).arg != i && lessW (topB opn) wg) = true then topB opn else wg
def wgB (bad : Bool) (wg i : Int) : Int := if (bad && lessW i wg) = true then i else wg
def opnO (o : Int) (opn : List Int) (i : Int) : List Int := if opensB o = true then opn ++ [i] else opn
def stepBk (l : List Ins3) (st : Bk) (i : Nat) : Bk :=
  ⟨st.ins ++ [topB st.opn], opnO (xn l i).op (opnC l st.opn (xn l i).op) i, wgB (badA l st.opn (xn l i).op || badC l st.opn (xn l i).op) (wgC l st.opn (xn l i).op st.wg i) i⟩
def runBk (l : List Ins3) : Nat → Bk | 0 => ⟨[], [], -1⟩ | j + 1 => stepBk l (runBk l j) j
def endW (st : Bk) : Int := if (decide (st.wg < 0) && decide ((st.opn.length : Int) > 0)) = true then topB st.opn else st.wg
/-- rowlockref15.Regions: the brackets, the place, the error. -/
def rg15 (l : List Ins3) : List Int × Int × Int := if endW (runBk l l.length) ≥ 0 then ([], endW (runBk l l.length), 8) else ((runBk l l.length).ins, 0, 0)
def inN (n : Nat) (opn : List Int) : Prop := ∀ x ∈ opn, 0 ≤ x ∧ x < (n : Int)
theorem inN.mono {n m : Nat} {opn : List Int} (h : inN n opn) (hm : n ≤ m) : inN m opn := fun x hx => by have := h x hx; omega
theorem topB_cases {n : Nat} {opn : List Int} (h : inN n opn) : (opn = [] ∧ topB opn = -1) ∨ ∃ m a, opn = m ++ [a] ∧ topB opn = a ∧ 0 ≤ a ∧ a < (n : Int) := by
  rcases List.eq_nil_or_concat opn with rfl | ⟨m, a, rfl⟩
  · exact .inl ⟨rfl, rfl⟩
  · have := h a (by simp)
    exact .inr ⟨m, a, by simp, by simp [topB], this.1, this.2⟩
theorem opnC_in {l : List Ins3} {n : Nat} {opn : List Int} {o : Int} (h : inN n opn) : inN n (opnC l opn o) ∧ (opnC l opn o).length ≤ opn.length := by
  unfold opnC
  split
  · exact ⟨fun x hx => h x (List.dropLast_subset opn hx), by rw [List.length_dropLast]; omega⟩
  · exact ⟨h, Nat.le_refl _⟩
theorem opnO_in {o : Int} {n : Nat} {opn : List Int} (h : inN n opn) : inN (n + 1) (opnO o opn n) ∧ (opnO o opn n).length ≤ opn.length + 1 := by
  unfold opnO
  split
  · refine ⟨fun x hx => ?_, by simp⟩
    rcases List.mem_append.mp hx with hx | hx
    · have := h x hx; omega
    · rw [List.mem_singleton.mp hx]; omega
  · exact ⟨h.mono (by omega), by omega⟩
theorem topB_bd {n : Nat} {opn : List Int} (h : inN n opn) : -1 ≤ topB opn ∧ topB opn < (n : Int) ∨ (n = 0 ∧ topB opn = -1) := by
  rcases topB_cases h with ⟨_, h⟩ | ⟨m, a, _, h, h1, h2⟩
  · rw [h]; omega
  · rw [h]; omega
theorem topB_lo {n : Nat} {opn : List Int} (h : inN n opn) : -1 ≤ topB opn ∧ topB opn ≤ (n : Int) := by rcases topB_bd h with h | h <;> omega
theorem wgC_bd {l : List Ins3} {n : Nat} {opn : List Int} {o wg i : Int} (h : inN n opn) (hw : -1 ≤ wg ∧ wg ≤ (n : Int)) : -1 ≤ wgC l opn o wg i ∧ wgC l opn o wg i ≤ (n : Int) := by
  unfold wgC
  split
  · exact topB_lo h
  · exact hw
theorem wgB_bd {n : Nat} {bad : Bool} {wg : Int} (hw : -1 ≤ wg ∧ wg ≤ (n : Int)) : -1 ≤ wgB bad wg n ∧ wgB bad wg n ≤ (n : Int) := by
  unfold wgB
  split
  · omega
  · exact hw
theorem runBk_inv (l : List Ins3) : ∀ j, inN j (runBk l j).opn ∧ (runBk l j).opn.length ≤ j ∧ (runBk l j).ins.length = j ∧ -1 ≤ (runBk l j).wg ∧ (runBk l j).wg ≤ (j : Int) := by
  intro j
  induction j with
  | zero => exact ⟨fun x hx => (List.not_mem_nil hx).elim, Nat.le_refl _, rfl, show (-1 : Int) ≤ -1 by decide, show (-1 : Int) ≤ 0 by decide⟩
  | succ j ih =>
    obtain ⟨h1, h2, h3, h4⟩ := ih
    have c := opnC_in (l := l) (o := (xn l j).op) h1
    have o := opnO_in (o := (xn l j).op) c.1
    have w := wgB_bd (bad := badA l (runBk l j).opn (xn l j).op || badC l (runBk l j).opn (xn l j).op) (wgC_bd (l := l) (o := (xn l j).op) (i := j) h1 h4)
    refine ⟨o.1, ?_, ?_, ?_⟩
    · show (opnO _ _ _).length ≤ j + 1
      omega
    · show (_ ++ [_]).length = _
      rw [List.length_append, h3]
      rfl
    · show -1 ≤ wgB _ _ _ ∧ wgB _ _ _ ≤ _
      omega
structure BrX (W w : World) (Ai : Option Addr) (ci : Nat) (Ae : Option Addr) (ce : Nat) (Ao : Option Addr) (co : Nat) (ins en opn : List Int) : Prop where
  ri : IRowAt w W.heap.size Ai ci ins
  re : IRowAt w W.heap.size Ae ce en
  ro : IRowAt w W.heap.size Ao co opn
  d1 : ∀ k, iblk Ai = some k → iblk Ae ≠ some k
  d2 : ∀ k, iblk Ai = some k → iblk Ao ≠ some k
  d3 : ∀ k, iblk Ae = some k → iblk Ao ≠ some k
  bl : Below W.heap.size W w
section
variable {W w w1 w2 : World} {Ai Ae Ao A2 : Option Addr} {ci ce co c2 : Nat} {ins en opn l2 : List Int}
theorem BrX.below (h : BrX W w Ai ci Ae ce Ao co ins en opn) (hb : Below w.heap.size w w1) : BrX W w1 Ai ci Ae ce Ao co ins en opn :=
  ⟨irow_below h.ri hb, irow_below h.re hb, irow_below h.ro hb, h.d1, h.d2, h.d3, h.bl.trans (hb.mono h.bl.size)⟩
theorem BrX.alloc (h : BrX W w Ai ci Ae ce Ao co ins en opn) (o : Obj) : BrX W (w.alloc o) Ai ci Ae ce Ao co ins en opn := h.below ((Below.refl _ _).alloc (Nat.le_refl _) o)
theorem BrX.pushI (h : BrX W w Ai ci Ae ce Ao co ins en opn) (hr : IRowAt w2 W.heap.size A2 c2 l2) (hg : w.grownBy w2 (iblk Ai)) (hat : iblk A2 = iblk Ai ∨ iblk A2 = some w.heap.size) : BrX W w2 A2 c2 Ae ce Ao co l2 en opn := by
  refine ⟨hr, irow_other h.re hg (fun k hk e => h.d1 k e.symm hk), irow_other h.ro hg (fun k hk e => h.d2 k e.symm hk), fun k hk e => ?_, fun k hk e => ?_, h.d3, h.bl.grown hg h.bl.size (fun k hk => (irow_lt h.ri k hk).1)⟩
  · rcases hat with hat | hat
    · exact h.d1 k (hat ▸ hk) e
    · rw [hat] at hk; have := (irow_lt h.re k e).2; simp at hk; omega
  · rcases hat with hat | hat
    · exact h.d2 k (hat ▸ hk) e
    · rw [hat] at hk; have := (irow_lt h.ro k e).2; simp at hk; omega
theorem BrX.pushE (h : BrX W w Ai ci Ae ce Ao co ins en opn) (hr : IRowAt w2 W.heap.size A2 c2 l2) (hg : w.grownBy w2 (iblk Ae)) (hat : iblk A2 = iblk Ae ∨ iblk A2 = some w.heap.size) : BrX W w2 Ai ci A2 c2 Ao co ins l2 opn := by
  refine ⟨irow_other h.ri hg (fun k hk e => h.d1 k hk e.symm), hr, irow_other h.ro hg (fun k hk e => h.d3 k e.symm hk), fun k hk e => ?_, h.d2, fun k hk e => ?_, h.bl.grown hg h.bl.size (fun k hk => (irow_lt h.re k hk).1)⟩
  · rcases hat with hat | hat
    · exact h.d1 k hk (hat ▸ e)
    · rw [hat] at e; have := (irow_lt h.ri k hk).2; simp at e; omega
  · rcases hat with hat | hat
    · exact h.d3 k (hat ▸ hk) e
    · rw [hat] at hk; have := (irow_lt h.ro k e).2; simp at hk; omega
theorem BrX.pushO (h : BrX W w Ai ci Ae ce Ao co ins en opn) (hr : IRowAt w2 W.heap.size A2 c2 l2) (hg : w.grownBy w2 (iblk Ao)) (hat : iblk A2 = iblk Ao ∨ iblk A2 = some w.heap.size) : BrX W w2 Ai ci Ae ce A2 c2 ins en l2 := by
  refine ⟨irow_other h.ri hg (fun k hk e => h.d2 k hk e.symm), irow_other h.re hg (fun k hk e => h.d3 k hk e.symm), hr, h.d1, fun k hk e => ?_, fun k hk e => ?_, h.bl.grown hg h.bl.size (fun k hk => (irow_lt h.ro k hk).1)⟩
  · rcases hat with hat | hat
    · exact h.d2 k hk (hat ▸ e)
    · rw [hat] at e; have := (irow_lt h.ri k hk).2; simp at e; omega
  · rcases hat with hat | hat
    · exact h.d3 k hk (hat ▸ e)
    · rw [hat] at e; have := (irow_lt h.re k hk).2; simp at e; omega
/-- The open ones in a block of their own, made behind w. -/
theorem BrX.newO {r : Option Nat} (h : BrX W w Ai ci Ae ce Ao co ins en opn) (hb : Below w.heap.size w w1) (hr : IRowAt w2 W.heap.size A2 c2 l2) (hg : w1.grownBy w2 r) (hrn : ∀ k, r = some k → w.heap.size ≤ k) (hat : ∀ k, iblk A2 = some k → w.heap.size ≤ k) : BrX W w2 Ai ci Ae ce A2 c2 ins en l2 := by
  have h1 := h.below hb
  have hb2 : Below W.heap.size W w2 := h1.bl.grown hg h1.bl.size (fun k hk => Nat.le_trans h.bl.size (hrn k hk))
  refine ⟨irow_other h1.ri hg (fun k hk e => ?_), irow_other h1.re hg (fun k hk e => ?_), hr, h.d1, fun k hk e => ?_, fun k hk e => ?_, hb2⟩
  · have := (irow_lt h.ri k hk).2; have := hrn k e.symm; omega
  · have := (irow_lt h.re k hk).2; have := hrn k e.symm; omega
  · have := (irow_lt h.ri k hk).2; have := hat k e; omega
  · have := (irow_lt h.re k hk).2; have := hat k e; omega
theorem BrX.setE {g i : Nat} {v : Int} (h : BrX W w Ai ci (some ⟨g, 0, none⟩) ce Ao co ins en opn) (hi : i < en.length) (hv : I64 v) : BrX W (w.setCell ⟨g, i, none⟩ (.int .i64 v)) Ai ci (some ⟨g, 0, none⟩) ce Ao co ins (en.set i v) opn := by
  have hg : w.grownBy (w.setCell ⟨g, i, none⟩ (.int .i64 v)) (some g) := gb_set (gb_refl w (some g)) i _
  refine ⟨irow_other h.ri hg (fun k hk e => h.d1 k hk e.symm), irow_set h.re hi hv, irow_other h.ro hg (fun k hk e => h.d3 k e.symm hk), h.d1, h.d2, h.d3, h.bl.grown hg h.bl.size (fun k hk => (irow_lt h.re k hk).1)⟩
end
theorem irow_ints {w : World} {base c : Nat} {A : Option Addr} {l : List Int} (h : IRowAt w base A c l) : IntsAt okAny w A l := ints_mono (irow_vals h).1 (fun _ _ _ => trivial)
theorem irow_pop1 {w : World} {base c : Nat} {A : Option Addr} {m : List Int} {a : Int} (h : IRowAt w base A c (m ++ [a])) : IRowAt w base A c m := by
  have := irow_pp h (n := m.length) (by simp)
  simpa using this
def BrPost (l : List Ins3) (W : World) (e : Ending) (w' : World) : Prop := ∃ A1 c1 A2 n2 c2, e = .returned (.tuple #[.slice A1 (rg15 l).1.length c1, .slice A2 n2 c2, .int .i64 (rg15 l).2.1, .int .i64 (rg15 l).2.2]) ∧ IRowAt w' W.heap.size A1 c1 (rg15 l).1 ∧ Below W.heap.size W w'
end Go.Proofs.Ytcjkpeojjonpiaa
