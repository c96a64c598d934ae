
/-
  Spans in memory; what the search for an order comes to, plain.
-/
import Derived.Test.YtbanfaboimachaaForks2
import Derived.Test.YtbanfaboimachaaInts
import Derived.Deep.Slices
import Derived.Deep.Fields
import Derived.ChangeSame
import Derived.OpenShut
namespace Go.Proofs.Ytbanfaboimachaa
open Go.RowKit Go.ChangeShapes Go.WideShapes
set_option linter.unusedSimpArgs false
set_option linter.unusedVariables false

structure Spn where
  k : Int
  who : Int
  v : Int
  ans : Int
  fr : Int
  en : Int
def Spn.zero : Spn := ⟨0, 0, 0, 0, 0, 0⟩
def Spn.ok (s : Spn) : Prop := (0 ≤ s.k ∧ s.k ≤ 255) ∧ I64 s.who ∧ W64 s.v ∧ W64 s.ans ∧ I64 s.fr ∧ I64 s.en
def spV (s : Spn) : Value := .agg #[.int .u8 s.k, .int .i64 s.who, .int .u64 s.v, .int .u64 s.ans, .int .i64 s.fr, .int .i64 s.en]
def SpAt (w : World) (ad : Addr) (s : Spn) : Prop := s.ok ∧ w.cell? ad = some (.int .u8 s.k) ∧ w.cell? ⟨ad.block, ad.off + 1, none⟩ = some (.int .i64 s.who) ∧ w.cell? ⟨ad.block, ad.off + 2, none⟩ = some (.int .u64 s.v) ∧ w.cell? ⟨ad.block, ad.off + 3, none⟩ = some (.int .u64 s.ans) ∧ w.cell? ⟨ad.block, ad.off + 4, none⟩ = some (.int .i64 s.fr) ∧ w.cell? ⟨ad.block, ad.off + 5, none⟩ = some (.int .i64 s.en)
def SpansAt (w : World) (A : Option Addr) (l : List Spn) : Prop := l.length ≤ maxLen ∧ ∀ (j : Nat) (s : Spn), l[j]? = some s → ∃ ad, A = some ad ∧ SpAt w (ad.add (j * 6)) s
theorem spAt_lt {w : World} {ad : Addr} {s : Spn} (h : SpAt w ad s) : ad.block < w.heap.size := World.block_lt_of_cell? w ad h.2.1
theorem spAt_below {B : Nat} {w w1 : World} {ad : Addr} {s : Spn} (h : SpAt w ad s) (hB : ad.block < B) (hb : Below B w w1) : SpAt w1 ad s :=
  ⟨h.1, (hb.cell hB).trans h.2.1, (hb.cell (p := ⟨ad.block, ad.off + 1, none⟩) hB).trans h.2.2.1, (hb.cell (p := ⟨ad.block, ad.off + 2, none⟩) hB).trans h.2.2.2.1, (hb.cell (p := ⟨ad.block, ad.off + 3, none⟩) hB).trans h.2.2.2.2.1, (hb.cell (p := ⟨ad.block, ad.off + 4, none⟩) hB).trans h.2.2.2.2.2.1, (hb.cell (p := ⟨ad.block, ad.off + 5, none⟩) hB).trans h.2.2.2.2.2.2⟩
theorem spans_below {w w1 : World} {A : Option Addr} {l : List Spn} (h : SpansAt w A l) (hb : Below w.heap.size w w1) : SpansAt w1 A l :=
  ⟨h.1, fun j s hj => by
    obtain ⟨ad, e, hs⟩ := h.2 j s hj
    exact ⟨ad, e, spAt_below hs (spAt_lt hs) hb⟩⟩
def sp (l : List Spn) (j : Nat) : Spn := (l[j]?).getD Spn.zero
theorem sp_at {w : World} {A : Option Addr} {l : List Spn} (h : SpansAt w A l) {j : Nat} (hj : j < l.length) : ∃ ad, A = some ad ∧ SpAt w (ad.add (j * 6)) (sp l j) := by
  have e : l[j]? = some (sp l j) := by unfold sp; rw [List.getElem?_eq_getElem hj]; rfl
  exact h.2 j _ e

def hasB (o : List Int) (v : Int) : Bool := o.contains v
theorem hasB_iff {o : List Int} {v : Int} : hasB o v = true ↔ v ∈ o := by unfold hasB; exact List.contains_iff_mem
def nthI (l : List Int) (j : Nat) : Int := (l[j]?).getD 0
def bef (a b : Spn) : Bool := a.en != -1 && decide (a.en < b.fr)
def whyF (st : St) (x : Spn) : Int × St := ((bif (stDo x.k x.who x.v st).1.2.1 then 7 else bif (stDo x.k x.who x.v st).1.2.2 != 0 then 3 else bif (x.en != -1 && x.ans != (stDo x.k x.who x.v st).1.1) then 9 else 0), (stDo x.k x.who x.v st).2)
def restAt (l : List Spn) (o : List Int) (i : Nat) : Bool := !((sp l i).en != -1 && !hasB o (i : Int))
/-- A test of all below a number. -/
def allB (p : Nat → Bool) : Nat → Bool
  | 0 => true
  | n + 1 => allB p n && p n
theorem allB_iff {p : Nat → Bool} {n : Nat} : allB p n = true ↔ ∀ i, i < n → p i = true := by
  induction n with
  | zero => exact ⟨fun _ i h => absurd h (Nat.not_lt_zero _), fun _ => rfl⟩
  | succ n ih =>
    show (allB p n && p n) = true ↔ _
    rw [Bool.and_eq_true, ih]
    refine ⟨fun ⟨h1, h2⟩ i hi => ?_, fun h => ⟨fun i hi => h i (by omega), h n (by omega)⟩⟩
    by_cases e : i = n
    · rw [e]; exact h2
    · exact h1 i (by omega)
theorem allB_false {p : Nat → Bool} {n j : Nat} (hj : j < n) (h : p j = false) : allB p n = false := by
  cases hp : allB p n
  · rfl
  · rw [allB_iff.mp hp j hj] at h; cases h
def restB (l : List Spn) (o : List Int) : Bool := allB (restAt l o) l.length
def aheadAt (l : List Spn) (o : List Int) (n m : Nat) : Bool := !(((m : Int) != (n : Int) && !hasB o (m : Int)) && bef (sp l m) (sp l n))
def okNext (l : List Spn) (o : List Int) (n : Nat) : Bool := !hasB o (n : Int) && allB (aheadAt l o n) l.length
def scanF (f : Nat → Option (List Int)) : Nat → Nat → Option (List Int)
  | _, 0 => none
  | j, k + 1 => match f j with
    | some r => some r
    | none => scanF f (j + 1) k
def tryF (l : List Spn) (st : St) (o : List Int) (rec : St → List Int → Option (List Int)) (n : Nat) : Option (List Int) := bif okNext l o n && ((whyF st (sp l n)).1 == 0) then rec (whyF st (sp l n)).2 (o ++ [(n : Int)]) else none
def searchF (l : List Spn) : Nat → St → List Int → Option (List Int)
  | 0, st, o => bif restB l o then some o else none
  | fuel + 1, st, o => bif restB l o then some o else scanF (tryF l st o (searchF l fuel)) 0 l.length
/-- How many below a number pass a test. -/
def cntB (p : Nat → Bool) : Nat → Nat
  | 0 => 0
  | n + 1 => cntB p n + (bif p n then 1 else 0)
theorem cnt_mono {p q : Nat → Bool} (h : ∀ i, q i = true → p i = true) (n : Nat) : cntB q n ≤ cntB p n := by
  induction n with
  | zero => exact Nat.le_refl _
  | succ n ih =>
    unfold cntB
    cases hq : q n
    · cases hp : p n <;> simp only [cond_false, cond_true] <;> omega
    · rw [h n hq]; simp only [cond_true]; omega
theorem cnt_lt {p q : Nat → Bool} (h : ∀ i, q i = true → p i = true) {j n : Nat} (hj : j < n) (hp : p j = true) (hq : q j = false) : cntB q n < cntB p n := by
  induction n with
  | zero => exact absurd hj (Nat.not_lt_zero _)
  | succ n ih =>
    unfold cntB
    by_cases e : j = n
    · subst e
      have := cnt_mono h j
      rw [hp, hq]; simp only [cond_false, cond_true]; omega
    · have := ih (by omega)
      cases hq' : q n
      · cases hp' : p n <;> simp only [cond_false, cond_true] <;> omega
      · rw [h n hq']; simp only [cond_true]; omega
/-- How many are not yet in an order. -/
def left (l : List Spn) (o : List Int) : Nat := cntB (fun n => !hasB o ((n : Nat) : Int)) l.length
theorem left_lt {l : List Spn} {o : List Int} {n : Nat} (hn : n < l.length) (h : hasB o (n : Int) = false) : left l (o ++ [(n : Int)]) < left l o := by
  unfold left
  refine cnt_lt (j := n) (fun i hi => ?_) hn ?_ ?_
  · cases hc : hasB o (i : Int)
    · rfl
    · have : hasB (o ++ [(n : Int)]) (i : Int) = true := by
        rw [hasB_iff] at hc ⊢
        exact List.mem_append_left _ hc
      rw [this] at hi
      cases hi
  · rw [h]; rfl
  · have : hasB (o ++ [(n : Int)]) (n : Int) = true := by rw [hasB_iff]; simp
    rw [this]; rfl
theorem left_zero {l : List Spn} {o : List Int} (h : left l o = 0) {n : Nat} (hn : n < l.length) : hasB o (n : Int) = true := by
  cases hc : hasB o (n : Int)
  · exfalso
    have := left_lt hn hc
    omega
  · rfl
theorem scanF_none {f : Nat → Option (List Int)} {j k : Nat} (h : ∀ i, j ≤ i → i < j + k → f i = none) : scanF f j k = none := by
  induction k generalizing j with
  | zero => rfl
  | succ k ih =>
    unfold scanF
    rw [h j (Nat.le_refl _) (by omega)]
    exact ih (fun i h1 h2 => h i (by omega) (by omega))
theorem searchF_step (l : List Spn) (fuel : Nat) (st : St) (o : List Int) (h : left l o ≤ fuel) (hr : restB l o = false) : searchF l fuel st o = scanF (tryF l st o (searchF l (fuel - 1))) 0 l.length := by
  cases fuel with
  | zero =>
    unfold searchF
    rw [hr]
    refine (scanF_none fun i _ hi => ?_).symm
    have := left_zero (l := l) (o := o) (by omega) (show i < l.length by omega)
    unfold tryF okNext
    rw [this]
    rfl
  | succ fuel =>
    show (bif restB l o then some o else scanF (tryF l st o (searchF l fuel)) 0 l.length) = _
    rw [hr]
    rfl
end Go.Proofs.Ytbanfaboimachaa
