
/-
  The rows of unlike places one behind the other: all of them are looked at, in the search's order (plain).
-/
import Derived.Test.YtbanfaboimachaaLinR1
namespace Go.Proofs.Ytbanfaboimachaa
set_option linter.unusedSimpArgs false
set_option linter.unusedVariables false

def firstFrom (o : List Int) : Nat → Nat → Option Nat
  | _, 0 => none
  | i, k + 1 => bif hasB o (i : Int) then firstFrom o (i + 1) k else some i
/-- The next row that is no longer than one. -/
def climbF (n : Nat) : Nat → List Int → List Int
  | 0, _ => []
  | k + 1, o => match firstFrom (o.take k) ((nthI o k).toNat + 1) (n - ((nthI o k).toNat + 1)) with
    | some i => o.take k ++ [(i : Int)]
    | none => climbF n k (o.take k)
def climb (n : Nat) (o : List Int) : List Int := climbF n o.length o
def nextKid (n : Nat) (o : List Int) (i : Nat) : List Int := match firstFrom o i (n - i) with
  | some j => o ++ [(j : Int)]
  | none => climb n o
def afterF (n : Nat) (o : List Int) : List Int := nextKid n o 0
theorem climb_snoc (n : Nat) (o : List Int) (i : Nat) : climb n (o ++ [(i : Int)]) = nextKid n o (i + 1) := by
  unfold climb nextKid
  have h1 : (o ++ [(i : Int)]).length = o.length + 1 := by simp
  have h2 : (o ++ [(i : Int)]).take o.length = o := by simp
  have h3 : nthI (o ++ [(i : Int)]) o.length = (i : Int) := by unfold nthI; simp
  rw [h1]
  show (match firstFrom ((o ++ [(i : Int)]).take o.length) ((nthI (o ++ [(i : Int)]) o.length).toNat + 1) (n - ((nthI (o ++ [(i : Int)]) o.length).toNat + 1)) with
    | some j => (o ++ [(i : Int)]).take o.length ++ [(j : Int)]
    | none => climbF n o.length ((o ++ [(i : Int)]).take o.length)) = _
  rw [h2, h3, Int.toNat_natCast]
  rfl
theorem kid_skip {n : Nat} {o : List Int} {i : Nat} (hi : i < n) (h : hasB o (i : Int) = true) : nextKid n o i = nextKid n o (i + 1) := by
  unfold nextKid
  rw [show n - i = (n - (i + 1)) + 1 by omega]
  show (match (bif hasB o (i : Int) then firstFrom o (i + 1) (n - (i + 1)) else some i) with | some j => o ++ [(j : Int)] | none => climb n o) = _
  rw [h]; rfl
theorem kid_hit {n : Nat} {o : List Int} {i : Nat} (hi : i < n) (h : hasB o (i : Int) = false) : nextKid n o i = o ++ [(i : Int)] := by
  unfold nextKid
  rw [show n - i = (n - (i + 1)) + 1 by omega]
  show (match (bif hasB o (i : Int) then firstFrom o (i + 1) (n - (i + 1)) else some i) with | some j => o ++ [(j : Int)] | none => climb n o) = _
  rw [h]; rfl
theorem kid_end (n : Nat) (o : List Int) : nextKid n o n = climb n o := by
  unfold nextKid
  rw [Nat.sub_self]; rfl
def contOf (F : List Int → Option (List Int)) (q : List Int) : Option (List Int) := match q with
  | [] => none
  | x :: s => F (x :: s)
def refScan (l : List Spn) (st0 : St) : Nat → List Int → Option (List Int)
  | 0, _ => none
  | t + 1, r => bif okRow l st0 r then some r else contOf (refScan l st0 t) (afterF l.length r)
theorem cont_snoc (F : List Int → Option (List Int)) (o : List Int) (x : Int) : contOf F (o ++ [x]) = F (o ++ [x]) := by
  cases o with
  | nil => rfl
  | cons y o => rfl
def elseOf (a b : Option (List Int)) : Option (List Int) := match a with
  | some r => some r
  | none => b
def SZ : Nat → Nat
  | 0 => 1
  | m + 1 => 1 + (m + 1) * SZ m
def cntM (o : List Int) : Nat → Nat → Nat
  | _, 0 => 0
  | i, k + 1 => (bif hasB o (i : Int) then 0 else 1) + cntM o (i + 1) k
theorem cntM_cnt (o : List Int) (k : Nat) : ∀ i, cntM o i k + cntB (fun n => !hasB o ((n : Nat) : Int)) i = cntB (fun n => !hasB o ((n : Nat) : Int)) (i + k) := by
  induction k with
  | zero => intro i; rw [Nat.add_zero]; show 0 + _ = _; omega
  | succ k ih =>
    intro i
    have h1 := ih (i + 1)
    rw [show i + 1 + k = i + (k + 1) by omega] at h1
    have h2 : cntB (fun n => !hasB o ((n : Nat) : Int)) (i + 1) = cntB (fun n => !hasB o ((n : Nat) : Int)) i + (bif !hasB o (i : Int) then 1 else 0) := rfl
    have h3 : cntM o i (k + 1) = (bif hasB o (i : Int) then 0 else 1) + cntM o (i + 1) k := rfl
    cases hb : hasB o (i : Int) <;> rw [hb] at h2 h3 <;> simp only [Bool.not_true, Bool.not_false, cond_true, cond_false] at h2 h3 <;> omega
theorem cntM_left (l : List Spn) (o : List Int) : cntM o 0 l.length = left l o := by
  have := cntM_cnt o l.length 0
  rw [Nat.zero_add] at this
  exact this
theorem enumB {l : List Spn} {st0 : St} {m : Nat} (IH : ∀ o, left l o ≤ m → ∃ c, c ≤ SZ m ∧ ∀ t, refScan l st0 (c + t) o = elseOf (naive l st0 m o) (contOf (refScan l st0 t) (climb l.length o))) (o : List Int) (hm : left l o ≤ m + 1) :
    ∀ k i, i + k = l.length → ∃ c, c ≤ cntM o i k * SZ m ∧ ∀ t, contOf (refScan l st0 (c + t)) (nextKid l.length o i) = elseOf (scanF (fun n => bif hasB o (n : Int) then none else naive l st0 m (o ++ [(n : Int)])) i k) (contOf (refScan l st0 t) (climb l.length o)) := by
  intro k
  induction k with
  | zero =>
    intro i hi
    refine ⟨0, Nat.zero_le _, fun t => ?_⟩
    obtain rfl : i = l.length := by omega
    rw [kid_end, Nat.zero_add]
    rfl
  | succ k ih =>
    intro i hi
    obtain ⟨c2, hc2, h2⟩ := ih (i + 1) (by omega)
    cases hb : hasB o (i : Int)
    · have hl := left_lt (l := l) (o := o) (n := i) (by omega) hb
      obtain ⟨c1, hc1, h1⟩ := IH (o ++ [(i : Int)]) (by omega)
      refine ⟨c1 + c2, ?_, fun t => ?_⟩
      · have e : cntM o i (k + 1) = 1 + cntM o (i + 1) k := by show (bif hasB o (i : Int) then 0 else 1) + _ = _; rw [hb]; rfl
        rw [e, Nat.add_mul, Nat.one_mul]
        omega
      · rw [kid_hit (by omega) hb, cont_snoc, Nat.add_assoc, h1, climb_snoc, h2]
        have e : scanF (fun n => bif hasB o (n : Int) then none else naive l st0 m (o ++ [(n : Int)])) i (k + 1) = elseOf (naive l st0 m (o ++ [(i : Int)])) (scanF (fun n => bif hasB o (n : Int) then none else naive l st0 m (o ++ [(n : Int)])) (i + 1) k) := by
          show (match (bif hasB o (i : Int) then none else naive l st0 m (o ++ [(i : Int)])) with | some r => some r | none => scanF _ (i + 1) k) = _
          rw [hb]; rfl
        rw [e]
        cases naive l st0 m (o ++ [(i : Int)]) <;> rfl
    · refine ⟨c2, ?_, fun t => ?_⟩
      · have e : cntM o i (k + 1) = cntM o (i + 1) k := by show (bif hasB o (i : Int) then 0 else 1) + _ = _; rw [hb]; simp
        rw [e]; exact hc2
      · rw [kid_skip (by omega) hb, h2]
        have e : scanF (fun n => bif hasB o (n : Int) then none else naive l st0 m (o ++ [(n : Int)])) i (k + 1) = scanF (fun n => bif hasB o (n : Int) then none else naive l st0 m (o ++ [(n : Int)])) (i + 1) k := by
          show (match (bif hasB o (i : Int) then none else naive l st0 m (o ++ [(i : Int)])) with | some r => some r | none => scanF _ (i + 1) k) = _
          rw [hb]; rfl
        rw [e]
theorem kid_all {n : Nat} {o : List Int} (h : ∀ i, i < n → hasB o (i : Int) = true) : nextKid n o 0 = climb n o := by
  have key : ∀ k i, i + k = n → nextKid n o i = climb n o := by
    intro k
    induction k with
    | zero => intro i hi; rw [show i = n by omega]; exact kid_end n o
    | succ k ih => intro i hi; rw [kid_skip (by omega) (h i (by omega))]; exact ih (i + 1) (by omega)
  exact key n 0 (by omega)
theorem enumA (l : List Spn) (st0 : St) (m : Nat) : ∀ o, left l o ≤ m → ∃ c, c ≤ SZ m ∧ ∀ t, refScan l st0 (c + t) o = elseOf (naive l st0 m o) (contOf (refScan l st0 t) (climb l.length o)) := by
  induction m with
  | zero =>
    intro o hm
    refine ⟨1, Nat.le_refl _, fun t => ?_⟩
    rw [Nat.add_comm]
    show (bif okRow l st0 o then some o else contOf (refScan l st0 t) (nextKid l.length o 0)) = _
    rw [kid_all (fun i hi => left_zero (by omega) hi)]
    unfold naive
    cases okRow l st0 o <;> rfl
  | succ m ih =>
    intro o hm
    obtain ⟨c, hc, h⟩ := enumB ih o hm l.length 0 (by omega)
    rw [cntM_left] at hc
    refine ⟨1 + c, ?_, fun t => ?_⟩
    · show 1 + c ≤ 1 + (m + 1) * SZ m
      have := Nat.mul_le_mul_right (SZ m) hm
      omega
    · rw [show 1 + c + t = (c + t) + 1 by omega]
      show (bif okRow l st0 o then some o else contOf (refScan l st0 (c + t)) (nextKid l.length o 0)) = _
      rw [h]
      have e : naive l st0 (m + 1) o = bif okRow l st0 o then some o else scanF (fun n => bif hasB o (n : Int) then none else naive l st0 m (o ++ [(n : Int)])) 0 l.length := rfl
      rw [e]
      cases okRow l st0 o <;> rfl
theorem left_len (l : List Spn) (o : List Int) : left l o ≤ l.length := cnt_le _ _
theorem SZ_mono {a b : Nat} (h : a ≤ b) : SZ a ≤ SZ b := by
  induction b with
  | zero => rw [show a = 0 by omega]; exact Nat.le_refl _
  | succ b ih =>
    by_cases e : a = b + 1
    · rw [e]; exact Nat.le_refl _
    · have h1 := ih (by omega)
      have h2 : SZ (b + 1) = 1 + (b + 1) * SZ b := rfl
      have h3 := Nat.le_mul_of_pos_left (SZ b) (show 0 < b + 1 by omega)
      omega
theorem refScan_search (l : List Spn) (st0 : St) (hl : l.length ≤ 6) : refScan l st0 4000 [] = searchF l (left l []) st0 [] := by
  obtain ⟨c, hc, h⟩ := enumA l st0 (left l []) [] (Nat.le_refl _)
  have h6 : c ≤ 4000 := by
    have h1 := SZ_mono (Nat.le_trans (left_len l []) hl)
    have h2 : SZ 6 = 1957 := by decide
    omega
  have e := h (4000 - c)
  rw [show c + (4000 - c) = 4000 by omega, naive_search (pre_nil l st0) (Nat.le_refl _)] at e
  rw [e]
  show elseOf (searchF l (left l []) st0 []) (contOf _ (climb l.length [])) = _
  cases searchF l (left l []) st0 [] <;> rfl
end Go.Proofs.Ytbanfaboimachaa
