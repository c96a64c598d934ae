
/-
  calls: the models; CallsPrograms, plainly.
-/
import Derived.Test.YtmmfadakhnagpaaFl9
namespace Go.Proofs.Ytmmfadakhnagpaa
open Go.RowKit Go.ChangeShapes Go.WideShapes
set_option linter.unusedSimpArgs false
set_option linter.unusedVariables false

def lockR (tv who : Int) : List Ins3 := [⟨21, 6, 0⟩, ⟨4, tv, 0⟩, ⟨20, 4, 0⟩, ⟨26, 0, 0⟩, ⟨1, 0, intV (who + 1)⟩, ⟨5, tv, 0⟩, ⟨22, 0, 0⟩]
def unlockR (tv who : Int) : List Ins3 := [⟨21, 10, 0⟩, ⟨4, tv, 0⟩, ⟨1, 0, intV (who + 1)⟩, ⟨14, 0, 0⟩, ⟨20, 9, 0⟩, ⟨1, 0, intV 0⟩, ⟨5, tv, 0⟩, ⟨1, 0, intV 1⟩, ⟨19, 10, 0⟩, ⟨1, 0, intV 0⟩, ⟨22, 0, 0⟩]
def downR (tv : Int) : List Ins3 := [⟨21, 9, 0⟩, ⟨4, tv, 0⟩, ⟨16, 0, 0⟩, ⟨20, 8, 0⟩, ⟨1, 0, intV 1⟩, ⟨9, 0, 0⟩, ⟨5, tv, 0⟩, ⟨19, 9, 0⟩, ⟨26, 0, 0⟩, ⟨22, 0, 0⟩]
def upR (tv : Int) : List Ins3 := [⟨21, 5, 0⟩, ⟨4, tv, 0⟩, ⟨1, 0, intV 1⟩, ⟨8, 0, 0⟩, ⟨5, tv, 0⟩, ⟨22, 0, 0⟩]
def mayL (at' tv who : Int) : Bool := decide (0 ≤ at') && (decide (at' ≤ 64) && (decide (0 ≤ tv) && (decide (tv < 12) && (decide (0 ≤ who) && decide (who < 4)))))
def loF (at' tv who : Int) : Int × List Ins3 := bif mayL at' tv who then blkA (lockR tv who) at' else (2, [])
def unF (at' tv who : Int) : Int × List Ins3 := bif mayL at' tv who then blkA (unlockR tv who) at' else (2, [])
def dnF (at' tv : Int) : Int × List Ins3 := bif mayL at' tv 0 then blkA (downR tv) at' else (2, [])
def upF (at' tv : Int) : Int × List Ins3 := bif mayL at' tv 0 then blkA (upR tv) at' else (2, [])
/-- A call: its kind, who, its value. -/
structure Cl where
  k : Int
  who : Int
  v : Int
def Cl.ok (c : Cl) : Prop := (0 ≤ c.k ∧ c.k ≤ 255) ∧ I64 c.who ∧ W64 c.v
def outI : Ins3 := ⟨27, 0, 0⟩
def oneI : Ins3 := ⟨1, 0, 4607182418800017408⟩
def haltI : Ins3 := ⟨28, 0, 0⟩
def pushI' (v : Int) : Ins3 := ⟨1, 0, v⟩
def setI : Ins3 := ⟨3, 0, 0⟩
/-- The builder: the instructions, the error. -/
def adF (st : List Ins3 × Int) (r : Int × List Ins3) : List Ins3 × Int :=
  if st.2 = 0 then (st.1 ++ r.2, if r.1 = 0 ∧ (st.1 ++ r.2).length > 64 then 4 else r.1) else st
def tellB (k : Int) : Bool := k == 2 || (k == 6 || k == 7)
def blkC (at' tv sz : Int) (c : Cl) : Int × List Ins3 :=
  bif c.k == 1 then loF at' tv c.who else bif c.k == 2 then unF at' tv c.who else bif c.k == 3 then dnF at' tv else bif c.k == 4 then upF at' tv else
  bif c.k == 5 then enF at' tv sz c.v else bif c.k == 6 then taF at' tv sz else bif c.k == 7 then arF at' tv sz else leF at' tv 0
def call1 (tv sz : Int) (st : List Ins3 × Int) (c : Cl) : List Ins3 × Int :=
  bif c.k == 8 then adF (adF st (0, [pushI' c.v, setI])) (blkC ((adF st (0, [pushI' c.v, setI])).1.length) tv sz c) else adF st (blkC st.1.length tv sz c)
def call2 (st : List Ins3 × Int) (c : Cl) : List Ins3 × Int := adF (bif tellB c.k then st else adF st (0, [oneI])) (0, [outI])
def callF (tv sz : Int) (st : List Ins3 × Int) (c : Cl) : List Ins3 × Int := call2 (call1 tv sz st c) c
def goodK (k size : Int) : Bool := (k == 1 && size == 0) || (k == 2 && decide (0 ≤ size) && decide (size ≤ 9)) || (k == 3 && decide (1 ≤ size) && decide (size ≤ 4)) || (k == 4 && decide (1 ≤ size) && decide (size ≤ 4))
def tkI (K c : Int) : Bool := bif K == 1 then (c == 1 || c == 2) else bif K == 2 then (c == 3 || c == 4) else bif K == 3 then (c == 5 || c == 6) else (c == 7 || c == 8)
def fitF (K who : Int) (c : Cl) : Bool := tkI K c.k && ((c.who == who) && (rightB c.v && ((c.k == 5 || c.k == 8) || c.v == 0)))
def tvI (K size : Int) : Int := bif goodK K size then (bif K == 3 then size + 2 else bif K == 4 then 2 else 1) else 0
def finF (st : List Ins3 × Int) : Int × List Ins3 := if st.2 = 0 then (0, st.1) else (st.2, [])
def progF (K sz tv who : Int) (cs : List Cl) : Int × List Ins3 :=
  bif !goodK K sz || cs.any (fun c => !fitF K who c) then (3, []) else
  bif decide (tv < 0) || (decide (12 - tvI K sz < tv) || (decide (who < 0) || decide (4 ≤ who))) then (2, []) else
  finF (adF (cs.foldl (callF tv sz) ([], 0)) (0, [haltI]))
/-- The reference's block of a call. -/
def blkRf (at' sz tv : Int) (c : Cl) : Int × List Ins3 :=
  bif c.k == 1 then loF at' tv c.who else bif c.k == 2 then unF at' tv c.who else bif c.k == 3 then dnF at' tv else bif c.k == 4 then upF at' tv else
  bif c.k == 5 then enF at' tv sz c.v else bif c.k == 6 then taF at' tv sz else bif c.k == 7 then arF at' tv sz else
  if at' > 62 then (4, []) else if (leF (at' + 2) tv 0).1 = 0 then (0, [pushI' c.v, setI] ++ (leF (at' + 2) tv 0).2) else ((leF (at' + 2) tv 0).1, [])
def tailR (k : Int) : List Ins3 := (bif tellB k then [] else [oneI]) ++ [outI]
def runRf (sz tv : Int) : List Ins3 → List Cl → Int × List Ins3
  | out, [] => (0, out ++ [haltI])
  | out, c :: cs => if (blkRf out.length sz tv c).1 = 0 then (if 64 ≤ (out ++ (blkRf out.length sz tv c).2 ++ tailR c.k).length then (4, []) else runRf sz tv (out ++ (blkRf out.length sz tv c).2 ++ tailR c.k) cs) else ((blkRf out.length sz tv c).1, [])
def progR (K sz tv who : Int) (cs : List Cl) : Int × List Ins3 :=
  bif !goodK K sz || cs.any (fun c => !fitF K who c) then (3, []) else
  bif decide (tv < 0) || (decide (12 - tvI K sz < tv) || (decide (who < 0) || decide (4 ≤ who))) then (2, []) else
  runRf sz tv [] cs
theorem adF_bad {st : List Ins3 × Int} (h : st.2 ≠ 0) (r : Int × List Ins3) : adF st r = st := by unfold adF; rw [if_neg h]
theorem adF_ok {l : List Ins3} {r : Int × List Ins3} (h0 : r.1 = 0) (h : (l ++ r.2).length ≤ 64) : adF (l, 0) r = (l ++ r.2, 0) := by
  unfold adF; rw [if_pos rfl, if_neg (by intro h'; exact absurd h'.2 (by dsimp only; omega)), h0]
theorem adF_big {l : List Ins3} {r : Int × List Ins3} (h0 : r.1 = 0) (h : 64 < (l ++ r.2).length) : adF (l, 0) r = (l ++ r.2, 4) := by
  unfold adF; rw [if_pos rfl, if_pos ⟨h0, h⟩]
theorem adF_ok' {l m : List Ins3} (h : (l ++ m).length ≤ 64) : adF (l, 0) (0, m) = (l ++ m, 0) := adF_ok rfl h
theorem adF_big' {l m : List Ins3} (h : 64 < (l ++ m).length) : adF (l, 0) (0, m) = (l ++ m, 4) := adF_big rfl h
theorem ne4 {l : List Ins3} : (l, (4 : Int)).2 ≠ 0 := by show (4 : Int) ≠ 0; decide
theorem adF_err {l : List Ins3} {r : Int × List Ins3} (h0 : r.1 ≠ 0) : (adF (l, 0) r).2 = r.1 := by
  unfold adF; rw [if_pos rfl]; dsimp only; rw [if_neg (fun h => h0 h.1)]
theorem call2_bad {st : List Ins3 × Int} (h : st.2 ≠ 0) (c : Cl) : call2 st c = st := by
  unfold call2
  cases tellB c.k
  · dsimp only [cond_false]; rw [adF_bad h, adF_bad h]
  · dsimp only [cond_true]; rw [adF_bad h]
theorem callF_bad {tv sz : Int} {st : List Ins3 × Int} (h : st.2 ≠ 0) (c : Cl) : callF tv sz st c = st := by
  unfold callF call1
  cases hk : (c.k == 8)
  · dsimp only [cond_false]; rw [adF_bad h, call2_bad h]
  · dsimp only [cond_true]; rw [adF_bad h, adF_bad h, call2_bad h]
theorem foldl_bad {tv sz : Int} : ∀ (cs : List Cl) {st : List Ins3 × Int}, st.2 ≠ 0 → cs.foldl (callF tv sz) st = st
  | [], _, _ => rfl
  | c :: cs, st, h => by rw [List.foldl_cons, callF_bad h, foldl_bad cs h]
/-- How the end of a call goes. -/
theorem call2_ok (l : List Ins3) (c : Cl) (hl : l.length ≤ 64) : call2 (l, 0) c = (l ++ tailR c.k, 0) ∧ (l ++ tailR c.k).length ≤ 64 ∨ (call2 (l, 0) c).2 = 4 ∧ 64 < (l ++ tailR c.k).length := by
  unfold call2 tailR
  cases tellB c.k
  · dsimp only [cond_false]
    by_cases h1 : (l ++ [oneI]).length ≤ 64
    · rw [adF_ok' h1]
      by_cases h2 : (l ++ [oneI] ++ [outI]).length ≤ 64
      · rw [adF_ok' h2]
        left
        exact ⟨by simp, by simpa using h2⟩
      · rw [adF_big' (by omega)]
        right
        exact ⟨rfl, by simp at h2 ⊢; omega⟩
    · rw [adF_big' (by omega), adF_bad ne4]
      right
      exact ⟨rfl, by simp at h1 ⊢; omega⟩
  · dsimp only [cond_true]
    by_cases h2 : (l ++ [outI]).length ≤ 64
    · rw [adF_ok' h2]
      left
      exact ⟨by simp, by simpa using h2⟩
    · rw [adF_big' (by omega)]
      right
      exact ⟨rfl, by simp at h2 ⊢; omega⟩
theorem tailR_len (k : Int) : 1 ≤ (tailR k).length ∧ (tailR k).length ≤ 2 := by
  unfold tailR; cases tellB k <;> simp
theorem call1_8 {tv sz : Int} {st : List Ins3 × Int} {c : Cl} (h : (c.k == 8) = true) : call1 tv sz st c = adF (adF st (0, [pushI' c.v, setI])) (leF ((adF st (0, [pushI' c.v, setI])).1.length) tv 0) := by
  have e : c.k = 8 := by simpa using h
  unfold call1 blkC
  rw [h]
  rw [e]
  rfl
theorem call1_n {tv sz : Int} {st : List Ins3 × Int} {c : Cl} (h : (c.k == 8) = false) : call1 tv sz st c = adF st (blkC st.1.length tv sz c) := by
  unfold call1; rw [h]; rfl
theorem blkRf_n {tv sz at' : Int} {c : Cl} (hk : 1 ≤ c.k ∧ c.k ≤ 8) (h : (c.k == 8) = false) : blkRf at' sz tv c = blkC at' tv sz c := by
  have h8 : c.k ≠ 8 := by simpa using h
  unfold blkRf blkC
  rcases (show c.k = 1 ∨ c.k = 2 ∨ c.k = 3 ∨ c.k = 4 ∨ c.k = 5 ∨ c.k = 6 ∨ c.k = 7 by omega) with e | e | e | e | e | e | e <;> rw [e] <;> rfl
theorem blkRf_8 {tv sz at' : Int} {c : Cl} (h : (c.k == 8) = true) : blkRf at' sz tv c = if at' > 62 then (4, []) else if (leF (at' + 2) tv 0).1 = 0 then (0, [pushI' c.v, setI] ++ (leF (at' + 2) tv 0).2) else ((leF (at' + 2) tv 0).1, []) := by
  have e : c.k = 8 := by simpa using h
  unfold blkRf
  rw [e]
  rfl
/-- One call: the builder and the reference. -/
theorem call1_ref (l : List Ins3) (hl : l.length ≤ 64) (tv sz : Int) (c : Cl) (hk : 1 ≤ c.k ∧ c.k ≤ 8) :
    ((blkRf l.length sz tv c).1 = 0 ∧ (call1 tv sz (l, 0) c = (l ++ (blkRf l.length sz tv c).2, 0) ∧ (l ++ (blkRf l.length sz tv c).2).length ≤ 64 ∨ (call1 tv sz (l, 0) c).2 = 4 ∧ 64 < (l ++ (blkRf l.length sz tv c).2).length)) ∨
    ((blkRf l.length sz tv c).1 ≠ 0 ∧ (call1 tv sz (l, 0) c).2 = (blkRf l.length sz tv c).1) := by
  cases h : (c.k == 8)
  · rw [call1_n h, blkRf_n hk h]
    dsimp only
    by_cases h0 : (blkC l.length tv sz c).1 = 0
    · left
      refine ⟨h0, ?_⟩
      by_cases h1 : (l ++ (blkC l.length tv sz c).2).length ≤ 64
      · exact .inl ⟨adF_ok h0 h1, h1⟩
      · exact .inr ⟨by rw [adF_big h0 (by omega)], by omega⟩
    · exact .inr ⟨h0, adF_err h0⟩
  · rw [call1_8 h, blkRf_8 h]
    have hL : (l ++ [pushI' c.v, setI]).length = l.length + 2 := by simp
    by_cases h1 : (l.length : Int) > 62
    · rw [if_pos h1]
      right
      refine ⟨by decide, ?_⟩
      rw [adF_big' (by rw [hL]; omega), adF_bad ne4]
    · rw [if_neg h1]
      rw [adF_ok' (by rw [hL]; omega)]
      dsimp only
      rw [show ((l ++ [pushI' c.v, setI]).length : Int) = (l.length : Int) + 2 by rw [hL]; omega]
      by_cases h0 : (leF ((l.length : Int) + 2) tv 0).1 = 0
      · rw [if_pos h0]
        left
        refine ⟨rfl, ?_⟩
        dsimp only
        rw [← List.append_assoc]
        by_cases h2 : (l ++ [pushI' c.v, setI] ++ (leF ((l.length : Int) + 2) tv 0).2).length ≤ 64
        · exact .inl ⟨adF_ok h0 h2, h2⟩
        · exact .inr ⟨by rw [adF_big h0 (by omega)], by omega⟩
      · rw [if_neg h0]
        exact .inr ⟨h0, adF_err h0⟩
theorem fit_k {K who : Int} {c : Cl} (h : fitF K who c = true) : 1 ≤ c.k ∧ c.k ≤ 8 := by
  unfold fitF at h
  simp only [Bool.and_eq_true] at h
  have h1 := h.1
  unfold tkI at h1
  cases e1 : (K == 1) <;> cases e2 : (K == 2) <;> cases e3 : (K == 3) <;> rw [e1, e2, e3] at h1 <;> simp at h1 <;> omega
theorem blk_err4 {l : List Ins3} {at' : Int} : (blkA l at').1 = 0 ∨ (blkA l at').1 = 4 := by unfold blkA; split <;> simp
theorem fin_halt (l : List Ins3) (hl : l.length < 64) : finF (adF (l, 0) (0, [haltI])) = (0, l ++ [haltI]) := by
  rw [adF_ok' (by simp; omega)]
  rfl
theorem fin_bad {st : List Ins3 × Int} (h : st.2 ≠ 0) (r : Int × List Ins3) : finF (adF st r) = (st.2, []) := by
  rw [adF_bad h]; unfold finF; rw [if_neg h]
/-- At 64 nothing more fits. -/
theorem full_call (l : List Ins3) (hl : l.length = 64) (tv sz : Int) (c : Cl) (hk : 1 ≤ c.k ∧ c.k ≤ 8) (h0 : 0 ≤ tv ∧ tv ≤ 11) (hw : 0 ≤ c.who ∧ c.who < 4) (hq : c.k = 5 ∨ c.k = 6 → quB 64 tv sz = true) (hr : rightB c.v = true) (hb : c.k = 7 → tv ≤ 10 ∧ 1 ≤ sz ∧ sz ≤ 4) : (callF tv sz (l, 0) c).2 = 4 := by
  have hm : ∀ who, 0 ≤ who ∧ who < 4 → mayL 64 tv who = true := fun who h => by unfold mayL; simp; omega
  have key : (call1 tv sz (l, 0) c).2 = 4 := by
    cases h : (c.k == 8)
    · rw [call1_n h]
      have h8 : c.k ≠ 8 := by simpa using h
      have e : (blkC ((l, (0 : Int)).1.length) tv sz c).1 = 4 := by
        dsimp only
        rw [hl]
        unfold blkC
        rcases (show c.k = 1 ∨ c.k = 2 ∨ c.k = 3 ∨ c.k = 4 ∨ c.k = 5 ∨ c.k = 6 ∨ c.k = 7 by omega) with e | e | e | e | e | e | e
        · rw [e]; show (loF 64 tv c.who).1 = 4; unfold loF; rw [hm _ hw]; rfl
        · rw [e]; show (unF 64 tv c.who).1 = 4; unfold unF; rw [hm _ hw]; rfl
        · rw [e]; show (dnF 64 tv).1 = 4; unfold dnF; rw [hm 0 (by decide)]; rfl
        · rw [e]; show (upF 64 tv).1 = 4; unfold upF; rw [hm 0 (by decide)]; rfl
        · rw [e]; show (enF 64 tv sz c.v).1 = 4; unfold enF; rw [hq (.inl e), hr]; rfl
        · rw [e]; show (taF 64 tv sz).1 = 4; unfold taF; rw [hq (.inr e)]; rfl
        · rw [e]; show (arF 64 tv sz).1 = 4; unfold arF
          have := hb e
          rw [show baB 64 tv = true by unfold baB wthB; simp; omega, show wthB sz 1 4 = true by unfold wthB; simp; omega]; rfl
      rw [adF_err (by rw [e]; decide), e]
    · rw [call1_8 h, adF_big' (by simp; omega), adF_bad ne4]
  unfold callF
  rw [call2_bad (by rw [key]; decide), key]
theorem good_cases {K sz : Int} (h : goodK K sz = true) : (K = 1 ∧ sz = 0) ∨ (K = 2 ∧ 0 ≤ sz ∧ sz ≤ 9) ∨ (K = 3 ∧ 1 ≤ sz ∧ sz ≤ 4) ∨ (K = 4 ∧ 1 ≤ sz ∧ sz ≤ 4) := by
  unfold goodK at h
  simp at h
  omega
theorem run_ref (K sz tv who : Int) (hg : goodK K sz = true) (h0 : 0 ≤ tv ∧ tv ≤ 12 - tvI K sz) (hw : 0 ≤ who ∧ who < 4) : ∀ (cs : List Cl) (l : List Ins3), l.length < 64 → (∀ c ∈ cs, fitF K who c = true) →
    finF (adF (cs.foldl (callF tv sz) (l, 0)) (0, [haltI])) = runRf sz tv l cs
  | [], l, hl, _ => by rw [List.foldl_nil, fin_halt l hl]; rfl
  | c :: cs, l, hl, hf => by
    have hfc := hf c (List.mem_cons_self ..)
    have hk := fit_k hfc
    rw [List.foldl_cons]
    unfold runRf
    rcases call1_ref l (by omega) tv sz c hk with ⟨e0, h | h⟩ | ⟨e0, h⟩
    · rw [if_pos e0]
      rw [show callF tv sz (l, 0) c = call2 (l ++ (blkRf l.length sz tv c).2, 0) c by unfold callF; rw [h.1]]
      rcases call2_ok _ c h.2 with h2 | h2
      · rw [h2.1]
        by_cases h64 : 64 ≤ (l ++ (blkRf l.length sz tv c).2 ++ tailR c.k).length
        · rw [if_pos h64]
          have hlen : (l ++ (blkRf l.length sz tv c).2 ++ tailR c.k).length = 64 := by omega
          match cs, hf with
          | [], _ => rw [List.foldl_nil, adF_big' (by rw [List.length_append, hlen]; decide)]; rfl
          | d :: ds, hf =>
            have hfd := hf d (by simp)
            have hkd := fit_k hfd
            have hd4 : (callF tv sz (l ++ (blkRf l.length sz tv c).2 ++ tailR c.k, 0) d).2 = 4 := by
              have hp := hfd
              unfold fitF at hp
              simp only [Bool.and_eq_true, beq_iff_eq] at hp
              have htv : 1 ≤ tvI K sz := by
                unfold tvI; rw [hg]
                rcases good_cases hg with h | h | h | h <;> rw [h.1] <;> simp <;> omega
              have htk := hp.1
              refine full_call _ hlen tv sz d hkd ⟨h0.1, by omega⟩ ⟨by omega, by omega⟩ ?_ hp.2.2.1 ?_
              · intro h5
                have hK : K = 3 := by
                  rcases good_cases hg with h | h | h | h <;> rw [h.1] at htk <;> unfold tkI at htk <;> rcases h5 with h5 | h5 <;> rw [h5] at htk <;> simp at htk <;> exact h.1
                have hz : 1 ≤ sz ∧ sz ≤ 4 := by rcases good_cases hg with h | h | h | h <;> omega
                have ht : tvI K sz = sz + 2 := by unfold tvI; rw [hg, hK]; rfl
                unfold quB wthB
                simp
                omega
              · intro h7
                have hK : K = 4 := by
                  rcases good_cases hg with h | h | h | h <;> rw [h.1] at htk <;> unfold tkI at htk <;> rw [h7] at htk <;> simp at htk <;> exact h.1
                have hz : 1 ≤ sz ∧ sz ≤ 4 := by rcases good_cases hg with h | h | h | h <;> omega
                have ht : tvI K sz = 2 := by unfold tvI; rw [hg, hK]; rfl
                omega
            rw [List.foldl_cons, foldl_bad ds (by rw [hd4]; decide), fin_bad (by rw [hd4]; decide), hd4]
        · rw [if_neg h64]
          exact run_ref K sz tv who hg h0 hw cs _ (by omega) (fun d hd => hf d (List.mem_cons_of_mem _ hd))
      · rw [foldl_bad cs (by rw [h2.1]; decide), fin_bad (by rw [h2.1]; decide), h2.1, if_pos (by omega)]
    · have hb : (callF tv sz (l, 0) c).2 = 4 := by unfold callF; rw [call2_bad (by rw [h.1]; decide), h.1]
      rw [if_pos e0, foldl_bad cs (by rw [hb]; decide), fin_bad (by rw [hb]; decide), hb, if_pos (by rw [List.length_append]; have := h.2; omega)]
    · have hb : (callF tv sz (l, 0) c).2 = (blkRf l.length sz tv c).1 := by unfold callF; rw [call2_bad (by rw [h]; exact e0), h]
      rw [if_neg e0, foldl_bad cs (by rw [hb]; exact e0), fin_bad (by rw [hb]; exact e0), hb]
theorem prog_eq (K sz tv who : Int) (cs : List Cl) : progF K sz tv who cs = progR K sz tv who cs := by
  unfold progF progR
  cases h1 : (!goodK K sz || cs.any (fun c => !fitF K who c))
  · dsimp only [cond_false]
    cases h2 : (decide (tv < 0) || (decide (12 - tvI K sz < tv) || (decide (who < 0) || decide (4 ≤ who))))
    · dsimp only [cond_false]
      simp only [Bool.or_eq_false_iff, decide_eq_false_iff_not, Bool.not_eq_false'] at h1 h2
      refine run_ref K sz tv who h1.1 (by omega) (by omega) cs [] (by decide) (fun c hc => ?_)
      have h3 := h1.2
      rw [List.any_eq_false] at h3
      have := h3 c hc
      simpa using this
    · rfl
  · rfl
end Go.Proofs.Ytmmfadakhnagpaa
