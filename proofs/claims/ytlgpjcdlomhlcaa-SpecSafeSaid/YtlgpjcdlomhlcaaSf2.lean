
/-
  A program that may be run is never stuck by its stack, its places, its brackets.
-/
import Derived.Test.YtlgpjcdlomhlcaaSf1
namespace Go.Proofs.Ytlgpjcdlomhlcaa
open Go.RowKit Go.ChangeShapes Go.WideShapes
set_option linter.unusedSimpArgs false
set_option linter.unusedVariables false

structure PGood (l : List Ins3) (d : List Int) : Prop where
  hk : BrOk l
  right : ∀ i, i < l.length → rightI (xn l i) = true
  op0 : ∀ i, i < l.length → 0 ≤ (xn l i).op
  ins : ∀ i, i < l.length → (varB (xn l i).op = true ∨ (xn l i).op = 26 → 0 ≤ topB (opnAt l i)) ∧ ((xn l i).op = 27 ∨ (xn l i).op = 28 → topB (opnAt l i) < 0)
  jmp : ∀ i, i < l.length → (xn l i).op = 19 ∨ (xn l i).op = 20 → topB (opnAt l (xn l i).arg.toNat) = topB (opnAt l i)
  dep : ∀ i, i < l.length → 0 ≤ ivAt d i → DoneAt l d i
theorem f2_parts {l : List Ins3} {ins : List Int} {i : Nat} (h : f2E l ins i = 0) : (varB (xn l i).op = true ∨ (xn l i).op = 26 → 0 ≤ ivAt ins i) ∧ ((xn l i).op = 27 ∨ (xn l i).op = 28 → ivAt ins i < 0) := by
  unfold f2E at h
  split at h
  · cases h
  · rename_i h1
    split at h
    · cases h
    · rename_i h2
      simp only [Bool.and_eq_true, Bool.or_eq_true, beq_iff_eq, decide_eq_true_eq] at h1 h2
      exact ⟨fun e => by rcases Int.lt_or_le (ivAt ins i) 0 with q | q; exact absurd ⟨e, q⟩ h1; exact q, fun e => by rcases Int.lt_or_le (ivAt ins i) 0 with q | q; exact q; exact absurd ⟨e, q⟩ h2⟩
theorem f3_parts {l : List Ins3} {ins : List Int} {tv : Int} {i : Nat} (h : f3E l ins tv i = 0) (hj : (xn l i).op = 19 ∨ (xn l i).op = 20) : (xn l i).arg < (l.length : Int) ∧ ivAt ins (xn l i).arg.toNat = ivAt ins i := by
  unfold f3E at h
  split at h
  · cases h
  · split at h
    · cases h
    · rename_i h2
      simp only [Bool.and_eq_true, Bool.or_eq_true, beq_iff_eq, decide_eq_true_eq, bne_iff_ne, ne_eq] at h2
      refine ⟨?_, ?_⟩
      · rcases Int.lt_or_le (xn l i).arg l.length with q | q
        · exact q
        · exact absurd ⟨hj, .inl q⟩ h2
      · rcases Decidable.em (ivAt ins (xn l i).arg.toNat = ivAt ins i) with q | q
        · exact q
        · exact absurd ⟨hj, .inr q⟩ h2
theorem pgood_of {w : World} {A : Option Addr} {l : List Ins3} {tv : Int} (hi : InssAt w A l) (h : (ck15 l tv).2 = 0) : PGood l (dp15 l).1 ∧ 1 ≤ l.length ∧ (dp15 l).1.length = l.length ∧ ivAt (dp15 l).1 0 = 0 := by
  obtain ⟨g1, g2, g3, g4, g5, g6, g7⟩ := ck15_parts h
  obtain ⟨d1, d2, d3⟩ := dp15_spec g1 g7
  have hins : ∀ i, i < l.length → ivAt (rg15 l).1 i = topB (opnAt l i) := fun i hi => by
    have e : (rg15 l).1 = (runBk l l.length).ins := by
      unfold rg15 at g4 ⊢
      split at g4
      · cases g4
      · rename_i hc; rw [if_neg hc]
    rw [e]
    exact ins_at l l.length i hi
  refine ⟨⟨brOk_of g4, g3, fun i hl => (ins_ok hi hl).1.1, fun i hl => ?_, fun i hl hj => ?_, d3⟩, g1, d1, d2⟩
  · have := f2_parts (g5 i hl)
    rw [hins i hl] at this
    exact this
  · obtain ⟨q1, q2⟩ := f3_parts (g6 i hl) hj
    have hr := right_pts (g3 i hl)
    rw [hins i hl, hins _ (by omega)] at q2
    exact q2
section
variable {w : World} {A : Option Addr} {l : List Ins3} {d : List Int}
theorem StkAt.done (hg : PGood l d) {s : St} (h : StkAt l d s) : DoneAt l d s.pc.toNat := hg.dep _ (by have := h.1; have := h.2.1; omega) (by rw [h.2.2]; omega)
theorem StkAt.here (hg : PGood l d) {s : St} (h : StkAt l d s) : hereB l s.pc = true := by
  have hr := hg.right s.pc.toNat (by have := h.1; have := h.2.1; omega)
  unfold hereB
  rw [hr, decide_eq_true h.1, decide_eq_true h.2.1]
  rfl
theorem StkAt.fit (hg : PGood l d) {s : St} (h : StkAt l d s) : fitI (xn l s.pc.toNat).op s.stk.length = true := by
  obtain ⟨_, d1, d2, _⟩ := h.done hg
  unfold behI at d2
  rw [h.2.2] at d1 d2
  unfold fitI
  rw [Bool.and_eq_true, decide_eq_true_eq, decide_eq_true_eq]
  omega
/-- A plain instruction. -/
theorem plain_safe (hi : InssAt w A l) (hg : PGood l d) {s : St} (h : StkAt l d s) (hs : specI (xn l s.pc.toNat).op = false) : match stepF l s with | .error e => e = 2 ∨ e = 4 | .ok t => StkAt l d t ∧ opnAt l t.pc.toNat = opnAt l s.pc.toNat := by
  have hl : s.pc.toNat < l.length := by have := h.1; have := h.2.1; omega
  cases he : stepF l s with
  | error e =>
    unfold stepF plainF at he
    rw [if_pos (h.here hg), if_neg (by rw [hs]; simp), if_pos (h.fit hg)] at he
    exact effF_err he
  | ok t =>
    have ht := h.step hi hg.dep he
    refine ⟨ht, ?_⟩
    have hn := stepF_next hi he
    have hpl := plain_ops (hg.op0 _ hl) (right_pts (hg.right _ hl)).1 hs
    have hk : opnAt l (s.pc.toNat + 1) = opnAt l s.pc.toNat := by
      refine opn_keep ?_ ?_
      · rcases hpl with e | e | e | e | e | e | e | e | e | e | e | e | e | e | e | e | e | e <;> (rw [e]; decide)
      · rcases hpl with e | e | e | e | e | e | e | e | e | e | e | e | e | e | e | e | e | e <;> (rw [e]; decide)
    have hnx : t.pc = (s.pc.toNat : Int) + 1 ∨ (((xn l s.pc.toNat).op = 19 ∨ (xn l s.pc.toNat).op = 20) ∧ t.pc = (xn l s.pc.toNat).arg) := by
      unfold nextI at hn
      split at hn
      · rename_i e; exact .inr ⟨.inl e, by simpa using hn⟩
      · split at hn
        · rename_i e
          rcases List.mem_cons.mp hn with q | q
          · exact .inl q
          · exact .inr ⟨.inr e, by simpa using q⟩
        · rw [if_neg (by omega), if_neg (by omega), if_neg (by omega), if_neg (by omega)] at hn
          exact .inl (by simpa using hn)
    rcases hnx with e | ⟨e1, e2⟩
    · rw [e, show ((s.pc.toNat : Int) + 1).toNat = s.pc.toNat + 1 by omega]
      exact hk
    · rw [e2]
      exact opn_same (hg.jmp _ hl e1)
/-- Outside of every bracket. -/
def PIn (l : List Ins3) (d : List Int) (s : St) : Prop := StkAt l d s ∧ opnAt l s.pc.toNat = []
theorem PIn.ops (hg : PGood l d) {s : St} (h : PIn l d s) : specI (xn l s.pc.toNat).op = false ∨ (xn l s.pc.toNat).op = 21 ∨ (xn l s.pc.toNat).op = 28 := by
  obtain ⟨h1, h2⟩ := h
  have hl : s.pc.toNat < l.length := by have := h1.1; have := h1.2.1; omega
  have ht : topB (opnAt l s.pc.toNat) = -1 := by rw [h2]; rfl
  have hins := hg.ins _ hl
  rw [ht] at hins
  have hv : varB (xn l s.pc.toNat).op ≠ true ∧ (xn l s.pc.toNat).op ≠ 26 := ⟨fun e => by have := hins.1 (.inl e); omega, fun e => by have := hins.1 (.inr e); omega⟩
  have hc : closesI (xn l s.pc.toNat).op = 0 := by
    rcases Decidable.em (closesI (xn l s.pc.toNat).op = 0) with e | e
    · exact e
    · obtain ⟨m, x, e1, _⟩ := opn_close hg.hk hl e
      rw [h2] at e1
      simp at e1
  have h23 : (xn l s.pc.toNat).op ≠ 23 := by
    intro e
    have hb := (hg.hk.bad _ hl).1
    unfold badA at hb
    rw [ht, e] at hb
    simp at hb
  generalize (xn l s.pc.toNat).op = o at *
  rcases closes_cases o with ⟨_, q⟩ | ⟨_, q⟩ | ⟨_, q⟩ | ⟨_, q1, q2, q3⟩
  · omega
  · omega
  · omega
  unfold varB at hv
  simp only [Bool.or_eq_true, beq_iff_eq, ne_eq, not_or] at hv
  rcases Decidable.em (o = 21) with e | e
  · exact .inr (.inl e)
  rcases Decidable.em (o = 28) with e' | e'
  · exact .inr (.inr e')
  refine .inl ?_
  unfold specI varI
  have a1 : (decide (o ≥ 4) && decide (o ≤ 7)) = false := by rw [Bool.and_eq_false_iff, decide_eq_false_iff_not, decide_eq_false_iff_not]; omega
  have a2 : (decide (o ≥ 21) && decide (o ≤ 26)) = false := by rw [Bool.and_eq_false_iff, decide_eq_false_iff_not, decide_eq_false_iff_not]; omega
  have a3 : (o == 28) = false := by simpa using e'
  rw [a1, a2, a3]
  rfl
def ErrOk (e : Int) : Prop := e = 2 ∨ e = 4 ∨ e = 11
theorem atI_of (hg : PGood l d) {s : St} (h : StkAt l d s) : atI l s.pc = (xn l s.pc.toNat).op := by unfold atI; rw [if_pos (h.here hg)]
theorem goF_safe (hi : InssAt w A l) (hg : PGood l d) : ∀ (k : Nat) (s : St), PIn l d s → ((goF l k s).kind = 4 ∧ PIn l d (goF l k s).s ∧ (xn l (goF l k s).s.pc.toNat).op = 21) ∨ (goF l k s).kind = 1 ∨ ((goF l k s).kind = 3 ∧ ErrOk (goF l k s).err) := by
  intro k
  induction k with
  | zero =>
    intro s h
    unfold goF
    rw [atI_of hg h.1]
    split
    · rename_i e; exact .inl ⟨rfl, h, e⟩
    · split
      · exact .inr (.inl rfl)
      · exact .inr (.inr ⟨rfl, .inr (.inr rfl)⟩)
  | succ k ih =>
    intro s h
    unfold goF
    rw [atI_of hg h.1]
    split
    · rename_i e; exact .inl ⟨rfl, h, e⟩
    · rename_i e21
      split
      · exact .inr (.inl rfl)
      · rename_i e28
        have hs : specI (xn l s.pc.toNat).op = false := by
          rcases h.ops hg with q | q | q
          · exact q
          · exact absurd q e21
          · exact absurd q e28
        have hp := plain_safe hi hg h.1 hs
        cases he : stepF l s with
        | error e =>
          rw [he] at hp
          refine .inr (.inr ⟨rfl, ?_⟩)
          rcases hp with q | q
          · exact .inl q
          · exact .inr (.inl q)
        | ok t =>
          rw [he] at hp
          exact ih t ⟨hp.1, by rw [hp.2]; exact h.2⟩
/-- The left arms among the brackets. -/
def armsOf (l : List Ins3) (opn : List Int) : List Int := opn.filter (fun k => (xn l k.toNat).op == 23)
def mkOf (l : List Ins3) (d : List Int) (k : Int) : Int × Int := ((xn l k.toNat).arg, ivAt d k.toNat)
def mpOf (m : Mp) : Int × Int := (m.to0, (m.s0.stk.length : Int))
/-- Inside of a block. -/
structure BIn (l : List Ins3) (d : List Int) (b : Bs) : Prop where
  kind : b.kind = 0
  stk : StkAt l d b.s
  opn : opnAt l b.s.pc.toNat ≠ []
  ms : b.ms.map mpOf = (armsOf l (opnAt l b.s.pc.toNat)).map (mkOf l d)
theorem armsOf_app (l : List Ins3) (a b : List Int) : armsOf l (a ++ b) = armsOf l a ++ armsOf l b := by unfold armsOf; exact List.filter_append ..
theorem arms_one {l : List Ins3} {o : Int} (h : (xn l o.toNat).op = 23) : armsOf l [o] = [o] := by unfold armsOf; simp [h]
theorem arms_none {l : List Ins3} {o : Int} (h : (xn l o.toNat).op ≠ 23) : armsOf l [o] = [] := by unfold armsOf; simp [h]
/-- Behind an instruction that makes such a stack. -/
theorem stk_next (hg : PGood l d) {i : Nat} (hl : i < l.length) (hd : 0 ≤ ivAt d i) {x : Int} (hx : x ∈ nextI l i) {s : St} (hp : s.pc = x) (hs : (s.stk.length : Int) = behI l d i) : StkAt l d s := by
  obtain ⟨_, _, _, h4⟩ := hg.dep i hl hd
  obtain ⟨a, b, c⟩ := h4 x hx
  exact ⟨by omega, by omega, by rw [hp, c, hs]⟩
theorem map_last {α β : Type} {f : α → β} {xs : List α} {ys : List β} {y : β} (h : xs.map f = ys ++ [y]) : ∃ m x, xs = m ++ [x] ∧ m.map f = ys ∧ f x = y := by
  rcases List.eq_nil_or_concat xs with rfl | ⟨m, x, rfl⟩
  · simp at h
  · rw [List.concat_eq_append, List.map_append] at h
    obtain ⟨h1, h2⟩ := List.append_inj' h rfl
    exact ⟨m, x, by simp, h1, by simpa using h2⟩
def StepOk (l : List Ins3) (d : List Int) (r : Except Int Bs) : Prop := match r with
  | .error e => e = 2 ∨ e = 4
  | .ok b => BIn l d b ∨ b.kind = 2 ∨ (b.kind = 1 ∧ PIn l d b.s)
theorem step_safe (hi : InssAt w A l) (hg : PGood l d) {b : Bs} (h : BIn l d b) : StepOk l d (stepB l.length (xn l b.s.pc.toNat) b) := by
  obtain ⟨s, hp, ms, arms, kind⟩ := b
  obtain ⟨hk, hst, hop, hms⟩ := h
  dsimp only at hk hst hop hms ⊢
  subst hk
  have hpc := hst.1
  have hl : s.pc.toNat < l.length := by have := hst.2.1; omega
  obtain ⟨i, hj⟩ : ∃ i : Nat, s.pc = (i : Int) := ⟨s.pc.toNat, by omega⟩
  have hji : s.pc.toNat = i := by omega
  have hd : ivAt d i = s.stk.length := by rw [← hji]; exact hst.2.2
  rw [hji] at hl hop hms ⊢
  have hdn : DoneAt l d i := hg.dep i hl (by omega)
  obtain ⟨m0, x0, e0, t0, t1⟩ : ∃ m x, opnAt l i = m ++ [x] ∧ topB (opnAt l i) = x ∧ 0 ≤ x := by
    rcases topB_cases (opnAt_in l i) with ⟨q1, _⟩ | ⟨m, a, q1, q2, q3, _⟩
    · exact absurd q1 hop
    · exact ⟨m, a, q1, q2, q3⟩
  unfold stepB
  by_cases e22 : (xn l i).op = 22
  · rw [if_pos e22]
    obtain ⟨m, x, c1, c2, c3, c4, c5, c6⟩ := opn_close hg.hk hl (by rw [e22]; decide)
    rw [e22] at c4 c6
    have c4 : (xn l x.toNat).op = 21 := c4
    have hxl : x.toNat < l.length := by omega
    have hm : m = [] := by
      rcases List.eq_nil_or_concat m with q | ⟨m2, y, q⟩
      · exact q
      · exfalso
        have hpr := opn_pre l i (m2 ++ [y]) x [] (by rw [c1, q]; simp)
        have hps := opn_push (l := l) (i := x.toNat) (by rw [c4]; decide) (by rw [c4]; decide)
        rw [hpr] at hps
        have hox : opnAt l x.toNat = m2 ++ [y] := by
          obtain ⟨w1, _⟩ := List.append_inj' hps rfl
          exact w1.symm
        have hb := (hg.hk.bad _ hxl).1
        have hy := (opnAt_in l x.toNat) y (by rw [hox]; simp)
        unfold badA at hb
        rw [c4, hox] at hb
        simp [topB] at hb
        omega
    refine .inr (.inr ⟨rfl, ?_, ?_⟩)
    · refine stk_next hg hl (by omega) (x := (i : Int) + 1) ?_ (by show s.pc + 1 = _; rw [hj]) ?_
      · unfold nextI; rw [e22]; simp
      · show (s.stk.length : Int) = _
        unfold behI
        rw [e22, show popsI 22 = 0 from by decide, show pushI 22 = 0 from by decide]
        omega
    · show opnAt l (s.pc + 1).toNat = []
      rw [hj, show ((i : Int) + 1).toNat = i + 1 by omega, c6, hm]
      rfl
  rw [if_neg e22]
  by_cases e26 : (xn l i).op = 26
  · rw [if_pos e26]
    dsimp only
    rcases List.eq_nil_or_concat ms with rfl | ⟨ms', mk, rfl⟩
    · exact .inr (.inl rfl)
    · rw [List.concat_eq_append] at hms ⊢
      rw [List.getLast?_concat, List.dropLast_concat]
      rw [List.map_append] at hms
      obtain ⟨q, o, f1, f2, f3⟩ := map_last (f := mkOf l d) (ys := ms'.map mpOf) (y := mpOf mk) hms.symm
      have hmem : o ∈ armsOf l (opnAt l i) := by rw [f1]; simp
      unfold armsOf at hmem
      rw [List.mem_filter] at hmem
      obtain ⟨g1, g2⟩ := hmem
      have g2 : (xn l o.toNat).op = 23 := by simpa using g2
      have ho := (opnAt_in l i) o g1
      obtain ⟨n, rfl⟩ : ∃ n : Nat, o = (n : Int) := ⟨o.toNat, by omega⟩
      rw [Int.toNat_natCast] at g2
      have hnl : n < l.length := by omega
      obtain ⟨c, h1, h2, h3, h4, h5⟩ := else_of hg.hk hnl g2
      unfold mkOf mpOf at f3
      rw [Int.toNat_natCast, h1] at f3
      have f4 : mk.to0 = (c : Int) ∧ ivAt d n = (mk.s0.stk.length : Int) := by
        simp only [Prod.mk.injEq] at f3
        exact ⟨f3.1.symm, f3.2⟩
      -- what stands ahead of n
      obtain ⟨pre, post, hsp⟩ := List.append_of_mem g1
      have hpr := opn_pre l i pre (n : Int) post hsp
      rw [Int.toNat_natCast, opn_push (by rw [g2]; decide) (by rw [g2]; decide)] at hpr
      have hpre : opnAt l n = pre := List.append_cancel_right hpr
      have hpost : armsOf l post = [] := by
        have hall : armsOf l (opnAt l i) = armsOf l pre ++ (n : Int) :: armsOf l post := by
          rw [hsp, show pre ++ (n : Int) :: post = pre ++ ([(n : Int)] ++ post) by simp, armsOf_app, armsOf_app, arms_one (by rw [Int.toNat_natCast]; exact g2)]
          simp
        rw [f1] at hall
        rcases List.eq_nil_or_concat (armsOf l post) with z | ⟨z1, z2, z3⟩
        · exact z
        · exfalso
          rw [z3, List.concat_eq_append] at hall
          have hz : q ++ [(n : Int)] = (armsOf l pre ++ (n : Int) :: z1) ++ [z2] := by simpa using hall
          obtain ⟨y1, y2⟩ := List.append_inj' hz rfl
          have hzn : z2 = (n : Int) := by simpa using y2.symm
          have hin : (n : Int) ∈ post := by
            have : z2 ∈ armsOf l post := by rw [z3]; simp
            unfold armsOf at this
            rw [hzn] at this
            exact (List.mem_filter.mp this).1
          obtain ⟨p2, r2, hs2⟩ := List.append_of_mem hin
          have hpr2 := opn_pre l i (pre ++ (n : Int) :: p2) (n : Int) r2 (by rw [hsp, hs2]; simp)
          rw [Int.toNat_natCast, opn_push (by rw [g2]; decide) (by rw [g2]; decide), hpre] at hpr2
          have := congrArg List.length hpr2
          simp at this
      have hq : armsOf l pre = q := by
        have hall : armsOf l (opnAt l i) = armsOf l pre ++ [(n : Int)] := by
          rw [hsp, show pre ++ (n : Int) :: post = pre ++ ([(n : Int)] ++ post) by simp, armsOf_app, armsOf_app, arms_one (by rw [Int.toNat_natCast]; exact g2), hpost]
          simp
        rw [f1] at hall
        exact (List.append_cancel_right hall).symm
      have hdo : 0 ≤ ivAt d n := by omega
      refine .inl ⟨rfl, ?_, ?_, ?_⟩
      · refine stk_next hg hnl hdo (x := (xn l n).arg + 1) ?_ (by show mk.to0 + 1 = _; rw [f4.1, h1]) ?_
        · unfold nextI; rw [g2]; simp
        · show (mk.s0.stk.length : Int) = _
          unfold behI
          rw [g2, show popsI 23 = 0 from by decide, show pushI 23 = 0 from by decide]
          omega
      · show opnAt l (mk.to0 + 1).toNat ≠ []
        rw [f4.1, show ((c : Int) + 1).toNat = c + 1 by omega, h5]
        simp
      · show ms'.map mpOf = (armsOf l (opnAt l (mk.to0 + 1).toNat)).map (mkOf l d)
        rw [f4.1, show ((c : Int) + 1).toNat = c + 1 by omega, h5, hpre, armsOf_app, arms_none (by rw [Int.toNat_natCast, h3]; decide), List.append_nil, hq, f2]
  rw [if_neg e26]
  by_cases e23 : (xn l i).op = 23
  · rw [if_pos e23]
    have hpu := opn_push (l := l) (i := i) (by rw [e23]; decide) (by rw [e23]; decide)
    refine .inl ⟨rfl, ?_, ?_, ?_⟩
    · refine stk_next hg hl (by omega) (x := (i : Int) + 1) ?_ (by show s.pc + 1 = _; rw [hj]) ?_
      · unfold nextI; rw [e23]; simp
      · show (s.stk.length : Int) = _
        unfold behI
        rw [e23, show popsI 23 = 0 from by decide, show pushI 23 = 0 from by decide]
        omega
    · show opnAt l (s.pc + 1).toNat ≠ []
      rw [hj, show ((i : Int) + 1).toNat = i + 1 by omega, hpu]
      simp
    · show (ms ++ [_]).map mpOf = (armsOf l (opnAt l (s.pc + 1).toNat)).map (mkOf l d)
      rw [hj, show ((i : Int) + 1).toNat = i + 1 by omega, hpu, armsOf_app, arms_one (by rw [Int.toNat_natCast]; exact e23), List.map_append, List.map_append, hms]
      unfold mkOf mpOf
      simp [hd]
  rw [if_neg e23]
  by_cases e24 : (xn l i).op = 24
  · rw [if_pos e24]
    dsimp only
    obtain ⟨m, x, c1, c2, c3, c4, c5, c6⟩ := opn_close hg.hk hl (by rw [e24]; decide)
    rw [e24] at c4 c6
    have c4 : (xn l x.toNat).op = 23 := c4
    rw [c1, armsOf_app, arms_one c4, List.map_append] at hms
    obtain ⟨ms', mk, f1, f2, f3⟩ := map_last (f := mpOf) hms
    rw [f1, List.getLast?_concat, List.dropLast_concat]
    obtain ⟨c, g1, g2, g3⟩ := endor_of hg.hk hl e24 (m := m) (by rw [c6]; rfl)
    refine .inl ⟨rfl, ?_, ?_, ?_⟩
    · refine stk_next hg hl (by omega) (x := (xn l i).arg + 1) ?_ rfl ?_
      · unfold nextI; rw [e24]; simp
      · show (s.stk.length : Int) = _
        unfold behI
        rw [e24, show popsI 24 = 0 from by decide, show pushI 24 = 0 from by decide]
        omega
    · show opnAt l ((xn l i).arg + 1).toNat ≠ []
      rw [g1, show ((c : Int) + 1).toNat = c + 1 by omega, g3]
      -- an OrElse stands within a bracket
      intro hm
      have hxl : x.toNat < l.length := by omega
      have hps := opn_push (l := l) (i := x.toNat) (by rw [c4]; decide) (by rw [c4]; decide)
      rw [opn_top c1, c1, hm] at hps
      have hox : opnAt l x.toNat = [] := by
        obtain ⟨w1, _⟩ := List.append_inj' hps rfl
        exact w1.symm
      have hb := (hg.hk.bad _ hxl).1
      unfold badA at hb
      rw [c4, hox] at hb
      simp [topB] at hb
    · show ms'.map mpOf = (armsOf l (opnAt l ((xn l i).arg + 1).toNat)).map (mkOf l d)
      rw [g1, show ((c : Int) + 1).toNat = c + 1 by omega, g3, f2]
  rw [if_neg e24]
  by_cases e25 : (xn l i).op = 25
  · rw [if_pos e25]
    obtain ⟨m, x, c1, c2, c3, c4, c5, c6⟩ := opn_close hg.hk hl (by rw [e25]; decide)
    rw [e25] at c4 c6
    have c4 : (xn l x.toNat).op = 24 := c4
    have hxl : x.toNat < l.length := by omega
    -- the Else closed an OrElse that stands within a bracket
    obtain ⟨m', o, k1, k2, k3, k4, k5, k6⟩ := opn_close hg.hk hxl (by rw [c4]; decide)
    rw [c4] at k4 k6
    have k4 : (xn l o.toNat).op = 23 := k4
    have hmm : m' = m := by
      have := opn_top c1
      rw [c1, k6] at this
      exact (List.append_inj' this rfl).1
    have hne : m ≠ [] := by
      intro hm
      have hol : o.toNat < l.length := by omega
      have hps := opn_push (l := l) (i := o.toNat) (by rw [k4]; decide) (by rw [k4]; decide)
      rw [opn_top k1, k1, hmm, hm] at hps
      have hox : opnAt l o.toNat = [] := by
        obtain ⟨w1, _⟩ := List.append_inj' hps rfl
        exact w1.symm
      have hb := (hg.hk.bad _ hol).1
      unfold badA at hb
      rw [k4, hox] at hb
      simp [topB] at hb
    have hn : opnAt l (i + 1) = m := by rw [c6]; rfl
    refine .inl ⟨rfl, ?_, ?_, ?_⟩
    · refine stk_next hg hl (by omega) (x := (i : Int) + 1) ?_ (by show s.pc + 1 = _; rw [hj]) ?_
      · unfold nextI; rw [e25]; simp
      · show (s.stk.length : Int) = _
        unfold behI
        rw [e25, show popsI 25 = 0 from by decide, show pushI 25 = 0 from by decide]
        omega
    · show opnAt l (s.pc + 1).toNat ≠ []
      rw [hj, show ((i : Int) + 1).toNat = i + 1 by omega, hn]
      exact hne
    · show ms.map mpOf = (armsOf l (opnAt l (s.pc + 1).toNat)).map (mkOf l d)
      rw [hj, show ((i : Int) + 1).toNat = i + 1 by omega, hn, hms, c1, armsOf_app, arms_none (by rw [c4]; decide), List.append_nil]
  rw [if_neg e25]
  have hkeep : ∀ j : Nat, topB (opnAt l j) = topB (opnAt l i) → opnAt l j = opnAt l i := fun j hj => opn_same hj
  by_cases e4 : (xn l i).op = 4 ∨ (xn l i).op = 5 ∨ (xn l i).op = 6 ∨ (xn l i).op = 7
  · rw [if_pos e4]
    have hf := hst.fit hg
    rw [hji] at hf
    have hnx : opnAt l (i + 1) = opnAt l i := opn_keep (by rcases e4 with e | e | e | e <;> (rw [e]; decide)) (by rcases e4 with e | e | e | e <;> (rw [e]; decide))
    have hpp := fit_pops hf
    cases ht : touchF (xn l i) s hp with
    | error e =>
      refine .inl ?_
      unfold touchF getF putF at ht
      rw [if_pos hf] at ht
      split at ht
      · split at ht <;> cases ht; rfl
      · split at ht
        · split at ht <;> cases ht; rfl
        · split at ht
          · split at ht
            · split at ht <;> cases ht; rfl
            · split at ht <;> cases ht; rfl
          · cases ht; rfl
    | ok q =>
      have hq : q.1.pc = (i : Int) + 1 ∧ (q.1.stk.length : Int) = behI l d i := by
        unfold behI
        rw [hd]
        unfold touchF getF putF at ht
        rw [if_pos hf] at ht
        split at ht
        · rename_i o4
          rw [o4] at hpp ⊢
          have p1 : popsI 4 = 0 := by decide
          have p2 : pushI 4 = 1 := by decide
          split at ht <;> cases ht
          exact ⟨by rw [hj], by simp; omega⟩
        · split at ht
          · rename_i o4
            rw [o4] at hpp ⊢
            have p1 : popsI 5 = 1 := by decide
            have p2 : pushI 5 = 0 := by decide
            split at ht <;> cases ht
            exact ⟨by rw [hj], by simp; omega⟩
          · split at ht
            · split at ht
              · rename_i o4
                rw [o4] at hpp ⊢
                have p1 : popsI 6 = 1 := by decide
                have p2 : pushI 6 = 1 := by decide
                split at ht <;> cases ht
                exact ⟨by rw [hj], by simp; omega⟩
              · have o7 : (xn l i).op = 7 := by omega
                rw [o7] at hpp ⊢
                have p1 : popsI 7 = 2 := by decide
                have p2 : pushI 7 = 0 := by decide
                split at ht <;> cases ht
                exact ⟨by rw [hj], by simp; omega⟩
            · cases ht
      refine .inl ⟨rfl, ?_, ?_, ?_⟩
      · refine stk_next hg hl (by omega) (x := (i : Int) + 1) ?_ hq.1 hq.2
        unfold nextI
        rcases e4 with e | e | e | e <;> (rw [e]; simp)
      · show opnAt l q.1.pc.toNat ≠ []
        rw [hq.1, show ((i : Int) + 1).toNat = i + 1 by omega, hnx]
        exact hop
      · show ms.map mpOf = (armsOf l (opnAt l q.1.pc.toNat)).map (mkOf l d)
        rw [hq.1, show ((i : Int) + 1).toNat = i + 1 by omega, hnx, hms]
  rw [if_neg e4]
  by_cases e27 : (xn l i).op = 27 ∨ (xn l i).op = 28 ∨ (xn l i).op = 21
  · exfalso
    rcases e27 with e | e | e
    · have := (hg.ins i hl).2 (.inl e); omega
    · have := (hg.ins i hl).2 (.inr e); omega
    · have hb := (hg.hk.bad i hl).1
      unfold badA at hb
      rw [e, t0] at hb
      simp at hb
      omega
  rw [if_neg e27]
  have hs : specI (xn l i).op = false := by
    have r29 := (right_pts (hg.right i hl)).1
    generalize (xn l i).op = o at *
    unfold specI varI
    have a1 : (decide (o ≥ 4) && decide (o ≤ 7)) = false := by rw [Bool.and_eq_false_iff, decide_eq_false_iff_not, decide_eq_false_iff_not]; omega
    have a2 : (decide (o ≥ 21) && decide (o ≤ 26)) = false := by rw [Bool.and_eq_false_iff, decide_eq_false_iff_not, decide_eq_false_iff_not]; omega
    have a3 : (o == 28) = false := beq_eq_false_iff_ne.2 (by omega)
    rw [a1, a2, a3]
    rfl
  have hps := plain_safe hi hg hst (by rw [hji]; exact hs)
  have hst2 : stepF l s = plainF l.length (xn l i) s := by unfold stepF; rw [if_pos (hst.here hg), hji]
  rw [hst2] at hps
  cases hpl : plainF l.length (xn l i) s with
  | error e => rw [hpl] at hps; exact hps
  | ok t =>
    rw [hpl, hji] at hps
    refine .inl ⟨rfl, hps.1, ?_, ?_⟩
    · show opnAt l t.pc.toNat ≠ []
      rw [hps.2]
      exact hop
    · show ms.map mpOf = (armsOf l (opnAt l t.pc.toNat)).map (mkOf l d)
      rw [hps.2]
      exact hms
theorem loop_safe (hi : InssAt w A l) (hg : PGood l d) : ∀ (k : Nat) (b : Bs), BIn l d b → match loopB l k b with | .error e => ErrOk e | .ok b' => b'.kind = 2 ∨ (b'.kind = 1 ∧ PIn l d b'.s) := by
  intro k
  induction k with
  | zero =>
    intro b h
    unfold loopB
    rw [if_pos h.kind, if_pos (h.stk.here hg)]
    exact .inr (.inr rfl)
  | succ k ih =>
    intro b h
    have hs := step_safe hi hg h
    unfold loopB
    rw [if_pos h.kind, if_pos (h.stk.here hg)]
    cases he : stepB l.length (xn l b.s.pc.toNat) b with
    | error e =>
      rw [he] at hs
      rcases hs with q | q
      · exact .inl q
      · exact .inr (.inl q)
    | ok b' =>
      rw [he] at hs
      rcases hs with q | q | q
      · exact ih b' q
      · have e : loopB l k b' = .ok b' := by
          cases k <;> (unfold loopB; rw [if_neg (by omega)])
        show (match loopB l k b' with | .error e => ErrOk e | .ok b'' => b''.kind = 2 ∨ (b''.kind = 1 ∧ PIn l d b''.s))
        rw [e]
        exact .inl q
      · have e : loopB l k b' = .ok b' := by
          cases k <;> (unfold loopB; rw [if_neg (by omega)])
        show (match loopB l k b' with | .error e => ErrOk e | .ok b'' => b''.kind = 2 ∨ (b''.kind = 1 ∧ PIn l d b''.s))
        rw [e]
        exact .inr q
theorem block_safe (hi : InssAt w A l) (hg : PGood l d) {s : St} (h : PIn l d s) (h21 : (xn l s.pc.toNat).op = 21) (hp : List Int) (k : Nat) : ((ocF s hp (blockF l s hp k)).kind = 1 ∧ PIn l d (ocF s hp (blockF l s hp k)).s) ∨ (ocF s hp (blockF l s hp k)).kind = 2 ∨ ((ocF s hp (blockF l s hp k)).kind = 3 ∧ ErrOk (ocF s hp (blockF l s hp k)).err) := by
  have hl : s.pc.toNat < l.length := by have := h.1.1; have := h.1.2.1; omega
  have hpu := opn_push (l := l) (i := s.pc.toNat) (by rw [h21]; decide) (by rw [h21]; decide)
  rw [h.2] at hpu
  have hpc : (s.pc + 1).toNat = s.pc.toNat + 1 := by have := h.1.1; omega
  have hb : BIn l d ⟨{ s with pc := s.pc + 1 }, hp, [], [], 0⟩ := by
    refine ⟨rfl, ?_, ?_, ?_⟩
    · refine stk_next hg hl (by rw [h.1.2.2]; omega) (x := (s.pc.toNat : Int) + 1) ?_ (by show s.pc + 1 = _; have := h.1.1; omega) ?_
      · unfold nextI; rw [h21]; simp
      · show (s.stk.length : Int) = _
        unfold behI
        rw [h21, show popsI 21 = 0 from by decide, show pushI 21 = 0 from by decide, h.1.2.2]
        omega
    · show opnAt l (s.pc + 1).toNat ≠ []
      rw [hpc, hpu]
      simp
    · show ([] : List Mp).map mpOf = (armsOf l (opnAt l (s.pc + 1).toNat)).map (mkOf l d)
      rw [hpc, hpu, List.nil_append, arms_none (by rw [Int.toNat_natCast, h21]; decide)]
      rfl
  have hlp := loop_safe hi hg k _ hb
  unfold blockF
  rw [if_pos (h.1.here hg), if_pos h21]
  cases he : loopB l k ⟨{ s with pc := s.pc + 1 }, hp, [], [], 0⟩ with
  | error e => rw [he] at hlp; exact .inr (.inr ⟨rfl, hlp⟩)
  | ok b' =>
    rw [he] at hlp
    unfold ocF
    dsimp only
    rcases hlp with q | q
    · rw [if_pos q]; exact .inr (.inl rfl)
    · rw [if_neg (by omega)]; exact .inl ⟨rfl, q.2⟩
theorem run_safe (hi : InssAt w A l) (hg : PGood l d) (f : Nat) : ∀ (q : Nat) (s : St) (hp : List Int) (arms : List Bool), PIn l d s → (runF l f q s hp arms).kind ≠ 3 ∨ ErrOk (runF l f q s hp arms).err := by
  intro q
  induction q with
  | zero =>
    intro s hp arms h
    unfold runF
    rcases goF_safe hi hg f s h with ⟨g1, _⟩ | g | ⟨g1, g2⟩
    · rw [if_pos g1]; exact .inr (.inr (.inr rfl))
    · rw [if_neg (by omega)]; exact .inl (by show (goF l f s).kind ≠ 3; omega)
    · rw [if_neg (by omega)]; exact .inr g2
  | succ q ih =>
    intro s hp arms h
    unfold runF
    rcases goF_safe hi hg f s h with ⟨g1, g2, g3⟩ | g | ⟨g1, g2⟩
    · rw [if_pos g1]
      rcases block_safe hi hg g2 g3 hp f with ⟨b1, b2⟩ | b | ⟨b1, b2⟩
      · rw [if_pos b1]; exact ih _ _ _ b2
      · rw [if_neg (by omega)]; exact .inl (by show (ocF _ _ _).kind ≠ 3; omega)
      · rw [if_neg (by omega)]; exact .inr b2
    · rw [if_neg (by omega)]; exact .inl (by show (goF l f s).kind ≠ 3; omega)
    · rw [if_neg (by omega)]; exact .inr g2
end
end Go.Proofs.Ytlgpjcdlomhlcaa
