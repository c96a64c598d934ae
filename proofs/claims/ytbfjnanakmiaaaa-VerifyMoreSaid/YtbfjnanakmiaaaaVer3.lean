
/-
  verify.Regions: what it comes to.
-/
import Derived.Test.YtbfjnanakmiaaaaVer2
namespace Go.Proofs.Ytbfjnanakmiaaaa
open Go.RowKit Go.ChangeShapes Go.WideShapes
set_option linter.unusedSimpArgs false
set_option linter.unusedVariables false
variable {ok : Nat → Prop}

theorem step_append_at {ops : Array Oper} {o : Oper} {a : Act} {w : World} {K : Act → World → Prop} {Q : Exit → Act → World → Prop} {E : Prop} (hg : o.guard = none) (s x : Operand)
    (ho : o.op = .call { callee := .builtin .append, args := #[s, x], argTypes := #[47, 47] })
    (base : Nat) (A0 : Option Addr) (c0 : Nat) (xs : List Int) (hs : a.eval s = .slice A0 xs.length c0) (hr : IRowAt w base A0 c0 xs) (A : Option Addr) (c : Nat) (src : List Int) (hx : a.eval x = .slice A src.length c) (hA : A = none → c = 0)
    (hv : IntsAt ok w A src) (hlen : xs.length + src.length ≤ 1000) (hbase : base ≤ w.heap.size) (l' : List Int) (hl : xs ++ src = l')
    (h : ∀ A' c' w', IRowAt w' base A' c' l' → w.grownBy w' (iblk A0) → (iblk A' = iblk A0 ∨ iblk A' = some w.heap.size) → K (a.put o.dst (.slice A' l'.length c')) w') :
    if Region.wanted o (yielded ops a.tmps) = true then Oper.wp Try.prog o a w K Q else E := by
  have hw : Region.wanted o (yielded ops a.tmps) = true := by simp [Region.wanted, hg]
  rw [if_pos hw]
  subst hl
  obtain ⟨i0, hi, hz0, hz1, hz2⟩ := info_parts Int_info
  cases A with
  | none =>
    obtain rfl := ints_none hv
    obtain rfl := hA rfl
    have hrun := run_append_owned_none (P := Try.prog) (w := w) base 47 o.type 3 i0 1 Try.underlying47 hi _ xs.length (intsC xs) hr.1
    have hx' : a.eval x = .slice none 0 0 := hx
    unfold Oper.wp
    simp [execOp, ho, resolve, invoke, builtin, hs, hx', hrun, Result.andThen]
    have := h A0 c0 w (by rw [List.append_nil]; exact hr) (gb_refl _ _) (.inl rfl)
    rw [List.append_nil] at this
    exact this
  | some b =>
    obtain ⟨v', w', hrun, h1, h2, _, h3⟩ := run_append_own_at (P := Try.prog) w base 47 o.type 3 i0 (.int .i64 0) 1 8 Try.underlying47 hi hz0 hz1 hz2 rfl (by decide) _ xs.length (intsC xs) hr.1 b src.length c (intsC src) (by rw [intsC_len, Nat.mul_one]) (ints_cell hv) (intsC_one src) (by unfold maxLen; omega) (by omega) hbase
    unfold Oper.wp
    simp [execOp, ho, resolve, invoke, builtin, hs, hx, hrun, Result.andThen]
    obtain ⟨A', c', rfl, hrow⟩ := irow_of (l := xs ++ src) (by rw [List.length_append, intsC_append]; exact h1) (fun x hx => by rcases List.mem_append.mp hx with hx | hx; exact hr.2 x hx; exact hv.1 x hx)
    rw [iblk_own] at h2 h3
    rw [iblk_own] at h3
    exact h A' c' w' hrow h2 h3

structure Sc where
  ins : List Int
  opn : List Int
  wr : Int
def stepV (l : List Ins3) (st : Sc) (i : Nat) : Sc :=
  ⟨st.ins ++ [topF st.opn], (openedF l (closedF l st.opn st.wr i).1 (closedF l st.opn st.wr i).2 i).1, (openedF l (closedF l st.opn st.wr i).1 (closedF l st.opn st.wr i).2 i).2⟩
def runV (l : List Ins3) : Nat → Sc | 0 => ⟨[], [], -1⟩ | j + 1 => stepV l (runV l j) j
def regW (st : Sc) : Int := bif st.wr == -1 then topF st.opn else st.wr
def regF (l : List Ins3) : List Int × Int × Int := bif regW (runV l l.length) != -1 then ([], regW (runV l l.length), 8) else ((runV l l.length).ins, 0, 0)
theorem closedF_inB {l : List Ins3} {opn : List Int} {wr : Int} {i : Nat} (h : inB l opn) : inB l (closedF l opn wr i).1 ∧ (closedF l opn wr i).1.length ≤ opn.length := by
  have hd : inB l opn.dropLast := fun x hx => h x (List.dropLast_subset opn hx)
  have hl : opn.dropLast.length ≤ opn.length := by rw [List.length_dropLast]; omega
  unfold closedF
  cases isF (xn l i).op
  · exact ⟨h, Nat.le_refl _⟩
  · cases topF opn == -1
    · cases (xn l (topF opn).toNat).op != wantF (xn l i).op
      · cases (xn l (topF opn).toNat).arg != (i : Int)
        · exact ⟨hd, hl⟩
        · exact ⟨hd, hl⟩
      · exact ⟨h, Nat.le_refl _⟩
    · exact ⟨h, Nat.le_refl _⟩
theorem openedF_inB {l : List Ins3} {opn : List Int} {wr : Int} {i : Nat} (hi : i < l.length) (h : inB l opn) : inB l (openedF l opn wr i).1 ∧ (openedF l opn wr i).1.length ≤ opn.length + 1 := by
  have ha : inB l (opn ++ [(i : Int)]) := by
    intro x hx
    rcases List.mem_append.mp hx with hx | hx
    · exact h x hx
    · rw [List.mem_singleton.mp hx]; omega
  have hl : (opn ++ [(i : Int)]).length ≤ opn.length + 1 := by simp
  unfold openedF
  cases (xn l i).op == 21
  · cases (xn l i).op == 23
    · cases (xn l i).op == 24
      · exact ⟨h, Nat.le_succ _⟩
      · exact ⟨ha, hl⟩
    · exact ⟨ha, hl⟩
  · exact ⟨ha, hl⟩
theorem runV_inv (l : List Ins3) : ∀ j, j ≤ l.length → inB l (runV l j).opn ∧ (runV l j).opn.length ≤ j ∧ (runV l j).ins.length = j := by
  intro j
  induction j with
  | zero => intro _; exact ⟨fun x hx => (List.not_mem_nil hx).elim, Nat.le_refl _, rfl⟩
  | succ j ih =>
    intro hj
    obtain ⟨h1, h2, h3⟩ := ih (by omega)
    have c := closedF_inB (wr := (runV l j).wr) (i := j) h1
    have o := openedF_inB (wr := (closedF l (runV l j).opn (runV l j).wr j).2) (i := j) (by omega) c.1
    refine ⟨o.1, ?_, ?_⟩
    · have := o.2
      have := c.2
      show (openedF l _ _ j).1.length ≤ j + 1
      omega
    · show (_ ++ [_]).length = _
      rw [List.length_append, h3]
      rfl
theorem topF_i64 {l : List Ins3} {opn : List Int} (h : inB l opn) (hl : l.length ≤ 100) : I64 (topF opn) := by
  by_cases ht : topF opn = -1
  · rw [ht]; exact ⟨by decide, by decide⟩
  · obtain ⟨k, e, hk, _⟩ := h.top ht
    rw [e]
    exact ⟨by omega, by omega⟩
section
variable {W w w1 w2 : World} {p n c ci co c2 : Nat} {A Ai Ao A2 : Option Addr} {ins opn o2 : List Int} {wr : Int} {l : List Ins3}
theorem ScX.pushI {cs : Array Value} {t : TypeId} (h : ScX W w p A n c Ai ci Ao co ins opn wr) (hr : IRowAt w2 W.heap.size A2 c2 o2) (hg : (w.alloc (.cells cs t)).grownBy w2 (iblk Ai)) (hat : iblk A2 = iblk Ai ∨ iblk A2 = some (w.alloc (.cells cs t)).heap.size) :
    ScX W (w2.setCell ⟨p, 1, none⟩ (.slice A2 o2.length c2)) p A n c A2 c2 Ao co o2 opn wr ∧ w2.heap[p]? = some (.cells #[.slice A n c, .slice Ai ins.length ci, .slice Ao opn.length co, .int .i64 wr] 61 (0, 0)) := by
  have h' := h.alloc (.cells cs t)
  obtain ⟨h1, h2, h3, h4, h5, h6⟩ := h'
  have hp : w2.heap[p]? = some (.cells #[.slice A n c, .slice Ai ins.length ci, .slice Ao opn.length co, .int .i64 wr] 61 (0, 0)) := hp_grown h1 hg (by
    intro e
    obtain ⟨cs', hk⟩ := irow_typed h2 p e.symm
    rw [h1] at hk
    simp at hk)
  have hi : IRowAt w2 W.heap.size Ao co opn := irow_other h3 hg (fun k hk e => h4 k e.symm hk)
  refine ⟨⟨hp_put41 hp _, irow_far hr hp (by decide) 1 _, irow_far hi hp (by decide) 1 _, ?_, bl_new (h5.grown hg h5.size (fun k hk => (irow_lt h2 k hk).1)) h6 _, h6⟩, hp⟩
  intro k hk e
  rcases hat with hat | hat
  · exact h4 k (hat ▸ hk) e
  · rw [hat] at hk
    have := (irow_lt h3 k e).2
    simp at hk
    simp at this
    omega
end
def RegPost (l : List Ins3) (W : World) (e : Ending) (w' : World) : Prop := ∃ A' c', e = .returned (.tuple #[.slice A' (regF l).1.length c', .int .i64 (regF l).2.1, .int .i64 (regF l).2.2]) ∧ IRowAt w' W.heap.size A' c' (regF l).1 ∧ Below W.heap.size W w'
set_option maxHeartbeats 16000000 in
set_option maxRecDepth 100000 in
theorem regions_any (l : List Ins3) (hl : l.length ≤ 100) (A : Option Addr) (c : Nat) (W : World) (HS : InssAt W A l) : Calls Try.prog 15 #[.slice A l.length c] W (RegPost l W) := by
  have HSh := Lib.hid HS
  clear HS
  have hx0 : ScX W (W.alloc (.cells #[.slice A l.length c, .slice none 0 0, .slice none 0 0, .int .i64 (-1)] 61)) W.heap.size A l.length c none 0 none 0 [] [] (-1) :=
    ⟨heap_alloc_new W _, irow_nil _ _, irow_nil _ _, fun k hk => by simp [iblk] at hk, (Below.refl _ _).alloc (Nat.le_refl _) _, Nat.le_refl _⟩
  have HX0 := Lib.hid hx0
  clear hx0
  go_enter Try.func15, Try.ntmps15
  go_wp2_with fail
  go_loopw [11] (fun a w' => ∃ (j : Nat) (Ai : Option Addr) (ci : Nat) (Ao : Option Addr) (co : Nat), j ≤ l.length ∧ a = .int .i64 j ∧ Hid (ScX W w' W.heap.size A l.length c Ai ci Ao co (runV l j).ins (runV l j).opn (runV l j).wr)) (fun a _ => l.length - (intOf a).toNat)
  case atStart => exact ⟨0, none, 0, none, 0, by omega, rfl, HX0⟩
  case round =>
    clear HX0
    obtain ⟨j, Ai, ci, Ao, co, hj, rfl, HX⟩ := hrel
    obtain ⟨hB, ho, hi⟩ := runV_inv l j hj
    obtain ⟨st, HR⟩ : ∃ st, Hid (runV l j = st) := ⟨_, Lib.hid rfl⟩
    rw [HR.out] at HX hB ho hi
    obtain ⟨ins, opn, wr⟩ := st
    rename_i wr'
    dsimp only at HX hB ho hi
    have HI := Lib.hid (irow_cap HX.out.2.2.1).2.2
    obtain ⟨y0, y1, y2, y3, z1, z2, z3, lp⟩ := HX.out.cells
    by_cases hlt : j < l.length
    · have t1 : decide (j < l.length) = true := decide_eq_true hlt
      have t1' : decide ((j : Int) < (l.length : Int)) = true := decide_eq_true (by omega)
      have hti := topF_i64 hB hl
      obtain ⟨i2, HI2⟩ : ∃ y, Hid (ins ++ [topF opn] = y) := ⟨_, Lib.hid rfl⟩
      have HD := Lib.hid HX.out.drew
      have HBd := Lib.hid (closedF_inB (wr := wr) (i := j) hB)
      have hil : ins.length ≤ 100 := by omega
      have HIl := Lib.hid hi
      clear hi
      have HSt := Lib.hid (show runV l (j + 1) = stepV l ⟨ins, opn, wr⟩ j by rw [← HR.out]; rfl)
      clear HR
      go_wp2_with fail
      go_region_law (first | (go_simp; go_at_call 25; refine (top_any (ok := okI) Ao co opn (by omega) _ (irow_cap HD.out.2.2.1).2.2).mono ?_; rintro e w' ⟨rfl, rfl⟩) | (refine step_append_at (ok := fun _ => True) rfl (.tmp 15) (.tmp 19) rfl W.heap.size Ai ci ins rfl (HX.out.alloc _).drew.2.1 (some ⟨_, 0, none⟩) 1 [topF opn] rfl (fun h => by cases h) (ints_below (ints_lit' _ _ hti _ rfl) ⟨rfl, rfl, rfl, Nat.le_refl _, fun _ _ => rfl⟩) (by simp; omega) (HX.out.alloc _).drew.2.2.2.2.1.size i2 HI2.out ?_; intro A2 c2 w2 hr2 hg2 hat2; have P := Lib.hid (HX.out.pushI hr2 (gb_trans (gb_drew (gb_refl _ _)) hg2) hat2); have x1 : w2.cell? ⟨W.heap.size, 1, none⟩ = _ := hp_cell P.out.2 1; have v1 := hp_frozen P.out.2 1; have lx := hp_lt P.out.2; clear hr2 hg2 hat2))
      all_goals
        clear y0 y1 y2 y3 z1 z2 z3 lp x1 v1
        go_wp2_with (first | (go_at_call 26; refine (closed_any j hlt hl (by omega) hB HSh.out P.out.1).mono ?_; rintro e w3 ⟨rfl, hx3⟩; have X3 := Lib.hid hx3; clear hx3) | (go_at_call 27; refine (opened_any j hlt hl (by have := HBd.out.2; omega) HBd.out.1 HSh.out X3.out).mono ?_; rintro e w4 ⟨rfl, A4, c4, hx4⟩; have X4 := Lib.hid hx4; clear hx4))
        go_roundw
        case rel => exact ⟨j + 1, A2, c2, A4, c4, by omega, by go_num, Lib.hid (by rw [HSt.out]; show ScX W _ _ _ _ _ _ _ _ _ (ins ++ [topF opn]) _ _; rw [HI2.out]; exact X4.out)⟩
        case measure => simp [intOf]; omega
    · obtain rfl : j = l.length := by omega
      have t1 : decide (l.length < l.length) = false := decide_eq_false (by omega)
      have t1' : decide ((l.length : Int) < (l.length : Int)) = false := decide_eq_false (by omega)
      have HF : Hid (regF l = bif (bif wr == -1 then topF opn else wr) != -1 then ([], (bif wr == -1 then topF opn else wr), 8) else (ins, 0, 0)) := Lib.hid (by unfold regF regW; rw [HR.out])
      clear hi HR hlt hj
      by_cases hw : wr = -1
      · subst hw
        by_cases ht : topF opn = -1
        · have HF' : Hid (regF l = (ins, 0, 0)) := Lib.hid (by rw [HF.out, ht]; rfl)
          have HT := Lib.hid ht
          clear ht
          go_wp2_with (first | (go_at_call 25; refine (top_any (ok := okI) Ao co opn (by omega) _ HI.out).mono ?_; rintro e w' ⟨rfl, rfl⟩; rw [HT.out]))
          refine bodyPost_ret (by simp [results, Try.results15, go_sem]; try rfl) rfl ?_
          exact ⟨Ai, ci, by rw [HF'.out], by rw [HF'.out]; exact (HX.out.wrong (-1)).2.1, (HX.out.wrong (-1)).2.2.2.2.1⟩
        · obtain ⟨t, hT⟩ : ∃ t, topF opn = t := ⟨_, rfl⟩
          rw [hT] at ht
          have k1 : (t == -1) = false := beq_eq_false_iff_ne.2 ht
          have k2 : (t != -1) = true := by simpa [bne] using k1
          have HF' : Hid (regF l = ([], t, 8)) := Lib.hid (by rw [HF.out, hT]; show (bif t != -1 then _ else _) = _; rw [k2]; rfl)
          have HT := Lib.hid hT
          clear hT ht
          go_wp2_with (first | (go_at_call 25; refine (top_any (ok := okI) Ao co opn (by omega) _ HI.out).mono ?_; rintro e w' ⟨rfl, rfl⟩; rw [HT.out]))
          have HX9 := Lib.hid (HX.out.wrong t)
          have hy9 := HX9.out.cells.2.2.2.1
          generalize (wr'.setCell { block := W.heap.size, off := 3 } (Value.int IntKind.i64 t)) = W9 at *
          go_quiet (fail)
          go_wp2_with fail
          refine bodyPost_ret (by simp [results, Try.results15, go_sem]; try rfl) rfl ?_
          refine ⟨none, 0, by rw [HF'.out]; rfl, by rw [HF'.out]; exact irow_nil _ _, bl_drewN HX9.out.2.2.2.2.1 _⟩
      · have k1 : (wr == -1) = false := beq_eq_false_iff_ne.2 hw
        have k2 : (wr != -1) = true := by simpa [bne] using k1
        have HF' : Hid (regF l = ([], wr, 8)) := Lib.hid (by rw [HF.out, k1]; show (bif wr != -1 then _ else _) = _; rw [k2]; rfl)
        go_wp2_with fail
        go_quiet (fail)
        go_wp2_with fail
        refine bodyPost_ret (by simp [results, Try.results15, go_sem]; try rfl) rfl ?_
        refine ⟨none, 0, by rw [HF'.out]; rfl, by rw [HF'.out]; exact irow_nil _ _, bl_drewN HX.out.2.2.2.2.1 _⟩
end Go.Proofs.Ytbfjnanakmiaaaa
