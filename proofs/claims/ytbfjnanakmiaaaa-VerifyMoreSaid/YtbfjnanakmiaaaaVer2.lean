
/-
  verify: scan.closed, scan.opened.
-/
import Derived.Test.YtbfjnanakmiaaaaVer1
namespace Go.Proofs.Ytbfjnanakmiaaaa
open Go.RowKit Go.ChangeShapes Go.WideShapes
set_option linter.unusedSimpArgs false
set_option linter.unusedVariables false

def inB (l : List Ins3) (opn : List Int) : Prop := ∀ x ∈ opn, 0 ≤ x ∧ x < (l.length : Int)
theorem inB.top {l : List Ins3} {opn : List Int} (h : inB l opn) (ht : topF opn ≠ -1) : ∃ k : Nat, topF opn = (k : Int) ∧ k < l.length ∧ ∃ n, opn.length = n + 1 := by
  cases hn : opn.length with
  | zero => exact absurd (by unfold topF; rw [hn]) ht
  | succ n =>
    have hm : iat opn n ∈ opn := by
      have hj : n < opn.length := by omega
      have := iat_get hj
      obtain ⟨hj', e⟩ := List.getElem?_eq_some_iff.mp this
      rw [← e]
      exact List.getElem_mem hj'
    have := h _ hm
    rw [topF_succ hn]
    exact ⟨(iat opn n).toNat, by omega, by omega, n, rfl⟩
theorem inB.at {l : List Ins3} {opn : List Int} (h : inB l opn) {j : Nat} (hj : j < opn.length) : ∃ k : Nat, iat opn j = (k : Int) ∧ k < l.length := by
  have hm : iat opn j ∈ opn := by
    have := iat_get hj
    obtain ⟨hj', e⟩ := List.getElem?_eq_some_iff.mp this
    rw [← e]
    exact List.getElem_mem hj'
  have := h _ hm
  exact ⟨(iat opn j).toNat, by omega, by omega⟩
def closedF (l : List Ins3) (opn : List Int) (wr : Int) (i : Nat) : List Int × Int :=
  bif isF (xn l i).op then
    bif topF opn == -1 then (opn, failF wr i)
    else bif (xn l (topF opn).toNat).op != wantF (xn l i).op then (opn, failF wr i)
    else bif (xn l (topF opn).toNat).arg != (i : Int) then (opn.dropLast, failF wr (topF opn)) else (opn.dropLast, wr)
  else (opn, wr)
def armsN (l : List Ins3) (o : List Int) : Nat := (o.filter (fun k => (xn l k.toNat).op != 21)).length
theorem armsN_succ {l : List Ins3} {o : List Int} {j k : Nat} (hj : j < o.length) (hk : iat o j = (k : Int)) : armsN l (o.take (j + 1)) = armsN l (o.take j) + (bif (xn l k).op != 21 then 1 else 0) := by
  unfold armsN
  rw [List.take_add_one, iat_get hj, List.filter_append, List.length_append, hk]
  cases h : (xn l k).op != 21 <;> simp [h]
theorem armsN_le (l : List Ins3) (o : List Int) : armsN l o ≤ o.length := List.length_filter_le _ _
def openedF (l : List Ins3) (opn : List Int) (wr : Int) (i : Nat) : List Int × Int :=
  bif (xn l i).op == 21 then (opn ++ [(i : Int)], bif topF opn == -1 then wr else failF wr i)
  else bif (xn l i).op == 23 then (opn ++ [(i : Int)], bif topF opn == -1 then failF wr i else bif decide ((4 : Int) ≤ (armsN l opn : Int)) then failF wr i else wr)
  else bif (xn l i).op == 24 then (opn ++ [(i : Int)], wr) else (opn, wr)
section
variable {W w w1 : World} {p c ci co : Nat} {A Ai Ao : Option Addr} {ins opn : List Int} {wr : Int} {l : List Ins3}
set_option maxHeartbeats 8000000 in
set_option maxRecDepth 100000 in
theorem closed_any (i : Nat) (hi : i < l.length) (hl : l.length ≤ 100) (ho : opn.length ≤ 100) (hB : inB l opn) (HS : InssAt W A l) (h : ScX W w p A l.length c Ai ci Ao co ins opn wr) :
    Calls Try.prog 26 #[.pointer (some ⟨p, 0, none⟩), .int .i64 (i : Int)] w fun e w' => e = .returned (.tuple #[]) ∧ ScX W w' p A l.length c Ai ci Ao co ins (closedF l opn wr i).1 (closedF l opn wr i).2 := by
  have HX := Lib.hid h
  have HI := Lib.hid (irow_cap h.2.2.1).2.2
  have HSw := Lib.hid (inss_below HS h.2.2.2.2.1)
  obtain ⟨y0, y1, y2, y3, z1, z2, z3, lp⟩ := h.cells
  obtain ⟨ad, rfl, hok, a0, a1, a2⟩ := xn_at HSw.out hi
  clear h HS
  have j1 : (0 : Int) ≤ (i : Int) := by omega
  have j2 : (i : Int) < (l.length : Int) := by omega
  have hc : isF (xn l i).op = false ∨ (isF (xn l i).op = true ∧ (topF opn = -1 ∨ ∃ k n : Nat, topF opn = (k : Int) ∧ k < l.length ∧ opn.length = n + 1 ∧ (((xn l k).op != wantF (xn l i).op) = true ∨ (((xn l k).op != wantF (xn l i).op) = false ∧ (((xn l k).arg != (i : Int)) = true ∨ ((xn l k).arg != (i : Int)) = false))))) := by
    cases isF (xn l i).op
    · exact .inl rfl
    · refine .inr ⟨rfl, ?_⟩
      by_cases ht : topF opn = -1
      · exact .inl ht
      · obtain ⟨k, h1, h2, n, h3⟩ := hB.top ht
        refine .inr ⟨k, n, h1, h2, h3, ?_⟩
        cases (xn l k).op != wantF (xn l i).op <;> cases (xn l k).arg != (i : Int) <;> simp
  rcases hc with h1 | ⟨h1, h2 | ⟨k, n, h2, h3, h4, h5⟩⟩
  · have HR : Hid (closedF l opn wr i = (opn, wr)) := Lib.hid (by unfold closedF; rw [h1]; rfl)
    rw [HR.out]
    go_enter Try.func26, Try.ntmps26
    go_wp2_with (first | (go_at_call 29; refine (bracket_any _ _).mono ?_; rintro e w' ⟨rfl, rfl⟩))
    first | go_end0 | (refine bodyPost_ret (v := .tuple #[]) (by simp [results, Try.results26, go_sem]; try rfl) rfl ?_)
    exact ⟨rfl, HX.out⟩
  · have HR : Hid (closedF l opn wr i = (opn, failF wr i)) := Lib.hid (by unfold closedF; rw [h1, h2]; rfl)
    rw [HR.out]
    have H2 := Lib.hid h2
    clear h2
    go_enter Try.func26, Try.ntmps26
    go_wp2_with (first | (go_at_call 29; refine (bracket_any _ _).mono ?_; rintro e w' ⟨rfl, rfl⟩) | (go_at_call 25; refine (top_any (ok := okI) Ao co opn (by omega) _ HI.out).mono ?_; rintro e w' ⟨rfl, rfl⟩; rw [H2.out]) | (go_at_call 30; refine (fail_any (i : Int) HX.out).mono ?_; rintro e w1 ⟨rfl, hx1⟩; have X1 := Lib.hid hx1; clear hx1))
    first | go_end0 | (refine bodyPost_ret (v := .tuple #[]) (by simp [results, Try.results26, go_sem]; try rfl) rfl ?_)
    exact ⟨rfl, X1.out⟩
  · have k1 : (0 : Int) ≤ (k : Int) := by omega
    have k2 : (k : Int) < (l.length : Int) := by omega
    obtain ⟨hok', b0, b1, b2⟩ := xn_some HSw.out h3
    have H2 := Lib.hid h2
    have k3 : ((k : Int) == -1) = false := beq_eq_false_iff_ne.2 (by omega)
    have e2 : (topF opn).toNat = k := by rw [h2]; rfl
    have e3 : (topF opn == -1) = false := by rw [h2]; exact k3
    have HE := Lib.hid (And.intro e2 e3)
    have H4 := Lib.hid h4
    clear h2 h4 e2 e3
    rcases h5 with h5 | ⟨h5, h6 | h6⟩
    · have HR : Hid (closedF l opn wr i = (opn, failF wr i)) := Lib.hid (by unfold closedF; rw [HE.out.2, HE.out.1, h1, h5]; rfl)
      rw [HR.out]
      go_enter Try.func26, Try.ntmps26
      go_wp2_with (first | (go_at_call 29; refine (bracket_any _ _).mono ?_; rintro e w' ⟨rfl, rfl⟩) | (go_at_call 25; refine (top_any (ok := okI) Ao co opn (by omega) _ HI.out).mono ?_; rintro e w' ⟨rfl, rfl⟩; rw [H2.out]) | (go_at_call 30; refine (fail_any (i : Int) HX.out).mono ?_; rintro e w1 ⟨rfl, hx1⟩; have X1 := Lib.hid hx1; clear hx1))
      first | go_end0 | (refine bodyPost_ret (v := .tuple #[]) (by simp [results, Try.results26, go_sem]; try rfl) rfl ?_)
      exact ⟨rfl, X1.out⟩
    · have HR : Hid (closedF l opn wr i = (opn.dropLast, failF wr k)) := Lib.hid (by unfold closedF; rw [HE.out.2, HE.out.1, h1, h5, h6, H2.out]; rfl)
      rw [HR.out]
      go_enter Try.func26, Try.ntmps26
      go_wp2_with (first | (go_at_call 29; refine (bracket_any _ _).mono ?_; rintro e w' ⟨rfl, rfl⟩) | (go_at_call 25; refine (top_any (ok := okI) Ao co opn (by omega) _ HI.out).mono ?_; rintro e w' ⟨rfl, rfl⟩; rw [H2.out]) | (go_at_call 30; refine (fail_any (k : Int) HX.out).mono ?_; rintro e w1 ⟨rfl, hx1⟩; have X1 := Lib.hid hx1; clear hx1) | (go_at_call 31; refine (pop_any H4.out (by omega) X1.out).mono ?_; rintro e w2 ⟨rfl, hx2⟩; have X2 := Lib.hid hx2; clear hx2))
      first | go_end0 | (refine bodyPost_ret (v := .tuple #[]) (by simp [results, Try.results26, go_sem]; try rfl) rfl ?_)
      exact ⟨rfl, X2.out⟩
    · have HR : Hid (closedF l opn wr i = (opn.dropLast, wr)) := Lib.hid (by unfold closedF; rw [HE.out.2, HE.out.1, h1, h5, h6]; rfl)
      rw [HR.out]
      go_enter Try.func26, Try.ntmps26
      go_wp2_with (first | (go_at_call 29; refine (bracket_any _ _).mono ?_; rintro e w' ⟨rfl, rfl⟩) | (go_at_call 25; refine (top_any (ok := okI) Ao co opn (by omega) _ HI.out).mono ?_; rintro e w' ⟨rfl, rfl⟩; rw [H2.out]) | (go_at_call 31; refine (pop_any H4.out (by omega) HX.out).mono ?_; rintro e w2 ⟨rfl, hx2⟩; have X2 := Lib.hid hx2; clear hx2))
      first | go_end0 | (refine bodyPost_ret (v := .tuple #[]) (by simp [results, Try.results26, go_sem]; try rfl) rfl ?_)
      exact ⟨rfl, X2.out⟩
set_option maxHeartbeats 8000000 in
set_option maxRecDepth 100000 in
theorem opened_any (i : Nat) (hi : i < l.length) (hl : l.length ≤ 100) (ho : opn.length ≤ 100) (hB : inB l opn) (HS : InssAt W A l) (h : ScX W w p A l.length c Ai ci Ao co ins opn wr) :
    Calls Try.prog 27 #[.pointer (some ⟨p, 0, none⟩), .int .i64 (i : Int)] w fun e w' => e = .returned (.tuple #[]) ∧ ∃ A2 c2, ScX W w' p A l.length c Ai ci A2 c2 ins (openedF l opn wr i).1 (openedF l opn wr i).2 := by
  have HX := Lib.hid h
  have HI := Lib.hid (irow_cap h.2.2.1).2.2
  have HSw := Lib.hid (inss_below HS h.2.2.2.2.1)
  obtain ⟨y0, y1, y2, y3, z1, z2, z3, lp⟩ := h.cells
  obtain ⟨ad, rfl, hok, a0, a1, a2⟩ := xn_at HSw.out hi
  clear h HS
  have HBd := Lib.hid hB
  have j1 : (0 : Int) ≤ (i : Int) := by omega
  have j2 : (i : Int) < (l.length : Int) := by omega
  obtain ⟨t, H2, ht⟩ : ∃ t, Hid (topF opn = t) ∧ (t = -1 ∨ (t == -1) = false) := ⟨_, Lib.hid rfl, by
    by_cases h : topF opn = -1
    · exact .inl h
    · exact .inr (beq_eq_false_iff_ne.2 h)⟩
  clear hB
  have ht' : t = -1 ∨ ((t == -1) = false ∧ (t != -1) = true) := by
    rcases ht with h | h
    · exact .inl h
    · exact .inr ⟨h, by simpa [bne] using h⟩
  clear ht
  have hc : ((xn l i).op == 21) = true ∨ (((xn l i).op == 21) = false ∧ (((xn l i).op == 23) = true ∨ (((xn l i).op == 23) = false ∧ (((xn l i).op == 24) = true ∨ ((xn l i).op == 24) = false)))) := by
    cases (xn l i).op == 21 <;> cases (xn l i).op == 23 <;> cases (xn l i).op == 24 <;> simp
  rcases hc with h1 | ⟨h1, h2 | ⟨h2, h3 | h3⟩⟩
  · rcases ht' with rfl | ⟨ht, ht2⟩
    · have HR : Hid (openedF l opn wr i = (opn ++ [(i : Int)], wr)) := Lib.hid (by unfold openedF; rw [h1, H2.out]; rfl)
      rw [HR.out]
      go_enter Try.func27, Try.ntmps27
      go_wp2_with (first | (go_at_call 25; refine (top_any (ok := okI) Ao co opn (by omega) _ HI.out).mono ?_; rintro e w' ⟨rfl, rfl⟩; rw [H2.out]) | (go_at_call 32; refine (push_any (i : Int) ⟨by omega, by omega⟩ (by omega) HX.out).mono ?_; rintro e w2 ⟨rfl, A2, c2, hx2⟩; have X2 := Lib.hid hx2; clear hx2))
      first | go_end0 | (refine bodyPost_ret (v := .tuple #[]) (by simp [results, Try.results27, go_sem]; try rfl) rfl ?_)
      exact ⟨rfl, A2, c2, X2.out⟩
    · have HR : Hid (openedF l opn wr i = (opn ++ [(i : Int)], failF wr i)) := Lib.hid (by unfold openedF; rw [h1, H2.out, ht]; rfl)
      rw [HR.out]
      go_enter Try.func27, Try.ntmps27
      go_wp2_with (first | (go_at_call 25; refine (top_any (ok := okI) Ao co opn (by omega) _ HI.out).mono ?_; rintro e w' ⟨rfl, rfl⟩; rw [H2.out]) | (go_at_call 30; refine (fail_any (i : Int) HX.out).mono ?_; rintro e w1 ⟨rfl, hx1⟩; have X1 := Lib.hid hx1; clear hx1) | (go_at_call 32; refine (push_any (i : Int) ⟨by omega, by omega⟩ (by omega) X1.out).mono ?_; rintro e w2 ⟨rfl, A2, c2, hx2⟩; have X2 := Lib.hid hx2; clear hx2))
      first | go_end0 | (refine bodyPost_ret (v := .tuple #[]) (by simp [results, Try.results27, go_sem]; try rfl) rfl ?_)
      exact ⟨rfl, A2, c2, X2.out⟩
  · go_enter Try.func27, Try.ntmps27
    go_wp2_with (first | (go_at_call 25; refine (top_any (ok := okI) Ao co opn (by omega) _ HI.out).mono ?_; rintro e w' ⟨rfl, rfl⟩; rw [H2.out]))
    go_loop [35, 5] (fun a s => ∃ j : Nat, j ≤ opn.length ∧ a = .int .i64 j ∧ s = .int .i64 (armsN l (opn.take j) : Int)) (fun a _ => opn.length - (intOf a).toNat)
    case atStart => exact ⟨0, by omega, rfl, rfl⟩
    case round =>
      obtain ⟨j, hj, rfl, rfl⟩ := hrel
      have hm : armsN l (opn.take j) ≤ 100 := Nat.le_trans (armsN_le l _) (by rw [List.length_take]; omega)
      by_cases hlt : j < opn.length
      · have t1 : decide (j < opn.length) = true := decide_eq_true hlt
        have t1' : decide ((j : Int) < (opn.length : Int)) = true := decide_eq_true (by omega)
        have t3 : (j : Int) < (opn.length : Int) := by omega
        have t4 : (0 : Int) ≤ (j : Int) := by omega
        cases Ao with
        | none => have := ints_none HI.out; subst this; simp at hlt
        | some b =>
          obtain ⟨k, hk, hkl⟩ := HBd.out.at hlt
          have hcj : w.cell? (b.add j) = some (.int .i64 (k : Int)) := ints_cell HI.out j _ (by rw [intsC_get, iat_get hlt, hk]; rfl)
          have HA := Lib.hid (armsN_succ (l := l) hlt hk)
          have k1 : (0 : Int) ≤ (k : Int) := by omega
          have k2 : (k : Int) < (l.length : Int) := by omega
          obtain ⟨_, b0, b1, b2⟩ := xn_some HSw.out hkl
          clear hk
          cases h6 : (xn l k).op != 21
          all_goals
            go_wp2_with fail
            go_roundw
            case rel => exact ⟨j + 1, by omega, by go_num, by rw [HA.out, h6]; go_num⟩
            case measure => simp [intOf]; omega
      · obtain rfl : j = opn.length := by omega
        have t1 : decide (opn.length < opn.length) = false := decide_eq_false (by omega)
        have t1' : decide ((opn.length : Int) < (opn.length : Int)) = false := decide_eq_false (by omega)
        rw [List.take_length] at hm ⊢
        have HOp : Hid (openedF l opn wr i = (opn ++ [(i : Int)], bif topF opn == -1 then failF wr i else bif decide ((4 : Int) ≤ (armsN l opn : Int)) then failF wr i else wr)) := Lib.hid (by unfold openedF; rw [h1, h2]; rfl)
        generalize armsN l opn = m at *
        rcases ht' with rfl | ⟨ht, ht2⟩
        · have HR : Hid (openedF l opn wr i = (opn ++ [(i : Int)], failF wr i)) := Lib.hid (by rw [HOp.out, H2.out]; rfl)
          go_wp2_with (first | (go_at_call 30; refine (fail_any (i : Int) HX.out).mono ?_; rintro e w1 ⟨rfl, hx1⟩; have X1 := Lib.hid hx1; clear hx1) | (go_at_call 32; refine (push_any (i : Int) ⟨by omega, by omega⟩ (by omega) X1.out).mono ?_; rintro e w2 ⟨rfl, A2, c2, hx2⟩; have X2 := Lib.hid hx2; clear hx2))
          first | go_end0 | (refine bodyPost_ret (v := .tuple #[]) (by simp [results, Try.results27, go_sem]; try rfl) rfl ?_)
          exact ⟨rfl, A2, c2, by rw [HR.out]; exact X2.out⟩
        · by_cases h4 : (4 : Int) ≤ (m : Int)
          · have t5 : decide ((4 : Int) ≤ (m : Int)) = true := decide_eq_true h4
            have t6 : decide ((m : Int) ≥ 4) = true := decide_eq_true h4
            have HR : Hid (openedF l opn wr i = (opn ++ [(i : Int)], failF wr i)) := Lib.hid (by rw [HOp.out, H2.out, ht, t5]; rfl)
            go_wp2_with (first | (go_at_call 30; refine (fail_any (i : Int) HX.out).mono ?_; rintro e w1 ⟨rfl, hx1⟩; have X1 := Lib.hid hx1; clear hx1) | (go_at_call 32; refine (push_any (i : Int) ⟨by omega, by omega⟩ (by omega) X1.out).mono ?_; rintro e w2 ⟨rfl, A2, c2, hx2⟩; have X2 := Lib.hid hx2; clear hx2))
            first | go_end0 | (refine bodyPost_ret (v := .tuple #[]) (by simp [results, Try.results27, go_sem]; try rfl) rfl ?_)
            exact ⟨rfl, A2, c2, by rw [HR.out]; exact X2.out⟩
          · have t5 : decide ((4 : Int) ≤ (m : Int)) = false := decide_eq_false h4
            have t6 : decide ((m : Int) ≥ 4) = false := decide_eq_false h4
            have HR : Hid (openedF l opn wr i = (opn ++ [(i : Int)], wr)) := Lib.hid (by rw [HOp.out, H2.out, ht, t5]; rfl)
            go_wp2_with (first | (go_at_call 32; refine (push_any (i : Int) ⟨by omega, by omega⟩ (by omega) HX.out).mono ?_; rintro e w2 ⟨rfl, A2, c2, hx2⟩; have X2 := Lib.hid hx2; clear hx2))
            first | go_end0 | (refine bodyPost_ret (v := .tuple #[]) (by simp [results, Try.results27, go_sem]; try rfl) rfl ?_)
            exact ⟨rfl, A2, c2, by rw [HR.out]; exact X2.out⟩
  · have HR : Hid (openedF l opn wr i = (opn ++ [(i : Int)], wr)) := Lib.hid (by unfold openedF; rw [h1, h2, h3]; rfl)
    rw [HR.out]
    go_enter Try.func27, Try.ntmps27
    go_wp2_with (first | (go_at_call 25; refine (top_any (ok := okI) Ao co opn (by omega) _ HI.out).mono ?_; rintro e w' ⟨rfl, rfl⟩; rw [H2.out]) | (go_at_call 32; refine (push_any (i : Int) ⟨by omega, by omega⟩ (by omega) HX.out).mono ?_; rintro e w2 ⟨rfl, A2, c2, hx2⟩; have X2 := Lib.hid hx2; clear hx2))
    first | go_end0 | (refine bodyPost_ret (v := .tuple #[]) (by simp [results, Try.results27, go_sem]; try rfl) rfl ?_)
    exact ⟨rfl, A2, c2, X2.out⟩
  · have HR : Hid (openedF l opn wr i = (opn, wr)) := Lib.hid (by unfold openedF; rw [h1, h2, h3]; rfl)
    rw [HR.out]
    go_enter Try.func27, Try.ntmps27
    go_wp2_with (first | (go_at_call 25; refine (top_any (ok := okI) Ao co opn (by omega) _ HI.out).mono ?_; rintro e w' ⟨rfl, rfl⟩; rw [H2.out]))
    first | go_end0 | (refine bodyPost_ret (v := .tuple #[]) (by simp [results, Try.results27, go_sem]; try rfl) rfl ?_)
    exact ⟨rfl, Ao, co, HX.out⟩
end
end Go.Proofs.Ytbfjnanakmiaaaa
