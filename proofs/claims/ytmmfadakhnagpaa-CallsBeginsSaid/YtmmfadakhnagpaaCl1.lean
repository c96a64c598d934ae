
/-
  calls: the builder: add, ins.
-/
import Derived.Test.YtmmfadakhnagpaaLk2
import Derived.Laws.AppendOwnNone
import Derived.Deep.CutBlock
import Derived.Handy
namespace Go.Proofs.Ytmmfadakhnagpaa
open Go.RowKit Go.ChangeShapes Go.WideShapes
set_option linter.unusedSimpArgs false
set_option linter.unusedVariables false

/-- The builder in memory. -/
def Bd (W w : World) (gb : Nat) (st : List Ins3 × Int) : Prop := ∃ A c, w.heap[gb]? = some (.cells #[.slice A st.1.length c, .int .i64 st.2] 59 (0, 0)) ∧ RI W w A c st.1 ∧ W.heap.size ≤ gb
/-- Blocks of other types stay. -/
def KB (w w' : World) : Prop := w.heap.size ≤ w'.heap.size ∧ ∀ (k : Nat) (cs : Array Value) (t : TypeId), w.heap[k]? = some (.cells cs t (0, 0)) → t ≠ 64 → t ≠ 59 → w'.heap[k]? = some (.cells cs t (0, 0))
theorem KB.refl (w : World) : KB w w := ⟨Nat.le_refl _, fun _ _ _ h _ _ => h⟩
theorem KB.trans {w w1 w2 : World} (h : KB w w1) (k : KB w1 w2) : KB w w2 := ⟨Nat.le_trans h.1 k.1, fun i cs t h0 h1 h2 => k.2 i cs t (h.2 i cs t h0 h1 h2) h1 h2⟩
theorem KB.below {w w1 w2 : World} (h : KB w w1) (hb : Below w1.heap.size w1 w2) : KB w w2 := ⟨Nat.le_trans h.1 hb.size, fun i cs t h0 h1 h2 => hp_below (h.2 i cs t h0 h1 h2) hb⟩
theorem KB.set {w w1 : World} {gb : Nat} {cs0 : Array Value} (h : KB w w1) (hg : w1.heap[gb]? = some (.cells cs0 59 (0, 0))) (k : Nat) (u : Value) : KB w (w1.setCell ⟨gb, k, none⟩ u) :=
  ⟨Nat.le_trans h.1 (KeepsWalks.setCell w1 _ u).size, fun i cs t h0 h1 h2 => hp_far (h.2 i cs t h0 h1 h2) (hp_ne (h.2 i cs t h0 h1 h2) hg h2) u⟩
theorem KB.grown {w w1 w2 : World} {A : Option Addr} {c base : Nat} {l : List Ins3} (h : KB w w1) (hr : NRow w1 base A c l) (hg : w1.grownBy w2 (Value.slice A l.length c).ownBlock) : KB w w2 := by
  refine ⟨Nat.le_trans h.1 hg.size, fun i cs t h0 h1 h2 => ?_⟩
  have e := h.2 i cs t h0 h1 h2
  exact hp_grown e hg (own_block e h1 hr.1)
theorem Bd.below {W w w1 : World} {gb : Nat} {st : List Ins3 × Int} (h : Bd W w gb st) (hb : Below w.heap.size w w1) : Bd W w1 gb st := by
  obtain ⟨A, c, h1, h2, h3⟩ := h
  exact ⟨A, c, hp_below h1 hb, h2.below hb, h3⟩
theorem Bd.bl {W w : World} {gb : Nat} {st : List Ins3 × Int} (h : Bd W w gb st) : Below W.heap.size W w := by obtain ⟨A, c, h1, h2, h3⟩ := h; exact h2.bl
/-- What a closure that makes instructions answers. -/
def MPost (w : World) (r : Int × List Ins3) (e : Ending) (w' : World) : Prop := ∃ A c, e = .returned (.tuple #[.slice A r.2.length c, .int .i64 r.1]) ∧ ((A = none ∧ c = 0 ∧ r.2 = []) ∨ (∃ g, A = some ⟨g, 0, none⟩ ∧ InssAt w' A r.2)) ∧ Below w.heap.size w w'
theorem MPost.of {w : World} {r : Int × List Ins3} {e : Ending} {w' : World} (h : FPost w r e w') (hl : r.2.length ≤ 100) : MPost w r e w' := by
  obtain ⟨A, c, he, hn, hb⟩ := h
  refine ⟨A, c, he, ?_, hb⟩
  rcases hn.1.2 with ⟨h1, h2⟩ | ⟨g, cap, cur, h1, h2, h3⟩
  · simp only [Value.slice.injEq] at h1
    exact .inl ⟨h1.1, h1.2.2, List.eq_nil_of_length_eq_zero h2⟩
  · simp only [Value.slice.injEq] at h1
    exact .inr ⟨g, h1.1, (nrow_inss hn (by omega)).1⟩
set_option maxRecDepth 100000 in
set_option maxHeartbeats 16000000 in
theorem bAdd (W w : World) (gb : Nat) (st : List Ins3 × Int) (H : Bd W w gb st) (hl : st.1.length ≤ 500) (r : Int × List Ins3) (hrl : r.2.length ≤ 100) (N : Nat) (caps : Array Value)
    (hN : ∀ (args : Array Value) (w : World), (callFunc N args).run Try.prog w = .ok (.enter N args) w) (hm : st.2 = 0 → Calls Try.prog N (#[.int .i64 (st.1.length : Int)] ++ caps) w (MPost w r)) :
    Calls Try.prog 44 #[.pointer (some ⟨gb, 0, none⟩), .func (.func N) #[] caps] w fun e w' => e = .returned (.tuple #[]) ∧ Bd W w' gb (adF st r) ∧ KB w w' := by
  obtain ⟨l, f⟩ := st
  obtain ⟨A, c, hg, hr, hW⟩ := H
  dsimp only at *
  have x0 : w.cell? ⟨gb, 0, none⟩ = some (.slice A l.length c) := hp_cell hg 0
  have x1 : w.cell? ⟨gb, 1, none⟩ = some (.int .i64 f) := hp_cell hg 1
  have xl := hp_lt hg
  have HG := Lib.hid hg
  have HR := Lib.hid hr
  have HW := Lib.hid hW
  have HL := Lib.hid hl
  have HRL := Lib.hid hrl
  by_cases h0 : f = 0
  · subst h0
    have HM := Lib.hid (hm rfl)
    have HE : adF (l, 0) r = (l ++ r.2, if r.1 = 0 ∧ (l ++ r.2).length > 64 then 4 else r.1) := by unfold adF; rw [if_pos rfl]
    rw [HE]
    clear HE hm hg hr hW hl hrl
    obtain ⟨re, rl⟩ := r
    dsimp only at *
    obtain ⟨p, hp⟩ : ∃ p, l ++ rl = p := ⟨_, rfl⟩
    have HP := Lib.hid hp
    rw [hp]
    obtain ⟨fe, hfe⟩ : ∃ x, (if re = 0 ∧ p.length > 64 then (4 : Int) else re) = x := ⟨_, rfl⟩
    rw [hfe]
    have HF := Lib.hid hfe
    clear hp hfe
    go_enter Try.func44, Try.ntmps44
    go_upto_region 2 with (refine HM.out.mono ?_; rintro e w1 ⟨A2, c2, rfl, h2, hb⟩; have H2 := Lib.hid h2; have HB := Lib.hid hb; clear h2 hb)
    have G1 := Lib.hid (hp_below HG.out HB.out)
    have R1 := Lib.hid (HR.out.below HB.out)
    have K1 := Lib.hid ((KB.refl w).below HB.out)
    clear x0 x1 xl
    have x0 : w1.cell? ⟨gb, 0, none⟩ = some (.slice A l.length c) := hp_cell G1.out 0
    have xl := hp_lt G1.out
    have x1 : w1.cell? ⟨gb, 1, none⟩ = some (.int .i64 0) := hp_cell G1.out 1
    have xz := hp_frozen G1.out 0
    have xz1 := hp_frozen G1.out 1
    -- behind the append
    have KEY : ∀ (A3 : Option Addr) (c3 : Nat) (w3 : World), Hid (RI W w3 A3 c3 p) → Hid (KB w w3) → Hid (w3.heap[gb]? = some (.cells #[.slice A l.length c, .int .i64 0] 59 (0, 0))) → Hid (Bd W ((w3.setCell ⟨gb, 0, none⟩ (.slice A3 p.length c3)).setCell ⟨gb, 1, none⟩ (.int .i64 re)) gb (p, re) ∧ KB w ((w3.setCell ⟨gb, 0, none⟩ (.slice A3 p.length c3)).setCell ⟨gb, 1, none⟩ (.int .i64 re)) ∧ ∀ u, Bd W (((w3.setCell ⟨gb, 0, none⟩ (.slice A3 p.length c3)).setCell ⟨gb, 1, none⟩ (.int .i64 re)).setCell ⟨gb, 1, none⟩ (.int .i64 u)) gb (p, u) ∧ KB w (((w3.setCell ⟨gb, 0, none⟩ (.slice A3 p.length c3)).setCell ⟨gb, 1, none⟩ (.int .i64 re)).setCell ⟨gb, 1, none⟩ (.int .i64 u))) := by
      intro A3 c3 w3 hr3 hk3 hg3
      have q0 := hp_put (cs' := #[.slice A3 p.length c3, .int .i64 0]) hg3.out 0 (.slice A3 p.length c3) (by simp)
      have q1 := hp_put (cs' := #[.slice A3 p.length c3, .int .i64 re]) q0 1 (.int .i64 re) (by simp)
      have k0 := hk3.out.set hg3.out 0 (.slice A3 p.length c3)
      have k1 := k0.set q0 1 (.int .i64 re)
      have hne : iblk A3 ≠ some gb := fun e => by
        have := own_block hg3.out (by decide) hr3.out.row.1
        rw [iblk_own] at this
        exact this e.symm
      have r0 := hr3.out.set (o := 0) hne HW.out (.slice A3 p.length c3)
      have r1 := r0.set (o := 1) hne HW.out (.int .i64 re)
      refine Lib.hid ⟨⟨A3, c3, q1, r1, HW.out⟩, k1, fun u => ?_⟩
      have q2 := hp_put (cs' := #[.slice A3 p.length c3, .int .i64 u]) q1 1 (.int .i64 u) (by simp)
      exact ⟨⟨A3, c3, q2, r1.set (o := 1) hne HW.out (.int .i64 u), HW.out⟩, k1.set q1 1 (.int .i64 u)⟩
    have PL := Lib.hid (show p.length ≤ 700 by rw [← HP.out, List.length_append]; have := HL.out; have := HRL.out; omega)
    rcases H2.out with ⟨rfl, rfl, he⟩ | ⟨g, rfl, hi⟩
    · try dsimp only at he
      subst he
      have hpl : p = l := by rw [← HP.out]; simp
      subst hpl
      have q := KEY A c w1 R1 K1 G1
      clear KEY
      obtain ⟨i0, hi0, hz0, hz1, hz2⟩ := info_parts Ins_info
      go_upto_region 3 with (at_builtin; refine wpList_append_own_none rfl (.tmp 25) (.tmp 26) 25 rfl W.heap.size 64 i0 3 Try.underlying25 hi0 (.slice A p.length c) p.length (insC p) rfl R1.out.row.1 rfl ?_)
      go_upto_region 4 with fail
      clear x0 x1 xl xz xz1 HG HR HM G1 R1 K1 HB H2
      generalize World.setCell _ _ _ = w5 at q ⊢
      obtain ⟨A5, c5, hg5, hr5, hw5⟩ := q.out.1
      have z0 : w5.cell? ⟨gb, 0, none⟩ = some (.slice A5 p.length c5) := hp_cell hg5 0
      have z1 : w5.cell? ⟨gb, 1, none⟩ = some (.int .i64 re) := hp_cell hg5 1
      have zz := hp_frozen hg5 1
      have zl := hp_lt hg5
      clear hg5 hr5 hw5
      by_cases h8 : re = 0
      · subst h8
        by_cases h9 : p.length > 64
        · have t1 : decide ((p.length : Int) > 64) = true := decide_eq_true (by omega)
          have t2 : decide ((64 : Int) < (p.length : Int)) = true := t1
          have t3 : decide (64 < p.length) = true := decide_eq_true h9
          have H9 := Lib.hid h9
          clear h9
          go_wp2_with fail
          go_end0
          exact ⟨rfl, by rw [← HF.out, if_pos ⟨by simp, H9.out⟩]; exact (q.out.2.2 4).1, (q.out.2.2 4).2⟩
        · have t1 : decide ((p.length : Int) > 64) = false := decide_eq_false (by omega)
          have t2 : decide ((64 : Int) < (p.length : Int)) = false := t1
          have t3 : decide (64 < p.length) = false := decide_eq_false h9
          have H9 := Lib.hid (show p.length ≤ 64 by omega)
          clear h9
          go_wp2_with fail
          go_end0
          exact ⟨rfl, by rw [← HF.out, if_neg (fun h => by have := H9.out; omega)]; exact q.out.1, q.out.2.1⟩
      · have t1 : (re == 0) = false := by simpa using h8
        have H8 := Lib.hid (show re ≠ 0 from h8)
        clear h8
        go_wp2_with fail
        go_end0
        exact ⟨rfl, by rw [← HF.out, if_neg (fun h => H8.out h.1)]; exact q.out.1, q.out.2.1⟩
    · have V2 := Lib.hid (inss_cells hi)
      have OK2 := Lib.hid (fun x hx => by obtain ⟨j, hj, rfl⟩ := List.getElem_of_mem hx; obtain ⟨_, _, hh⟩ := hi.2 j _ (List.getElem?_eq_getElem hj); exact hh.1 : ∀ x ∈ rl, x.ok)
      clear hi H2
      go_upto_region 3 with (at_builtin; refine append_inss rfl (.tmp 25) (.tmp 26) rfl W.heap.size (.slice A l.length c) l rfl R1.out.row.1 R1.out.row.2 ⟨g, 0, none⟩ rl.length c2 rl rfl rfl V2.out OK2.out (by have := HL.out; have := HRL.out; omega) R1.out.bl.size p HP.out ?_; intro A3 c3 w3 hr hg; have R3 := Lib.hid (R1.out.more hr hg); have K3 := Lib.hid (K1.out.grown R1.out.row hg); have G3 := Lib.hid (hp_grown G1.out hg (own_block G1.out (by decide) R1.out.row.1)); clear hr hg x0 x1 xl xz xz1; have x0 : w3.cell? ⟨gb, 0, none⟩ = some (.slice A l.length c) := hp_cell G3.out 0; have x1 : w3.cell? ⟨gb, 1, none⟩ = some (.int .i64 0) := hp_cell G3.out 1; have xz := hp_frozen G3.out 0; have xz1 := hp_frozen G3.out 1; have xl := hp_lt G3.out)
      have q := KEY A3 c3 w3 R3 K3 G3
      clear KEY
      go_upto_region 4 with fail
      clear x0 x1 xl xz xz1 HG HR HM G1 R1 K1 HB R3 K3 G3
      generalize World.setCell _ _ _ = w5 at q ⊢
      obtain ⟨A5, c5, hg5, hr5, hw5⟩ := q.out.1
      have z0 : w5.cell? ⟨gb, 0, none⟩ = some (.slice A5 p.length c5) := hp_cell hg5 0
      have z1 : w5.cell? ⟨gb, 1, none⟩ = some (.int .i64 re) := hp_cell hg5 1
      have zz := hp_frozen hg5 1
      have zl := hp_lt hg5
      clear hg5 hr5 hw5
      by_cases h8 : re = 0
      · subst h8
        by_cases h9 : p.length > 64
        · have t1 : decide ((p.length : Int) > 64) = true := decide_eq_true (by omega)
          have t2 : decide ((64 : Int) < (p.length : Int)) = true := t1
          have t3 : decide (64 < p.length) = true := decide_eq_true h9
          have H9 := Lib.hid h9
          clear h9
          go_wp2_with fail
          go_end0
          exact ⟨rfl, by rw [← HF.out, if_pos ⟨by simp, H9.out⟩]; exact (q.out.2.2 4).1, (q.out.2.2 4).2⟩
        · have t1 : decide ((p.length : Int) > 64) = false := decide_eq_false (by omega)
          have t2 : decide ((64 : Int) < (p.length : Int)) = false := t1
          have t3 : decide (64 < p.length) = false := decide_eq_false h9
          have H9 := Lib.hid (show p.length ≤ 64 by omega)
          clear h9
          go_wp2_with fail
          go_end0
          exact ⟨rfl, by rw [← HF.out, if_neg (fun h => by have := H9.out; omega)]; exact q.out.1, q.out.2.1⟩
      · have t1 : (re == 0) = false := by simpa using h8
        have H8 := Lib.hid (show re ≠ 0 from h8)
        clear h8
        go_wp2_with fail
        go_end0
        exact ⟨rfl, by rw [← HF.out, if_neg (fun h => H8.out h.1)]; exact q.out.1, q.out.2.1⟩
  · have h1 : (f == 0) = false := by simpa using h0
    have h2 : (f != 0) = true := by simpa using h0
    have HE := Lib.hid (show adF (l, f) r = (l, f) by unfold adF; rw [if_neg h0])
    clear h0 hm hg hr hW hl hrl
    go_enter Try.func44, Try.ntmps44
    go_wp2_with fail
    refine bodyPost_ret (results_none rfl _ _ _) rfl ?_
    exact ⟨rfl, by rw [HE.out]; exact ⟨A, c, HG.out, HR.out, HW.out⟩, KB.refl w⟩
end Go.Proofs.Ytmmfadakhnagpaa
