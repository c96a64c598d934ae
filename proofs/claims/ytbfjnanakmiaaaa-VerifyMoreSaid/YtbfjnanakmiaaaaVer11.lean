
/-
  rowlocklaw15.few, live, VerifyMore.
-/
import Derived.Test.YtbfjnanakmiaaaaVer10
namespace Go.Proofs.Ytbfjnanakmiaaaa
open Go.RowKit Go.ChangeShapes Go.WideShapes
set_option linter.unusedSimpArgs false
set_option linter.unusedVariables false

theorem few_any (A : Option Addr) (len cap : Nat) (W : World) (h : InsIn W A len cap) : Calls Try.prog 5 #[.slice A len cap] W fun e w' => (∃ (l : List Ins3) (c : Nat), e = .returned (.slice A l.length c) ∧ l.length ≤ 65 ∧ InssAt W A l) ∧ W = w' := by
  obtain ⟨l, rfl, hI, hc, hn⟩ := h
  by_cases hl : l.length ≤ 65
  · have t0 : decide ((l.length : Int) > 65) = false := decide_eq_false (by omega)
    have t0' : decide ((65 : Int) < (l.length : Int)) = false := decide_eq_false (by omega)
    have HI := Lib.hid hI
    clear hI
    go_enter Try.func5, Try.ntmps5
    go_wp2
    go_ret
    exact ⟨⟨l, cap, rfl, hl, HI.out⟩, rfl⟩
  · have t0 : decide ((l.length : Int) > 65) = true := decide_eq_true (by omega)
    have t0' : decide ((65 : Int) < (l.length : Int)) = true := decide_eq_true (by omega)
    have h65 : 65 ≤ cap := by omega
    have HI := Lib.hid (inss_take hI 65)
    have HL := Lib.hid (show (l.take 65).length = 65 by rw [List.length_take]; omega)
    cases A with
    | none => have := hn rfl; omega
    | some a =>
      clear hI hn
      go_enter Try.func5, Try.ntmps5
      go_wp2
      go_ret
      exact ⟨⟨l.take 65, cap, by rw [HL.out]; rfl, by rw [HL.out]; omega, HI.out⟩, rfl⟩
def L4 : List Ins3 := [⟨21, 2, 0⟩, ⟨26, 0, 0⟩, ⟨22, 0, 0⟩, ⟨28, 0, 0⟩]
def L2 : List Ins3 := [⟨4, 0, 0⟩, ⟨28, 0, 0⟩]
theorem live1 : (checkF L4 1).2 = 0 := by decide +kernel
theorem live2 : checkF L2 1 = (0, 8) := by decide +kernel
theorem live3 : regF L4 = ([-1, 0, 0, -1], 0, 0) := by decide +kernel
theorem live4 : blkF L4 4 = [0] := by decide +kernel
theorem inss_lit {w : World} {g : Nat} {l : List Ins3} (hl : l.length ≤ 1000) (hok : ∀ s ∈ l, s.ok) (h : w.heap[g]? = some (.cells (insC l).toArray 34 (0, 0))) : InssAt w (some ⟨g, 0, none⟩) l := by
  refine ⟨by unfold maxLen; omega, fun j s hs => ⟨_, rfl, hok s ?_, ?_⟩⟩
  · obtain ⟨hj, e⟩ := List.getElem?_eq_some_iff.mp hs
    rw [← e]
    exact List.getElem_mem hj
  · have key : ∀ i u, (inC s)[i]? = some u → w.cell? ⟨g, j * 3 + i, none⟩ = some u := by
      intro i u hu
      rw [hp_cell h, List.getElem?_toArray]
      exact insC_at l j s hs i u hu
    rw [add_at, Nat.zero_add]
    exact ⟨key 0 _ rfl, key 1 _ rfl, key 2 _ rfl⟩
theorem fstF_less (p q : Nat → Bool) (h : ∀ i, q i = true → p i = true) : ∀ (k i : Nat), (fstF p i k).2 = false → (fstF q i k).2 = false := by
  intro k
  induction k with
  | zero => intro i _; rfl
  | succ k ih =>
    intro i hp
    have e1 : fstF p i (k + 1) = bif p i then ((i : Int), true) else fstF p (i + 1) k := rfl
    have e2 : fstF q i (k + 1) = bif q i then ((i : Int), true) else fstF q (i + 1) k := rfl
    rw [e1] at hp
    rw [e2]
    cases hpi : p i
    · rw [hpi] at hp
      have : q i = false := by
        cases hq : q i
        · rfl
        · rw [h i hq] at hpi; cases hpi
      rw [this]
      exact ih _ hp
    · rw [hpi] at hp
      cases hp
theorem p3F_less (l : List Ins3) (ins : List Int) {t t' : Int} (h : t ≤ t') (i : Nat) (hq : p3F l ins t' i = true) : p3F l ins t i = true := by
  unfold p3F farF at *
  cases hv : varB (xn l i).op
  · rw [hv] at hq; exact hq
  · rw [hv] at hq
    have := of_decide_eq_true hq
    exact decide_eq_true (by omega)
/-- With more variables. -/
theorem more_law (l : List Ins3) {t t' : Int} (h : t ≤ t') : (((checkF l t).2 != 0) || (checkF l t').2 == 0) = true ∧ (((checkF l t).2 == 0) || ((checkF l t).2 == (checkF l t').2) || ((checkF l t).2 == 2)) = true := by
  unfold checkF
  cases decide (l.length < 1)
  · cases decide (64 < l.length)
    · cases (fstF (p1F l) 0 l.length).2
      · cases hr : (regF l).2.2 != 0
        · cases (fstF (p2F l (regF l).1) 0 l.length).2
          · cases h3 : (fstF (p3F l (regF l).1 t) 0 l.length).2
            · rw [fstF_less _ _ (fun i hq => p3F_less l (regF l).1 h i hq) _ _ h3]
              simp only [cond_false]
              cases hd : (depsF l).2 == 0
              · simp [bne, hd]
              · simp [bne, hd]
            · simp only [cond_true, cond_false]
              constructor <;> simp
          · exact ⟨rfl, rfl⟩
        · simp only [cond_false, cond_true]
          constructor
          · simp [hr]
          · simp
      · exact ⟨rfl, rfl⟩
    · exact ⟨rfl, rfl⟩
  · exact ⟨rfl, rfl⟩
theorem check4 (A : Option Addr) (c : Nat) (W : World) (HS : InssAt W A L4) : Calls Try.prog 6 #[.slice A 4 c, .int .i64 1] W fun e w' => ∃ i, e = .returned (.tuple #[.int .i64 i, .int .i64 0]) ∧ Below W.heap.size W w' :=
  (check_any L4 (by decide) 1 A c W HS).mono fun e w' ⟨h1, h2⟩ => ⟨(checkF L4 1).1, by rw [h1, live1], h2⟩
theorem check2 (A : Option Addr) (c : Nat) (W : World) (HS : InssAt W A L2) : Calls Try.prog 6 #[.slice A 2 c, .int .i64 1] W fun e w' => e = .returned (.tuple #[.int .i64 0, .int .i64 8]) ∧ Below W.heap.size W w' :=
  (check_any L2 (by decide) 1 A c W HS).mono fun e w' ⟨h1, h2⟩ => ⟨by rw [h1, live2], h2⟩
theorem regions4 (A : Option Addr) (c : Nat) (W : World) (HS : InssAt W A L4) : Calls Try.prog 15 #[.slice A 4 c] W fun e w' => ∃ A' c', e = .returned (.tuple #[.slice A' 4 c', .int .i64 0, .int .i64 0]) ∧ IntsAt okI w' A' [-1, 0, 0, -1] ∧ Below W.heap.size W w' :=
  (regions_any L4 (by decide) A c W HS).mono fun e w' ⟨A', c', h1, h2, h3⟩ => ⟨A', c', by rw [h1, live3]; rfl, by rw [live3] at h2; exact (irow_cap h2).2.2, h3⟩
theorem blocks4 (A : Option Addr) (c : Nat) (W : World) (HS : InssAt W A L4) : Calls Try.prog 20 #[.slice A 4 c] W fun e w' => ∃ g o c', e = .returned (.slice (some ⟨g, o, none⟩) 1 c') ∧ w'.cell? ⟨g, o, none⟩ = some (.int .i64 0) ∧ Below W.heap.size W w' :=
  (blocks_v L4 (by decide) A c W HS).mono fun e w' ⟨A', c', h1, h2, h3⟩ => by
    have e4 : blkF L4 L4.length = [0] := live4
    rw [e4] at h1 h2
    have hi := (irow_cap h2).2.2
    obtain ⟨g, o, rfl⟩ : ∃ g o, A' = some ⟨g, o, none⟩ := by
      rcases hi.2 with h | ⟨g, o, cells, hA, _⟩
      · cases h.2
      · exact ⟨g, o, hA⟩
    exact ⟨g, o, c', h1, (congrArg w'.cell? (add_at g o 0)).symm.trans (ints_cell hi 0 _ rfl), h3⟩
theorem four_cells {w : World} {A : Option Addr} (h : IntsAt okI w A [-1, 0, 0, -1]) : ∃ g o, A = some ⟨g, o, none⟩ ∧ w.cell? ⟨g, o + 1, none⟩ = some (.int .i64 0) ∧ w.cell? ⟨g, o + 2, none⟩ = some (.int .i64 0) ∧ w.cell? ⟨g, o + 3, none⟩ = some (.int .i64 (-1)) := by
  obtain ⟨g, o, rfl⟩ : ∃ g o, A = some ⟨g, o, none⟩ := by
    rcases h.2 with h | ⟨g, o, cells, hA, _⟩
    · cases h.2
    · exact ⟨g, o, hA⟩
  have k := fun j u hj => (congrArg w.cell? (add_at g o j)).symm.trans (ints_cell h j u hj)
  exact ⟨g, o, rfl, k 1 _ rfl, k 2 _ rfl, k 3 _ rfl⟩
set_option maxHeartbeats 8000000 in
set_option maxRecDepth 100000 in
theorem live_any (w : World) : Calls Try.prog 7 #[] w fun e w' => e = .returned (.bool true) ∧ Below w.heap.size w w' := by
  have hok4 : ∀ s ∈ L4, s.ok := by
    intro s hs
    simp only [L4, List.mem_cons, List.not_mem_nil, or_false] at hs
    rcases hs with rfl | rfl | rfl | rfl <;> exact ⟨⟨by decide, by decide⟩, ⟨by decide, by decide⟩, ⟨by decide, by decide⟩⟩
  have hok2 : ∀ s ∈ L2, s.ok := by
    intro s hs
    simp only [L2, List.mem_cons, List.not_mem_nil, or_false] at hs
    rcases hs with rfl | rfl <;> exact ⟨⟨by decide, by decide⟩, ⟨by decide, by decide⟩, ⟨by decide, by decide⟩⟩
  have HK4 := Lib.hid hok4
  have HK2 := Lib.hid hok2
  clear hok4 hok2
  have HS4 : Hid (InssAt (w.alloc (.cells #[.int .u8 21, .int .i64 2, .int .u64 0, .int .u8 26, .int .i64 0, .int .u64 0, .int .u8 22, .int .i64 0, .int .u64 0, .int .u8 28, .int .i64 0, .int .u64 0] 34)) (some ⟨w.heap.size, 0, none⟩) L4) := Lib.hid (inss_lit (by decide) HK4.out (heap_alloc_new w _))
  have HB0 := Lib.hid ((Below.refl w.heap.size w).alloc (Nat.le_refl _) (.cells #[.int .u8 21, .int .i64 2, .int .u64 0, .int .u8 26, .int .i64 0, .int .u64 0, .int .u8 22, .int .i64 0, .int .u64 0, .int .u8 28, .int .i64 0, .int .u64 0] 34))
  go_enter Try.func7, Try.ntmps7
  go_wp2_with (first | (go_at_call 20; (with_reducible refine (blocks4 (some ⟨w.heap.size, 0, none⟩) 4 _ S3.out).mono ?_); rintro e w4 ⟨g4, o4, c4, rfl, hi4, hb4⟩; have B4 := Lib.hid (B3.out.trans (hb4.mono B3.out.size)); obtain ⟨g3, o3, rfl, e1, e2, e3⟩ := four_cells (ints_below I3.out hb4); clear hb4) | (go_at_call 15; (with_reducible refine (regions4 (some ⟨w.heap.size, 0, none⟩) 4 _ S2.out).mono ?_); rintro e w3 ⟨A3, c3, rfl, hi3, hb3⟩; have B3 := Lib.hid (B2.out.trans (hb3.mono B2.out.size)); have S3 := Lib.hid (inss_below S2.out hb3); have I3 := Lib.hid hi3; clear hb3 hi3) | (go_at_call 6; (with_reducible refine (check2 (some ⟨w1.heap.size, 0, none⟩) 2 _ (show InssAt (w1.alloc (.cells #[.int .u8 4, .int .i64 0, .int .u64 0, .int .u8 28, .int .i64 0, .int .u64 0] 34)) (some ⟨w1.heap.size, 0, none⟩) L2 from inss_lit (by decide) HK2.out (heap_alloc_new w1 _))).mono ?_); rintro e w2 ⟨rfl, hb2⟩; have hba := (Below.refl w1.heap.size w1).alloc (Nat.le_refl _) (.cells #[.int .u8 4, .int .i64 0, .int .u64 0, .int .u8 28, .int .i64 0, .int .u64 0] 34); have B2 := Lib.hid ((B1.out.trans (hba.mono B1.out.size)).trans (hb2.mono (by have := B1.out.size; simp; omega))); have S2 := Lib.hid (inss_below (inss_below S1.out hba) hb2); clear hb2 hba) | (go_at_call 6; (with_reducible refine (check4 (some ⟨w.heap.size, 0, none⟩) 4 _ HS4.out).mono ?_); rintro e w1 ⟨i1, rfl, hb1⟩; have B1 := Lib.hid (HB0.out.trans (hb1.mono HB0.out.size)); have S1 := Lib.hid (inss_below HS4.out hb1); clear hb1))
  go_ret
  exact ⟨rfl, B4.out⟩
end Go.Proofs.Ytbfjnanakmiaaaa
