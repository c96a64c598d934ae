
/-
  verify.Blocks; rowlocklaw15.few, live, VerifyMore.
-/
import Derived.Test.YtbfjnanakmiaaaaVer9
namespace Go.Proofs.Ytbfjnanakmiaaaa
open Go.RowKit Go.ChangeShapes Go.WideShapes
set_option linter.unusedSimpArgs false
set_option linter.unusedVariables false

def blkF (l : List Ins3) : Nat → List Int | 0 => [] | j + 1 => bif (xn l j).op == 21 then blkF l j ++ [(j : Int)] else blkF l j
theorem blkF_len (l : List Ins3) : ∀ j, (blkF l j).length ≤ j := by
  intro j
  induction j with
  | zero => exact Nat.le_refl _
  | succ j ih =>
    unfold blkF
    cases (xn l j).op == 21
    · exact Nat.le_succ_of_le ih
    · show (blkF l j ++ [(j : Int)]).length ≤ _
      rw [List.length_append]
      simp
      exact ih
def BkSt (W w : World) (A : Option Addr) (c : Nat) (o : List Int) : Prop := IRowAt w W.heap.size A c o ∧ Below W.heap.size W w
theorem BkSt.below {W w w1 : World} {A : Option Addr} {c : Nat} {o : List Int} (h : BkSt W w A c o) (hb : Below w.heap.size w w1) : BkSt W w1 A c o := ⟨irow_below h.1 hb, h.2.trans (hb.mono h.2.size)⟩
theorem BkSt.alloc {W w : World} {A : Option Addr} {c : Nat} {o : List Int} (h : BkSt W w A c o) (x : Obj) : BkSt W (w.alloc x) A c o := h.below ((Below.refl _ _).alloc (Nat.le_refl _) x)
theorem BkSt.push {W w w1 : World} {A A2 : Option Addr} {c c2 : Nat} {o o2 : List Int} (h : BkSt W w A c o) (hr : IRowAt w1 W.heap.size A2 c2 o2) (hg : w.grownBy w1 (iblk A)) : BkSt W w1 A2 c2 o2 := ⟨hr, h.2.grown hg h.2.size (fun k hk => (irow_lt h.1 k hk).1)⟩
def BlkPost (l : List Ins3) (W : World) (e : Ending) (w' : World) : Prop := ∃ A' c', e = .returned (.slice A' (blkF l l.length).length c') ∧ IRowAt w' W.heap.size A' c' (blkF l l.length) ∧ Below W.heap.size W w'
set_option maxHeartbeats 4000000 in
theorem blocks_v (l : List Ins3) (hl : l.length ≤ 100) (A : Option Addr) (c : Nat) (W : World) (HS : InssAt W A l) : Calls Try.prog 20 #[.slice A l.length c] W (BlkPost l W) := by
  have HSh := Lib.hid HS
  clear HS
  go_enter Try.func20, Try.ntmps20
  go_wp2_with fail
  go_loopw [8, 3] (fun t s w' => ∃ (j : Nat) (A' : Option Addr) (c' : Nat) (o : List Int), j ≤ l.length ∧ t = .int .i64 j ∧ s = .slice A' o.length c' ∧ Hid (o = blkF l j) ∧ Hid (BkSt W w' A' c' o)) (fun t _ _ => l.length - (intOf t).toNat)
  case atStart => exact ⟨0, none, 0, [], by omega, rfl, rfl, Lib.hid rfl, Lib.hid ⟨irow_nil _ _, Below.refl _ _⟩⟩
  case round =>
    obtain ⟨j, A', c', o, hj, rfl, rfl, HO, HB⟩ := hrel
    have hol : o.length ≤ 100 := by rw [HO.out]; exact Nat.le_trans (blkF_len l j) (by omega)
    by_cases hlt : j < l.length
    · have t1 : decide (j < l.length) = true := decide_eq_true hlt
      have t1' : decide ((j : Int) < (l.length : Int)) = true := decide_eq_true (by omega)
      have t3 : (j : Int) < (l.length : Int) := by omega
      have t4 : (0 : Int) ≤ (j : Int) := by omega
      obtain ⟨ad, rfl, hok, a0, a1, a2⟩ := xn_at (inss_below HSh.out HB.out.2) hlt
      have HN : Hid (blkF l (j + 1) = bif (xn l j).op == 21 then blkF l j ++ [(j : Int)] else blkF l j) := Lib.hid rfl
      generalize xn l j = x at hok a0 a1 a2 HN
      obtain ⟨op, ag, v⟩ := x
      dsimp only at *
      clear hok
      have HB1 := Lib.hid (HB.out.alloc (.cells #[.int .u8 op, .int .i64 ag, .int .u64 v] 34))
      obtain ⟨o1, HO1⟩ : ∃ y, Hid (o ++ [(j : Int)] = y) := ⟨_, Lib.hid rfl⟩
      cases hp : op == 21
      · go_wp2_with fail
        go_roundw
        case rel => exact ⟨j + 1, A', c', o, by omega, by go_num, rfl, Lib.hid (by rw [HN.out, hp]; exact HO.out), HB1⟩
        case measure => simp [intOf]; omega
      · go_wp2_with (at_builtin; refine append_ints' (ok := fun _ => True) rfl (.tmp 16) (.tmp 18) rfl W.heap.size A' c' o rfl (HB1.out.alloc _).1 (some ⟨_, 0, none⟩) 1 [(j : Int)] rfl (fun h => by cases h) (ints_lit' _ (j : Int) ⟨by omega, by omega⟩ _ (by simp)) (by simp; omega) (HB1.out.alloc _).2.size o1 HO1.out ?_; intro A2 c2 w2 hr2 hg2 hat2; have X2 := Lib.hid ((HB1.out.alloc _).push hr2 hg2); clear hr2 hg2 hat2)
        go_roundw
        case rel => exact ⟨j + 1, A2, c2, o1, by omega, by go_num, rfl, Lib.hid (by rw [HN.out, hp, ← HO1.out, HO.out]; rfl), X2⟩
        case measure => simp [intOf]; omega
    · obtain rfl : j = l.length := by omega
      have t1 : decide (l.length < l.length) = false := decide_eq_false (by omega)
      have t1' : decide ((l.length : Int) < (l.length : Int)) = false := decide_eq_false (by omega)
      have ho := HO.out
      subst ho
      go_wp2_with fail
      go_ret
      exact ⟨A', c', rfl, HB.out.1, HB.out.2⟩
end Go.Proofs.Ytbfjnanakmiaaaa
