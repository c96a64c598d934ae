
/-
  flows: the iterator of pieces.
-/
import Derived.Test.YtmmfadakhnagpaaFl1
import Derived.RangeFuncNested
import Derived.RangeFuncBound
import Derived.RangeFuncCalls
import Derived.RangeFuncLeaves
import Derived.RangeFuncBox
import Derived.Shelf.Abstract
import Derived.Shelf.RegionOpen
import Derived.WalkKit
import Derived.OwnWalkIn
import Derived.TacticsInMore
import Derived.LoopNIn
import Derived.LoopIn
namespace Go.Proofs.Ytmmfadakhnagpaa
open Go.RowKit Go.ChangeShapes Go.WideShapes Go.Maps Go.WideMaps Go.Shelf
set_option linter.unusedSimpArgs false
set_option linter.unusedVariables false
attribute [local go_sem] Oper.semAt_some

/-- How far a text is cut: the pieces, and where the next one begins. -/
def stP (s : ByteArray) (sg : Nat) : Nat → List ByteArray × Nat
  | 0 => ([], 0)
  | k + 1 => if (s.data.toList.getD k 0).toNat = sg then ((stP s sg k).1 ++ [s.extract (stP s sg k).2 k], k + 1) else stP s sg k
def pcs (s : ByteArray) (sg : Nat) : List ByteArray := (stP s sg s.size).1 ++ [s.extract (stP s sg s.size).2 s.size]
theorem stP_le (s : ByteArray) (sg : Nat) : ∀ k, (stP s sg k).2 ≤ k := by
  intro k
  induction k with
  | zero => exact Nat.le_refl _
  | succ k ih =>
    unfold stP
    split
    · exact Nat.le_refl _
    · omega
theorem stP_mono (s : ByteArray) (sg : Nat) (k : Nat) : ∀ m, k ≤ m → ∃ t, (stP s sg m).1 = (stP s sg k).1 ++ t := by
  intro m
  induction m with
  | zero => intro h; obtain rfl : k = 0 := by omega
            exact ⟨[], by simp⟩
  | succ m ih =>
    intro h
    by_cases e : k = m + 1
    · subst e; exact ⟨[], by simp⟩
    · obtain ⟨t, ht⟩ := ih (by omega)
      rw [stP]
      split
      · exact ⟨t ++ [s.extract (stP s sg m).2 m], by simp [ht]⟩
      · exact ⟨t, ht⟩
/-- What a round keeps. -/
def Kq (Bt Bs : Nat) (W W' : World) : Prop := W'.heap[Bt]? = W.heap[Bt]? ∧ W'.heap[Bs]? = W.heap[Bs]? ∧ KeepsWalks W W'
theorem kq_t {Bt Bs : Nat} {A B C : World} (h : Kq Bt Bs A B) (k : Kq Bt Bs B C) : Kq Bt Bs A C := ⟨k.1.trans h.1, k.2.1.trans h.2.1, h.2.2.trans k.2.2⟩
theorem Kq.cell1 {Bt Bs : Nat} {A B : World} (h : Kq Bt Bs A B) : B.cell? ⟨Bt, 0, none⟩ = A.cell? ⟨Bt, 0, none⟩ := by unfold World.cell?; rw [h.1]
theorem Kq.cell2 {Bt Bs : Nat} {A B : World} (h : Kq Bt Bs A B) : B.cell? ⟨Bs, 0, none⟩ = A.cell? ⟨Bs, 0, none⟩ := by unfold World.cell?; rw [h.2.1]
set_option maxRecDepth 100000 in
set_option maxHeartbeats 4000000 in
theorem pieces1_in (F : Fence) (n : Nat) (hF : F.fn 111) (hro : F.round = none) (hn : 1 ≤ n) (l Bt Bs : Nat) (s : ByteArray) (sg : Nat) (hs : s.size ≤ 10000) (hasc : ∀ x ∈ s.data.toList, x.toNat < 128) (Pd : ByteArray → Prop) (hPd : ∀ p ∈ pcs s sg, Pd p)
    (J Jx : List { p : ByteArray // Pd p } → World → Prop) (W : World) (hJ : AbidesFrom W.heap.size J)
    (hY : ∀ pre x W1, J pre W1 → pre.length < (pcs s sg).length → YieldAt F (n - 1) Try.prog l #[.string x.1] W1 fun e W' => (e = .returned (.bool true) ∧ J (pre ++ [x]) W' ∧ Kq Bt Bs W1 W') ∨ (e = .returned (.bool false) ∧ Jx (pre ++ [x]) W'))
    (hBt : W.cell? ⟨Bt, 0, none⟩ = some (.string s)) (hBs : W.cell? ⟨Bs, 0, none⟩ = some (.int .i32 sg)) (h0 : J [] W) :
    CallsIn F n Try.prog 111 #[.func (.yield l) #[] #[], .pointer (some ⟨Bt, 0, none⟩), .pointer (some ⟨Bs, 0, none⟩)] W fun e W' => (∃ v, e = .returned v) ∧ ((∃ ys : List { p : ByteArray // Pd p }, ys.map (·.1) = pcs s sg ∧ J ys W') ∨ (∃ pre, True ∧ Jx pre W')) := by
  refine callsIn_of_wp Try.func111 rfl hF ?_ hro
  simp only [Try.ntmps111, List.size_toArray, List.length_cons, List.length_nil, Nat.reduceAdd, Nat.reduceSub, Array.replicate_succ, Array.replicate_zero, List.push_toArray, List.append_toArray, List.nil_append, List.cons_append]
  have lt1 := World.block_lt_of_cell? W _ hBt
  have lt2 := World.block_lt_of_cell? W _ hBs
  gi_wp2
  have HP := Lib.hid hPd
  have HY := Lib.hid hY
  have HJ := Lib.hid hJ
  have HA := Lib.hid hasc
  have HN := Lib.hid (And.intro lt1 lt2)
  have HS := Lib.hid hs
  have i0 : (W.alloc (.stringIter s 0)).heap[W.heap.size]? = some (.stringIter s 0) := World.iter_heap W s 0
  have ST := Lib.hid (show ∃ pre : List { p : ByteArray // Pd p }, pre.map (·.1) = (stP s sg 0).1 ∧ J pre (W.alloc (.stringIter s 0)) from ⟨[], rfl, hJ _ _ _ none h0 (World.grownBy_alloc W _ none) (fun r e => by cases e)⟩)
  have C1 := Lib.hid (show (W.alloc (.stringIter s 0)).cell? ⟨Bt, 0, none⟩ = some (.string s) from (((Below.refl W.heap.size W).alloc (Nat.le_refl _) _).cell lt1).trans hBt)
  have C2 := Lib.hid (show (W.alloc (.stringIter s 0)).cell? ⟨Bs, 0, none⟩ = some (.int .i32 sg) from (((Below.refl W.heap.size W).alloc (Nat.le_refl _) _).cell lt2).trans hBs)
  have I0 := Lib.hid i0
  clear hPd hY hJ hasc hs h0 i0 hBt hBs lt1 lt2
  gi_loopw [4] (fun fr wr => ∃ k : Nat, k ≤ s.size ∧ fr = .int .i64 ((stP s sg k).2 : Nat) ∧ Hid (wr.heap[W.heap.size]? = some (.stringIter s k)) ∧ Hid (wr.cell? ⟨Bt, 0, none⟩ = some (.string s)) ∧ Hid (wr.cell? ⟨Bs, 0, none⟩ = some (.int .i32 sg)) ∧ Hid (∃ pre : List { p : ByteArray // Pd p }, pre.map (·.1) = (stP s sg k).1 ∧ J pre wr)) (fun _ wr => s.size - wr.iterPos W.heap.size)
  case atStart => exact ⟨0, Nat.zero_le _, rfl, I0, C1, C2, ST⟩
  case round =>
    clear I0 C1 C2 ST
    obtain ⟨k, hk, rfl, IK, K1, K2, KJ⟩ := hrel
    obtain ⟨f, hf⟩ : ∃ f, (stP s sg k).2 = f := ⟨_, rfl⟩
    have hfk : f ≤ k := by rw [← hf]; exact stP_le s sg k
    by_cases hp : k < s.size
    · obtain ⟨c, hc⟩ : ∃ c : Nat, (s[k]'hp).toNat = c := ⟨_, rfl⟩
      have hcd : (s.data.toList.getD k 0).toNat = c := by
        rw [← hc]
        have h' : k < s.data.toList.length := hp
        rw [List.getD_eq_getElem?_getD, List.getElem?_eq_getElem h']
        rfl
      have hx := HA.out (s[k]'hp) (by show s.data[k] ∈ s.data.toList; exact Array.getElem_mem_toList _)
      obtain ⟨w2, hw2⟩ : ∃ w2 : World, { wr with heap := wr.heap.setIfInBounds W.heap.size (.stringIter s (k + 1)) } = w2 := ⟨_, rfl⟩
      have hnx : ∀ ty, (Instr.next (.pointer (some ⟨W.heap.size, 0, none⟩)) true ty).run Try.prog wr = .ok (.tuple #[.bool true, .int .i64 k, .int .i32 c]) w2 := fun ty => by rw [run_next_byte wr W.heap.size s k ty IK.out hp hx, hc, hw2]
      have hput : w2 = wr.putObj W.heap.size (.stringIter s (k + 1)) := hw2.symm
      have hil : W.heap.size < wr.heap.size := (Array.getElem?_eq_some_iff.1 IK.out).1
      have I2 := Lib.hid (show w2.heap[W.heap.size]? = some (.stringIter s (k + 1)) by rw [hput]; exact World.putObj_heap_same hil)
      have hgb : wr.grownBy w2 (some W.heap.size) := by rw [hput]; exact grownBy_putObj' wr _ _
      have k1 : w2.cell? ⟨Bt, 0, none⟩ = some (.string s) := by
        rw [← K1.out, hput]; unfold World.cell?; rw [World.putObj_heap_other (by have := HN.out; show Bt ≠ _; omega)]
      have k2 : w2.cell? ⟨Bs, 0, none⟩ = some (.int .i32 sg) := by
        rw [← K2.out, hput]; unfold World.cell?; rw [World.putObj_heap_other (by have := HN.out; show Bs ≠ _; omega)]
      have J2 := Lib.hid (show ∃ pre : List { p : ByteArray // Pd p }, pre.map (·.1) = (stP s sg k).1 ∧ J pre w2 from by
        obtain ⟨pre, h1, h2⟩ := KJ.out
        exact ⟨pre, h1, HJ.out _ _ _ _ h2 hgb (fun r e => by cases e; exact ⟨Nat.le_refl _, _, IK.out, rfl⟩)⟩)
      have l1 := World.block_lt_of_cell? w2 _ k1
      have l2 := World.block_lt_of_cell? w2 _ k2
      clear hput hil hgb hw2 hc hx KJ K1 K2
      by_cases he : c = sg
      · have hst : stP s sg (k + 1) = ((stP s sg k).1 ++ [s.extract f k], k + 1) := by rw [stP, if_pos (by rw [hcd]; exact he), hf]
        obtain ⟨tt, ht⟩ := stP_mono s sg (k + 1) s.size hp
        rw [hst] at ht
        have hmem : s.extract f k ∈ pcs s sg := by unfold pcs; rw [ht]; simp
        obtain ⟨pre, h1, h2⟩ := J2.out
        have hlen : pre.length < (pcs s sg).length := by
          have e1 := congrArg List.length h1
          rw [List.length_map] at e1
          unfold pcs
          rw [ht]
          simp
          omega
        obtain ⟨x, hxv⟩ : ∃ x : { p : ByteArray // Pd p }, x.1 = s.extract f k := ⟨⟨_, HP.out _ hmem⟩, rfl⟩
        obtain ⟨fn, tmps, assign, body, hy, hR⟩ := HY.out pre x w2 h2 hlen
        rw [hxv] at hy
        have HX := Lib.hid hxv
        have HST := Lib.hid hst
        have H1 := Lib.hid h1
        have b1 : decide ((c : Int) = (sg : Int)) = true := decide_eq_true (by omega)
        have b2 : ((c : Int) == (sg : Int)) = true := by simp; omega
        have HF := Lib.hid hf
        have HKS := Lib.hid (And.intro hk (And.intro hfk hp))
        have b4 : (f : Int) ≤ (k : Int) := by omega
        have b5 : (k : Int) ≤ (s.size : Int) := by omega
        have b6 : (0 : Int) ≤ (f : Int) := by omega
        have b7 : wrap64 ((k : Int) + 1) = (k : Int) + 1 := by have := HS.out; unfold wrap64; omega
        clear hst hcd he hf ht hmem h1 h2 hlen J2 hk hfk hp hxv
        rw [HF.out]
        gi_wp2
        refine hR.mono ?_
        rintro e W3 (⟨rfl, hJ3, hk3⟩ | ⟨rfl, hJx3⟩)
        · have K3 := Lib.hid hk3
          have J3 := Lib.hid hJ3
          clear hk3 hJ3
          gi_wp2
          go_roundw
          case rel => exact ⟨k + 1, HKS.out.2.2, by rw [HST.out]; simp; exact b7, Lib.hid (K3.out.2.2.same _ _ I2.out rfl), Lib.hid (K3.out.cell1.trans k1), Lib.hid (K3.out.cell2.trans k2), Lib.hid ⟨pre ++ [x], by rw [HST.out, List.map_append, H1.out]; simp [HX.out], J3.out⟩⟩
          case measure => rw [iterPos_of (K3.out.2.2.same _ _ I2.out rfl), iterPos_of IK.out]; have := HKS.out; omega
        · gi_wp2
          refine bodyPost_ret (results_none rfl _ _ _) rfl ?_
          exact ⟨⟨_, rfl⟩, .inr ⟨_, trivial, hJx3⟩⟩
      · have hst : stP s sg (k + 1) = stP s sg k := by rw [stP, if_neg (by rw [hcd]; exact he)]
        have HST := Lib.hid hst
        have b1 : decide ((c : Int) = (sg : Int)) = false := decide_eq_false (by omega)
        have b2 : ((c : Int) == (sg : Int)) = false := by simp; omega
        have HF := Lib.hid hf
        clear hst hcd he hf
        rw [HF.out]
        gi_wp2
        go_roundw
        case rel => exact ⟨k + 1, hp, by rw [HST.out, HF.out], I2, Lib.hid k1, Lib.hid k2, by rw [HST.out]; exact J2⟩
        case measure => rw [iterPos_of I2.out, iterPos_of IK.out]; omega
    · have e : k = s.size := by omega
      have hnx : ∀ ty, (Instr.next (.pointer (some ⟨W.heap.size, 0, none⟩)) true ty).run Try.prog wr = .ok (.tuple #[.bool false]) wr := fun ty => run_next_stop wr W.heap.size s k ty IK.out hp
      have hmem : s.extract f s.size ∈ pcs s sg := by unfold pcs; rw [← hf, e]; simp
      obtain ⟨pre, h1, h2⟩ := KJ.out
      have hlen : pre.length < (pcs s sg).length := by
        have e1 := congrArg List.length h1
        rw [List.length_map] at e1
        unfold pcs
        rw [← e]
        simp
        omega
      obtain ⟨x, hxv⟩ : ∃ x : { p : ByteArray // Pd p }, x.1 = s.extract f s.size := ⟨⟨_, HP.out _ hmem⟩, rfl⟩
      obtain ⟨fn, tmps, assign, body, hy, hR⟩ := HY.out pre x wr h2 hlen
      rw [hxv] at hy
      have HX := Lib.hid hxv
      have H1 := Lib.hid h1
      have HF := Lib.hid hf
      have HE := Lib.hid e
      have k1 := K1.out
      have k2 := K2.out
      have l1 := World.block_lt_of_cell? wr _ k1
      have l2 := World.block_lt_of_cell? wr _ k2
      have b4 : (f : Int) ≤ (s.size : Int) := by omega
      have b6 : (0 : Int) ≤ (f : Int) := by omega
      clear e hmem h1 h2 hlen hxv hk hfk hp hf
      rw [HF.out]
      gi_wp2
      refine hR.mono ?_
      rintro e W3 (⟨rfl, hJ3, hk3⟩ | ⟨rfl, hJx3⟩)
      · gi_wp2
        go_end0
        exact ⟨⟨_, rfl⟩, .inl ⟨pre ++ [x], by unfold pcs; rw [← HE.out, List.map_append, H1.out, HF.out, HE.out]; simp [HX.out], hJ3⟩⟩
      · gi_wp2
        go_end0
        exact ⟨⟨_, rfl⟩, .inr ⟨_, trivial, hJx3⟩⟩
/-- As the law for a range over a function asks it. -/
theorem pieces_stops (n : Nat) (hn : 1 ≤ n) (Bt Bs : Nat) (s : ByteArray) (sg : Nat) (hs : s.size ≤ 10000) (hasc : ∀ x ∈ s.data.toList, x.toNat < 128) (Pd : ByteArray → Prop) (hPd : ∀ p ∈ pcs s sg, Pd p) (w : World)
    (hBt : w.cell? ⟨Bt, 0, none⟩ = some (.string s)) (hBs : w.cell? ⟨Bs, 0, none⟩ = some (.int .i32 sg)) :
    SeqStopsK Fence.wide n Try.prog 111 #[.pointer (some ⟨Bt, 0, none⟩), .pointer (some ⟨Bs, 0, none⟩)] (fun x : { p : ByteArray // Pd p } => #[Value.string x.1]) (Kq Bt Bs) (fun ys => ys.map (·.1) = pcs s sg) (fun _ => True) (pcs s sg).length w := fun l J Jx W hW hJ hJx hY h0 =>
  pieces1_in Fence.wide n trivial rfl hn l Bt Bs s sg hs hasc Pd hPd J Jx W hJ hY ((hW.cell (p := ⟨Bt, 0, none⟩) (World.block_lt_of_cell? w _ hBt)).trans hBt) ((hW.cell (p := ⟨Bs, 0, none⟩) (World.block_lt_of_cell? w _ hBs)).trans hBs) h0
theorem kq_b {Bt Bs : Nat} {w : World} (h1 : Bt < w.heap.size) (h2 : Bs < w.heap.size) (W : World) (l : Nat) (o o' : Obj) (hl : w.heap.size ≤ l) (h : W.heap[l]? = some o) (hc : o.isCells = false) (hw : o.isWalk = false) : Kq Bt Bs W (W.putObj l o') :=
  ⟨World.putObj_heap_other (by omega), World.putObj_heap_other (by omega), walksK_b (w := w) W l o o' hl h hc hw⟩
end Go.Proofs.Ytmmfadakhnagpaa
