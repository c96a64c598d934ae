
/-
  locks.block: a block's instructions from a place on.
-/
import Derived.Test.YtcjkpeojjonpiaaVal2
import Derived.WalkSmall
import Derived.LoopTactic
import Derived.Deep.LoopGhost
import Derived.Deep.AppendSrc
import Derived.Laws.OwnMore
namespace Go.Proofs.Ytcjkpeojjonpiaa
open Go.RowKit
set_option linter.unusedSimpArgs false

theorem slice_none_room (a : Addr) (n c : Nat) (w : World) : (Instr.slice 22 (.slice (some a) n c) none (some (.int .i64 0)) (some (.int .i64 0))).run Try.prog w = .ok (.slice (some a) 0 0) w := by
  have hu := run_underlying (P := Try.prog) Try.underlying22
  have hs : ∀ w, (sizeOf 35).run Try.prog w = .ok 3 w := fun w => by kernel_rfl
  simp [Instr.slice, Instr.sliceBounds, Instr.sliceBound, asIntOf, hu, hs]
def jumpB (o : Int) : Bool := o == 21 || o == 19 || o == 20
def insC (l : List (Int × Int × Int)) : List Value := l.flatMap fun x => [.int .u8 x.1, .int .i64 x.2.1, .int .u64 x.2.2]
theorem insC_cons (x : Int × Int × Int) (l : List (Int × Int × Int)) : insC (x :: l) = .int .u8 x.1 :: .int .i64 x.2.1 :: .int .u64 x.2.2 :: insC l := rfl
theorem insC_append (l m : List (Int × Int × Int)) : insC (l ++ m) = insC l ++ insC m := by unfold insC; rw [List.flatMap_append]
theorem insC_len (l : List (Int × Int × Int)) : (insC l).length = l.length * 3 := by
  induction l with
  | nil => rfl
  | cons x l ih => rw [insC_cons]; simp only [List.length_cons, ih]; omega
theorem insC_one (l : List (Int × Int × Int)) : ∀ u ∈ insC l, u.oneCell' = true := by
  induction l with
  | nil => intro u h; cases h
  | cons x l ih =>
    intro u h
    rw [insC_cons] at h
    simp only [List.mem_cons] at h
    rcases h with rfl | rfl | rfl | h
    · rfl
    · rfl
    · rfl
    · exact ih u h
/-- The cells of the k-th. -/
theorem insC_at : ∀ (l : List (Int × Int × Int)) (k : Nat) (x : Int × Int × Int), l[k]? = some x → (insC l)[k * 3]? = some (.int .u8 x.1) ∧ (insC l)[k * 3 + 1]? = some (.int .i64 x.2.1) ∧ (insC l)[k * 3 + 2]? = some (.int .u64 x.2.2) := by
  intro l
  induction l with
  | nil => intro k x h; simp at h
  | cons y l ih =>
    intro k x h
    cases k with
    | zero =>
      simp at h
      subst h
      exact ⟨rfl, rfl, rfl⟩
    | succ k =>
      have := ih k x (by simpa using h)
      rw [insC_cons]
      have e0 : (k + 1) * 3 = k * 3 + 1 + 1 + 1 := by omega
      rw [e0]
      exact this
def shiftI (p : Int) (x : Int × Int × Int) : Int × Int × Int := bif jumpB x.1 then (x.1, x.2.1 + p, x.2.2) else x
/-- So many are shifted. -/
def shifted (p : Int) (l : List (Int × Int × Int)) (k : Nat) : List (Int × Int × Int) := (l.take k).map (shiftI p) ++ l.drop k
theorem shifted_len (p : Int) (l : List (Int × Int × Int)) (k : Nat) (h : k ≤ l.length) : (shifted p l k).length = l.length := by unfold shifted; simp; omega
theorem shifted_zero (p : Int) (l : List (Int × Int × Int)) : shifted p l 0 = l := by simp [shifted]
theorem shifted_all (p : Int) (l : List (Int × Int × Int)) : shifted p l l.length = l.map (shiftI p) := by simp [shifted]
theorem shifted_at (p : Int) (l : List (Int × Int × Int)) (k : Nat) (h : k < l.length) : (shifted p l k)[k]? = l[k]? := by
  unfold shifted
  rw [List.getElem?_append_right (by simp; omega)]
  simp
  have : k - min k l.length = 0 := by omega
  rw [this]
  rfl
theorem shifted_succ (p : Int) (l : List (Int × Int × Int)) (k : Nat) (h : k < l.length) : shifted p l (k + 1) = (shifted p l k).set k (shiftI p l[k]) := by
  unfold shifted
  rw [List.take_succ_eq_append_getElem h, List.map_append, List.set_append_right _ _ (by simp; omega)]
  simp
  have : k - min k l.length = 0 := by omega
  rw [this, List.drop_eq_getElem_cons h]
  rfl
/-- One more shifted: of the cells the second of the k-th. -/
theorem insC_set (l : List (Int × Int × Int)) : ∀ (k : Nat) (x : Int × Int × Int) (y : Int), l[k]? = some x → insC (l.set k (x.1, y, x.2.2)) = (insC l).set (k * 3 + 1) (.int .i64 y) := by
  induction l with
  | nil => intro k x y h; simp at h
  | cons z l ih =>
    intro k x y h
    cases k with
    | zero =>
      simp at h
      subst h
      rfl
    | succ k =>
      rw [List.set_cons_succ, insC_cons, insC_cons, ih k x y (by simpa using h)]
      have e0 : (k + 1) * 3 + 1 = k * 3 + 1 + 1 + 1 + 1 := by omega
      rw [e0]
      rfl

theorem own_parts {W : World} {base : Nat} {e : TypeId} {n : Nat} {xs : List Value} {v : Value} (h : W.ownsRow base e 3 v n xs) (hn : 0 < n) :
    ∃ g cap cur, v = .slice (some ⟨g, 0, none⟩) n cap ∧ base ≤ g ∧ n ≤ cap ∧ cap ≤ 9223372036854775807 ∧ Hid (W.heap[g]? = some (.cells cur e (0, 0))) ∧ Hid (cur.size = cap * 3) ∧ Hid (cur.toList.take (n * 3) = xs) := by
  obtain ⟨hlen, hz | ⟨g, cap, cur, rfl, hg, hheap, hcap, hcapm, hcur, htake⟩⟩ := h
  · omega
  · exact ⟨g, cap, cur, rfl, hg, hcap, by unfold maxLen at hcapm; omega, hheap, hcur, htake⟩
def BlockPost (p : Int) (l : List (Int × Int × Int)) (w : World) (e : Ending) (w' : World) : Prop :=
  if 64 < p + (l.length : Int) then e = .returned (.tuple #[.slice none 0 0, .int .i64 4]) ∧ Below w.heap.size w w'
  else ∃ v, e = .returned (.tuple #[v, .int .i64 0]) ∧ w'.ownsRow w.heap.size 35 3 v l.length (insC (l.map (shiftI p))) ∧ Below w.heap.size w w'
set_option maxRecDepth 100000 in
set_option maxHeartbeats 2000000 in
theorem block_of (HJ : Hid (∀ (o : Int) (w : World), 0 ≤ o → o ≤ 255 → Calls Try.prog 80 #[.int .u8 o] w fun e w' => e = .returned (.bool (jumpB o)) ∧ Below w.heap.size w w'))
    (p : Int) (p0 : 0 ≤ p) (p1 : p ≤ 64) (l : List (Int × Int × Int)) (hl : 0 < l.length) (hl2 : l.length ≤ 64) (hf : ∀ x ∈ l, 0 ≤ x.1 ∧ x.1 ≤ 255 ∧ 0 ≤ x.2.1 ∧ x.2.1 ≤ 1000) (b off c : Nat) (w : World)
    (hc : ∀ j u, (insC l)[j]? = some u → w.cell? ((⟨b, off, none⟩ : Addr).add j) = some u) :
    Calls Try.prog 60 #[.int .i64 p, .slice (some ⟨b, off, none⟩) l.length c] w (BlockPost p l w) := by
  by_cases hlong : 64 < p + (l.length : Int)
  · have G : ∀ e w', (e = .returned (.tuple #[.slice none 0 0, .int .i64 4]) ∧ Below w.heap.size w w') → BlockPost p l w e w' := fun e w' h => by unfold BlockPost; rw [if_pos hlong]; exact h
    have HG := Lib.hid G
    clear hc hf G
    go_enter Try.func60, Try.ntmps60
    go_wp2
    go_ret2
    exact HG.out _ _ ⟨rfl, Below.refl _ _⟩
  · have G : ∀ e w', (∃ v, e = .returned (.tuple #[v, .int .i64 0]) ∧ w'.ownsRow w.heap.size 35 3 v l.length (insC (l.map (shiftI p))) ∧ Below w.heap.size w w') → BlockPost p l w e w' := fun e w' h => by unfold BlockPost; rw [if_neg hlong]; exact h
    have HG := Lib.hid G
    have HF := Lib.hid hf
    have hsl := slice_none_room ⟨b, off, none⟩ l.length c w
    have hinf : (Try.prog.info? 35).map (fun i => (i.zero, i.size, i.bytes)) = some (some (.agg #[(.int .u8 0), (.int .i64 0), (.int .u64 0)]), 3, 24) := by kernel_rfl
    obtain ⟨i0, hi, hz0, hz1, hz2⟩ := info_parts hinf
    have HC := Lib.hid hc
    clear hc hf G hinf
    have HI := Lib.hid hi
    have HZ0 := Lib.hid hz0
    have HZ1 := Lib.hid hz1
    have HZ2 := Lib.hid hz2
    clear hi hz0 hz1 hz2
    go_enter Try.func60, Try.ntmps60
    go_wp2_with (at_builtin; refine wpList_append_grows w rfl (.tmp 14) (.tmp 15) 22 rfl 35 i0 _ 3 24 Try.underlying22 HI.out HZ0.out HZ1.out HZ2.out rfl (by decide) (some ⟨b, off, none⟩) 0 0 [] rfl (by intro h; cases h) rfl (fun b hb j u hj => by simp at hj) ⟨b, off, none⟩ l.length c (insC l) rfl (insC_len l) HC.out (insC_one l) (by omega) (by unfold maxLen; omega) (by omega) ?_; intro v' w1 hown hgrow; have hbel : Below w.heap.size w w1 := (Below.refl _ _).grown hgrow (Nat.le_refl _) (fun k h => by cases h); simp only [Nat.zero_add, List.nil_append] at hown; obtain ⟨g, cap, cur, rfl, hg, hcap, hcapm, HH, HCU, HT⟩ := own_parts hown hl; clear hown hgrow hsl)
    go_loopw [19] (fun i wr => ∃ (k : Nat) (C : Array Value), k ≤ l.length ∧ i = .int .i64 k ∧ Hid (wr.heap[g]? = some (.cells C 35 (0, 0))) ∧ Hid (C.size = cap * 3) ∧ Hid (C.toList.take (l.length * 3) = insC (shifted p l k)) ∧ Below w.heap.size w wr) (fun i _ => l.length - (intOf i).toNat)
    case atStart => exact ⟨0, cur, by omega, rfl, HH, HCU, by show _ = _; rw [shifted_zero]; exact HT.out, hbel⟩
    case round =>
      obtain ⟨k, C, hk, rfl, h1, h2, h3, h4⟩ := hrel
      by_cases hlt : k < l.length
      · obtain ⟨x, hx⟩ : ∃ x, x = l[k] := ⟨_, rfl⟩
        have hxl : (shifted p l k)[k]? = some x := by rw [shifted_at p l k hlt, hx]; simp
        have hcells := insC_at _ _ _ hxl
        rw [← h3.out] at hcells
        have hin := HF.out x (by rw [hx]; exact List.getElem_mem hlt)
        obtain ⟨i0', i1', i2', i3'⟩ := hin
        have cellat : ∀ (W : World) (j : Nat) (u : Value), W.heap[g]? = some (.cells C 35 (0, 0)) → (C.toList.take (l.length * 3))[j]? = some u → W.cell? ⟨g, j, none⟩ = some u ∧ W.frozen? ⟨g, j, none⟩ = false := by
          intro W j u hW hu
          have hu' : C[j]? = some u := by
            rw [List.getElem?_take] at hu
            split at hu
            · simpa using hu
            · cases hu
          exact ⟨by simp [World.cell?, hW, hu'], by simp [World.frozen?, hW]⟩
        obtain ⟨c0, _⟩ := cellat _ _ _ h1.out hcells.1
        have HX := Lib.hid hx
        have HCE := Lib.hid hcells
        have HCA := Lib.hid cellat
        have HXL := Lib.hid hxl
        clear hx hcells cellat hxl
        have hsz : g < wr.heap.size := by
          have := h1.out
          rw [Array.getElem?_eq_some_iff] at this
          exact this.1
        cases hj : jumpB x.1
        · have HJX := Lib.hid hj
          have HS := Lib.hid (show shifted p l (k + 1) = shifted p l k by
            rw [shifted_succ p l k hlt, ← HX.out]
            unfold shiftI
            rw [hj, cond_false]
            have e := HXL.out
            rw [List.getElem?_eq_some_iff] at e
            obtain ⟨e1, e2⟩ := e
            rw [← e2, List.set_getElem_self])
          clear hj
          go_wp2_with (go_at_call 80; refine (HJ.out _ _ (by assumption) (by assumption)).mono ?_; rintro e w2 ⟨rfl, hb2⟩; rw [HJX.out])
          go_roundw
          case rel => exact ⟨k + 1, C, by omega, by go_num, (hb2.block g hsz).trans h1.out, h2, by show _ = _; rw [HS.out]; exact h3.out, h4.trans (hb2.mono h4.size)⟩
          case measure => simp [intOf]; omega
        · have HJX := Lib.hid hj
          have HS := Lib.hid (show insC (shifted p l (k + 1)) = (insC (shifted p l k)).set (k * 3 + 1) (.int .i64 (x.2.1 + p)) by
            rw [shifted_succ p l k hlt, ← HX.out]
            unfold shiftI
            rw [hj, cond_true]
            exact insC_set _ k x _ HXL.out)
          clear hj
          go_wp2_with (go_at_call 80; refine (HJ.out _ _ (by assumption) (by assumption)).mono ?_; rintro e w2 ⟨rfl, hb2⟩; rw [HJX.out]; have h1' := Lib.hid ((hb2.block g hsz).trans h1.out); obtain ⟨c1, f1⟩ := HCA.out w2 _ _ h1'.out HCE.out.2.1)
          go_roundw
          case rel =>
            refine ⟨k + 1, C.setIfInBounds (k * 3 + 1) (.int .i64 (x.2.1 + p)), by omega, by go_num, ?_, ?_, ?_, (h4.trans (hb2.mono h4.size)).setCell hg _⟩
            · show _ = _
              simp only [World.setCell, Array.getElem?_modify, if_true]
              rw [h1'.out]
              rfl
            · show _ = _
              rw [Array.size_setIfInBounds]
              exact h2.out
            · show _ = _
              rw [Array.toList_setIfInBounds, List.take_set, h3.out, HS.out]
          case measure => simp [intOf]; omega
      · have hk' : k = l.length := by omega
        have HE := Lib.hid (show C.toList.take (l.length * 3) = insC (l.map (shiftI p)) by rw [h3.out, hk', shifted_all])
        clear hk'
        go_wp2
        go_ret2
        exact HG.out _ _ ⟨_, rfl, ⟨by rw [insC_len, List.length_map], .inr ⟨g, cap, C, rfl, hg, h1.out, hcap, by unfold maxLen; omega, h2.out, HE.out⟩⟩, h4⟩

end Go.Proofs.Ytcjkpeojjonpiaa
