
/-
  rowlockref22: O, P, place, At.
-/
import Derived.Test.YtmmfadakhnagpaaFl6
import Derived.Test.YtmmfadakhnagpaaRowi
import Derived.Deep.LoopGhost
import Derived.Deep.CutBlock
import Derived.LoopTactic
import Derived.Handy
namespace Go.Proofs.Ytmmfadakhnagpaa
open Go.RowKit Go.ChangeShapes Go.WideShapes
set_option linter.unusedSimpArgs false
set_option linter.unusedVariables false

set_option maxHeartbeats 4000000 in
theorem refO_any (op x : Int) (w : World) : Calls Try.prog 29 #[.int .u8 op, .int .i64 x] w fun e w' => e = .returned (.agg #[.int .u8 op, .int .i64 x, .int .u64 0]) ∧ Below w.heap.size w w' := by
  go_enter Try.func29, Try.ntmps29
  go_wp2_with fail
  refine bodyPost_ret (by simp [results, Try.results29, go_sem]; try rfl) rfl ?_
  exact ⟨rfl, (Below.refl _ _).alloc (Nat.le_refl _) _⟩
set_option maxHeartbeats 4000000 in
theorem refP_any (n : Int) (w : World) : Calls Try.prog 28 #[.int .i64 n] w fun e w' => e = .returned (.agg #[.int .u8 1, .int .i64 0, .int .u64 (intV n)]) ∧ Below w.heap.size w w' := by
  go_enter Try.func28, Try.ntmps28
  go_wp2_with (go_at_call 71; refine (refInt_any n _).mono ?_; rintro e w' ⟨rfl, rfl⟩)
  refine bodyPost_ret (by simp [results, Try.results28, go_sem]; try rfl) rfl ?_
  exact ⟨rfl, (Below.refl _ _).alloc (Nat.le_refl _) _⟩
def plcB (op : Int) : Bool := op == 21 || (op == 23 || (op == 24 || (op == 19 || op == 20)))
def atI (at' : Int) (x : Ins3) : Ins3 := bif plcB x.op then ⟨x.op, x.arg + at', x.val⟩ else x
def blkA (l : List Ins3) (at' : Int) : Int × List Ins3 := if at' + l.length > 64 then (4, []) else (0, l.map (atI at'))
set_option maxHeartbeats 4000000 in
theorem place_any (op : Int) (w : World) : Calls Try.prog 107 #[.int .u8 op] w fun e w' => e = .returned (.bool (plcB op)) ∧ w = w' := by
  cases h1 : (op == 21) <;> cases h2 : (op == 23) <;> cases h3 : (op == 24) <;> cases h4 : (op == 19) <;> cases h5 : (op == 20)
  all_goals
    have E := Lib.hid (show plcB op = _ by unfold plcB; rw [h1, h2, h3, h4, h5])
    go_enter Try.func107, Try.ntmps107
    go_wp2_with fail
    go_ret
    exact ⟨by rw [E.out]; rfl, rfl⟩
theorem RI.set {W w : World} {A : Option Addr} {c : Nat} {l : List Ins3} (h : RI W w A c l) {g o : Nat} (hn : iblk A ≠ some g) (hg : W.heap.size ≤ g) (v : Value) : RI W (w.setCell ⟨g, o, none⟩ v) A c l := by
  have hgb : w.grownBy (w.setCell ⟨g, o, none⟩ v) (some g) := ⟨rfl, rfl, rfl, (KeepsWalks.setCell w _ v).size, fun k _ hk => Below.heap_setCell _ _ _ k (fun e => hk (by rw [e]))⟩
  refine ⟨⟨h.row.1.kept hgb ?_, h.row.2⟩, h.bl.grown hgb h.bl.size (fun k hk => by cases hk; exact hg)⟩
  rw [iblk_own]
  exact .inr (fun e => hn e)
set_option maxRecDepth 20000 in
set_option maxHeartbeats 16000000 in
theorem refAt_any (l : List Ins3) (hl : l.length ≤ 100) (hok : ∀ x ∈ l, x.ok) (har : ∀ x ∈ l, plcB x.op = true → 0 ≤ x.arg ∧ x.arg ≤ 1000) (at' : Int) (hat : 0 ≤ at' ∧ at' ≤ 100) (A : Option Addr) (c : Nat) (W : World) (hs : InssAt W A l) :
    Calls Try.prog 90 #[.int .i64 at', .slice A l.length c] W (FPost W (blkA l at')) := by
  have HS := Lib.hid hs
  have HO := Lib.hid hok
  have HA := Lib.hid har
  have HT := Lib.hid hat
  have HL := Lib.hid hl
  obtain ⟨q64, e64⟩ : ∃ q, wrap64 (64 - at') = q := ⟨_, rfl⟩
  have Q64 : q64 = 64 - at' := by rw [← e64]; unfold wrap64; omega
  by_cases ht : (l.length : Int) > q64
  · have t1 : decide ((l.length : Int) > q64) = true := decide_eq_true ht
    have t2 : decide (q64 < (l.length : Int)) = true := t1
    have E := Lib.hid (show blkA l at' = (4, []) by unfold blkA; rw [if_pos (by omega)])
    clear hs hok har hat hl ht Q64
    go_enter Try.func90, Try.ntmps90
    go_wp2_with fail
    go_ret2
    rw [E.out]
    exact FPost.err _ _
  · have t1 : decide ((l.length : Int) > q64) = false := decide_eq_false ht
    have t2 : decide (q64 < (l.length : Int)) = false := t1
    obtain ⟨m, hm⟩ : ∃ m, l.map (atI at') = m := ⟨_, rfl⟩
    have E := Lib.hid (show blkA l at' = (0, m) by unfold blkA; rw [if_neg (by omega), hm])
    have HM := Lib.hid hm
    clear hs hok har hat hl ht hm Q64
    go_enter Try.func90, Try.ntmps90
    go_wp2_with fail
    simp only [e64]
    clear e64
    go_loopg [6, 7] l.length (fun gm s6 s7 wx => ∃ (j : Nat) (p : List Ins3) (A' : Option Addr) (c' : Nat), j ≤ l.length ∧ gm = l.length - j ∧ s7 = .int .i64 j ∧ s6 = .slice A' p.length c' ∧ Hid (p = m.take j) ∧ Hid (RI W wx A' c' p))
    case atStart => exact ⟨0, [], none, 0, Nat.zero_le _, rfl, rfl, rfl, Lib.hid (by simp), Lib.hid (RI.nil _)⟩
    case round =>
      obtain ⟨j, p, A', c', hj, rfl, rfl, rfl, HP, HR⟩ := hrel
      by_cases hlt : j < l.length
      · have s1 : decide ((j : Int) < (l.length : Int)) = true := decide_eq_true (by omega)
        have s2 : decide (j < l.length) = true := decide_eq_true hlt
        have s3 : (j : Int) < (l.length : Int) := by omega
        have s4 : (0 : Int) ≤ (j : Int) := by omega
        have s5 : wrap64 ((j : Int) + 1) = (j : Int) + 1 := by have := HL.out; unfold wrap64; omega
        obtain ⟨ad, rfl, _⟩ := xn_at HS.out hlt
        have hx3 := xn_some (inss_below HS.out HR.out.bl) hlt
        have hmem : xn l j ∈ l := List.mem_of_getElem? (xn_get hlt)
        have hgm : m[j]? = some (atI at' (xn l j)) := by rw [← HM.out, List.getElem?_map, xn_get hlt]; rfl
        have htk : p ++ [atI at' (xn l j)] = m.take (j + 1) := by rw [HP.out, List.take_add_one, hgm]; rfl
        have HTK := Lib.hid htk
        have HOK := Lib.hid (HO.out _ hmem)
        have HAR := Lib.hid (HA.out _ hmem)
        obtain ⟨x, hxx⟩ : ∃ x, xn l j = x := ⟨_, rfl⟩
        rw [hxx] at hx3 HTK HOK HAR
        obtain ⟨op, ar, vl⟩ := x
        obtain ⟨_, x0, x1, x2⟩ := hx3
        dsimp only at x0 x1 x2
        have la := World.block_lt_of_cell? wr _ x0
        have HLT := Lib.hid hlt
        have HPL := Lib.hid (show p.length = j by rw [HP.out, List.length_take, ← HM.out, List.length_map]; omega)
        clear hmem hgm htk hxx hlt hj HP
        go_upto_region 8 with fail
        have XC := Lib.hid (heap_alloc_new wr (.cells #[.int .u8 op, .int .i64 ar, .int .u64 vl] 64))
        have RC := Lib.hid (HR.out.alloc (.cells #[.int .u8 op, .int .i64 ar, .int .u64 vl] 64))
        have XNE := Lib.hid (show iblk A' ≠ some wr.heap.size ∧ W.heap.size ≤ wr.heap.size from ⟨fun e => by have := (nrow_lt HR.out.row _ e).2; omega, HR.out.bl.size⟩)
        clear x0 x1 x2 la HR
        generalize wr.alloc _ = w3 at XC RC ⊢
        obtain ⟨xb, hxb⟩ : ∃ b, wr.heap.size = b := ⟨_, rfl⟩
        rw [hxb] at XC XNE ⊢
        clear hxb
        have x0 : w3.cell? ⟨xb, 0, none⟩ = some (.int .u8 op) := hp_cell XC.out 0
        have x1 : w3.cell? ⟨xb, 1, none⟩ = some (.int .i64 ar) := hp_cell XC.out 1
        have x2 : w3.cell? ⟨xb, 2, none⟩ = some (.int .u64 vl) := hp_cell XC.out 2
        have xz0 := hp_frozen XC.out 0
        have xz1 := hp_frozen XC.out 1
        have xz2 := hp_frozen XC.out 2
        have xl := hp_lt XC.out
        cases hpl : plcB op
        · have HPL' := Lib.hid (fun w => by have := place_any op w; rw [hpl] at this; exact this)
          have HQ := Lib.hid (show atI at' ⟨op, ar, vl⟩ = ⟨op, ar, vl⟩ by unfold atI; dsimp only; rw [hpl]; rfl)
          clear hpl
          rw [HQ.out] at HTK
          obtain ⟨p1, hp1⟩ : ∃ p1, p ++ [⟨op, ar, vl⟩] = p1 := ⟨_, rfl⟩
          have HP1 := Lib.hid hp1
          go_wp2_with (first | (go_at_call 107; refine (HPL'.out _).mono ?_; rintro e w' ⟨rfl, rfl⟩) | (at_builtin; refine append_inss rfl (.tmp 32) (.tmp 34) rfl W.heap.size (.slice A' p.length c') p rfl (RC.out.alloc (.cells (insC [⟨op, ar, vl⟩]).toArray 64)).row.1 RC.out.row.2 ⟨w3.heap.size, 0, none⟩ 1 1 [⟨op, ar, vl⟩] rfl rfl (made_cells w3 [⟨op, ar, vl⟩]) (fun y hy => by rw [List.mem_singleton.1 hy]; exact HOK.out) (by have := HPL.out; have := HLT.out; have := HL.out; simp; omega) (RC.out.alloc _).bl.size p1 HP1.out ?_; intro A3 c3 w5 hr hg; have R5 := Lib.hid ((RC.out.alloc _).more hr hg); clear hr hg))
          go_roundg (l.length - (j + 1))
          case measure => have := HLT.out; omega
          case rel => exact ⟨j + 1, p1, A3, c3, HLT.out, rfl, by first | rfl | (rw [s5]; rfl), rfl, Lib.hid (by rw [← HP1.out]; exact HTK.out), R5⟩
        · have HPL' := Lib.hid (fun w => by have := place_any op w; rw [hpl] at this; exact this)
          have HQ := Lib.hid (show atI at' ⟨op, ar, vl⟩ = ⟨op, ar + at', vl⟩ by unfold atI; dsimp only; rw [hpl]; rfl)
          have ew : wrap64 (ar + at') = ar + at' := by have h9 : 0 ≤ ar ∧ ar ≤ 1000 := HAR.out hpl; have := HT.out; unfold wrap64; omega
          have HOK2 := Lib.hid (show (⟨op, ar + at', vl⟩ : Ins3).ok from ⟨HOK.out.1, by have h9 : 0 ≤ ar ∧ ar ≤ 1000 := HAR.out hpl; have := HT.out; constructor <;> (dsimp only; omega), HOK.out.2.2⟩)
          clear hpl HAR
          rw [HQ.out] at HTK
          go_upto_region 10 with (go_at_call 107; refine (HPL'.out _).mono ?_; rintro e w' ⟨rfl, rfl⟩)
          have XD := Lib.hid (hp_put (cs' := #[.int .u8 op, .int .i64 (ar + at'), .int .u64 vl]) XC.out 1 (.int .i64 (ar + at')) (by simp))
          have RD := Lib.hid (RC.out.set (o := 1) XNE.out.1 XNE.out.2 (.int .i64 (ar + at')))
          clear x0 x1 x2 xz0 xz1 xz2 xl XC RC
          generalize w3.setCell _ _ = w4 at XD RD ⊢
          have x0 : w4.cell? ⟨xb, 0, none⟩ = some (.int .u8 op) := hp_cell XD.out 0
          have x1 : w4.cell? ⟨xb, 1, none⟩ = some (.int .i64 (ar + at')) := hp_cell XD.out 1
          have x2 : w4.cell? ⟨xb, 2, none⟩ = some (.int .u64 vl) := hp_cell XD.out 2
          have xl := hp_lt XD.out
          obtain ⟨ar2, har2⟩ : ∃ b, ar + at' = b := ⟨_, rfl⟩
          rw [har2] at x1 HTK HOK2
          clear ew XD
          obtain ⟨p1, hp1⟩ : ∃ p1, p ++ [⟨op, ar2, vl⟩] = p1 := ⟨_, rfl⟩
          have HP1 := Lib.hid hp1
          clear har2
          go_wp2_with (at_builtin; refine append_inss rfl (.tmp 32) (.tmp 34) rfl W.heap.size (.slice A' p.length c') p rfl (RD.out.alloc (.cells (insC [⟨op, ar2, vl⟩]).toArray 64)).row.1 RD.out.row.2 ⟨w4.heap.size, 0, none⟩ 1 1 [⟨op, ar2, vl⟩] rfl rfl (made_cells w4 [⟨op, ar2, vl⟩]) (fun y hy => by rw [List.mem_singleton.1 hy]; exact HOK2.out) (by have := HPL.out; have := HLT.out; have := HL.out; simp; omega) (RD.out.alloc _).bl.size p1 HP1.out ?_; intro A3 c3 w5 hr hg; have R5 := Lib.hid ((RD.out.alloc _).more hr hg); clear hr hg)
          go_roundg (l.length - (j + 1))
          case measure => have := HLT.out; omega
          case rel => exact ⟨j + 1, p1, A3, c3, HLT.out, rfl, by first | rfl | (rw [s5]; rfl), rfl, Lib.hid (by rw [← HP1.out]; exact HTK.out), R5⟩
      · obtain rfl : j = l.length := by omega
        have s1 : decide ((l.length : Int) < (l.length : Int)) = false := decide_eq_false (by omega)
        have s2 : decide (l.length < l.length) = false := decide_eq_false (by omega)
        have HPM := Lib.hid (show p = m by rw [HP.out, ← HM.out, List.take_of_length_le (by simp)])
        go_wp2_with fail
        go_ret2
        rw [E.out, ← HPM.out]
        exact ⟨A', c', rfl, HR.out.row, HR.out.bl⟩
end Go.Proofs.Ytmmfadakhnagpaa
