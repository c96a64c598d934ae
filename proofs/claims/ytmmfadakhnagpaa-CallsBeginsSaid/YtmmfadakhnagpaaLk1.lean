
/-
  locks: number, op, with, jumps, may, block.
-/
import Derived.Test.YtmmfadakhnagpaaCl0
import Derived.ArgAppend
import Derived.Deep.LoopGhost
import Derived.Deep.CutBlock
import Derived.LoopTactic
import Derived.Handy
namespace Go.Proofs.Ytmmfadakhnagpaa
open Go.RowKit Go.ChangeShapes Go.WideShapes
set_option linter.unusedSimpArgs false
set_option linter.unusedVariables false

set_option maxHeartbeats 4000000 in
theorem lwith_any (op x : Int) (w : World) : Calls Try.prog 81 #[.int .u8 op, .int .i64 x] w fun e w' => e = .returned (.agg #[.int .u8 op, .int .i64 x, .int .u64 0]) ∧ Below w.heap.size w w' := by
  go_enter Try.func81, Try.ntmps81
  go_wp2_with fail
  refine bodyPost_ret (by simp [results, Try.results81, go_sem]; try rfl) rfl ?_
  exact ⟨rfl, (Below.refl _ _).alloc (Nat.le_refl _) _⟩
set_option maxHeartbeats 4000000 in
theorem lop_any (op : Int) (w : World) : Calls Try.prog 82 #[.int .u8 op] w fun e w' => e = .returned (.agg #[.int .u8 op, .int .i64 0, .int .u64 0]) ∧ Below w.heap.size w w' := by
  go_enter Try.func82, Try.ntmps82
  go_wp2_with fail
  refine bodyPost_ret (by simp [results, Try.results82, go_sem]; try rfl) rfl ?_
  exact ⟨rfl, (Below.refl _ _).alloc (Nat.le_refl _) _⟩
set_option maxHeartbeats 4000000 in
theorem lnum_any (n : Int) (w : World) : Calls Try.prog 83 #[.int .i64 n] w fun e w' => e = .returned (.agg #[.int .u8 1, .int .i64 0, .int .u64 (intV n)]) ∧ Below w.heap.size w w' := by
  go_enter Try.func83, Try.ntmps83
  go_wp2_with (go_at_call 34; refine (int_any n _).mono ?_; rintro e w7 ⟨rfl, rfl⟩)
  refine bodyPost_ret (by simp [results, Try.results83, go_sem]; try rfl) rfl ?_
  exact ⟨rfl, (Below.refl _ _).alloc (Nat.le_refl _) _⟩
def jmpI (op : Int) : Bool := op == 21 || (op == 19 || op == 20)
theorem jmp_arg {op : Int} (h : jmpI op = true) : argB op = true := by
  unfold jmpI at h
  simp at h
  rcases h with rfl | rfl | rfl <;> decide
set_option maxHeartbeats 4000000 in
theorem jumps_any (op : Int) (h0 : 0 ≤ op ∧ op ≤ 255) (w : World) : Calls Try.prog 104 #[.int .u8 op] w fun e w' => e = .returned (.bool (jmpI op)) ∧ Below w.heap.size w w' := by
  cases hj : jmpI op
  · have h := hj
    unfold jmpI at h
    simp only [Bool.or_eq_false_iff] at h
    obtain ⟨h1, h2, h3⟩ := h
    clear hj h0
    go_enter Try.func104, Try.ntmps104
    go_wp2_with fail
    go_ret
    exact ⟨rfl, Below.refl _ _⟩
  · have ha := jmp_arg hj
    have HU := Lib.hid (fun w => by have := uses_any op h0.1 h0.2 w; rw [ha] at this; exact this)
    have h := hj
    unfold jmpI at h
    clear hj ha h0
    cases h1 : (op == 21) <;> cases h2 : (op == 19) <;> cases h3 : (op == 20)
    all_goals rw [h1, h2, h3] at h
    all_goals first | (exact absurd h (by decide)) | skip
    all_goals clear h
    all_goals
      go_enter Try.func104, Try.ntmps104
      go_wp2_with (go_at_call 110; refine (HU.out _).mono ?_; rintro e w7 ⟨rfl, hb⟩; have HB := Lib.hid hb; clear hb)
      go_ret
      exact ⟨rfl, HB.out⟩
set_option maxHeartbeats 4000000 in
theorem lmay_any (at' tv who : Int) (w : World) : Calls Try.prog 79 #[.int .i64 at', .int .i64 tv, .int .i64 who] w fun e w' => e = .returned (.bool (mayL at' tv who)) ∧ w = w' := by
  unfold mayL
  cases h0 : decide (0 ≤ at')
  · have g0 : decide (at' ≥ 0) = false := h0
    go_enter Try.func79, Try.ntmps79
    go_wp2_with fail
    go_ret
    exact ⟨rfl, rfl⟩
  · have g0 : decide (at' ≥ 0) = true := h0
    cases h1 : decide (at' ≤ 64)
    · go_enter Try.func79, Try.ntmps79
      go_wp2_with fail
      go_ret
      exact ⟨rfl, rfl⟩
    · skip
      cases h2 : decide (0 ≤ tv)
      · have g2 : decide (tv ≥ 0) = false := h2
        go_enter Try.func79, Try.ntmps79
        go_wp2_with fail
        go_ret
        exact ⟨rfl, rfl⟩
      · have g2 : decide (tv ≥ 0) = true := h2
        cases h3 : decide (tv < 12)
        · go_enter Try.func79, Try.ntmps79
          go_wp2_with fail
          go_ret
          exact ⟨rfl, rfl⟩
        · skip
          cases h4 : decide (0 ≤ who)
          · have g4 : decide (who ≥ 0) = false := h4
            go_enter Try.func79, Try.ntmps79
            go_wp2_with fail
            go_ret
            exact ⟨rfl, rfl⟩
          · have g4 : decide (who ≥ 0) = true := h4
            cases h5 : decide (who < 4)
            · go_enter Try.func79, Try.ntmps79
              go_wp2_with fail
              go_ret
              exact ⟨rfl, rfl⟩
            · skip
              go_enter Try.func79, Try.ntmps79
              go_wp2_with fail
              go_ret
              exact ⟨rfl, rfl⟩
theorem insC_set : ∀ (l : List Ins3) (j : Nat) (a : Int), j < l.length → insC (l.set j ⟨(xn l j).op, a, (xn l j).val⟩) = (insC l).set (j * 3 + 1) (.int .i64 a)
  | [], _, _, h => absurd h (Nat.not_lt_zero _)
  | x :: l, 0, a, _ => rfl
  | x :: l, j + 1, a, h => by
    have ih := insC_set l j a (Nat.lt_of_succ_lt_succ h)
    have e : (j + 1) * 3 + 1 = (j * 3 + 1) + 3 := by omega
    rw [e]
    show inC x ++ insC (l.set j ⟨(xn l j).op, a, (xn l j).val⟩) = (inC x ++ insC l).set ((j * 3 + 1) + 3) _
    rw [ih]
    rfl
theorem nrow_seta {w : World} {base c g j : Nat} {l : List Ins3} (h : NRow w base (some ⟨g, 0, none⟩) c l) (hj : j < l.length) (a : Int) (ha : I64 a) : NRow (w.setCell ⟨g, j * 3 + 1, none⟩ (.int .i64 a)) base (some ⟨g, 0, none⟩) c (l.set j ⟨(xn l j).op, a, (xn l j).val⟩) := by
  obtain ⟨⟨h1, h2⟩, h3⟩ := h
  have hx := h3 _ (List.mem_of_getElem? (xn_get hj))
  refine ⟨⟨by rw [insC_len], ?_⟩, fun s hs => ?_⟩
  · right
    rcases h2 with ⟨hv, _⟩ | ⟨g', cap, cur, hv, hb, hg, hcap, hm, hs, ht⟩
    · cases hv
    · simp only [Value.slice.injEq, Option.some.injEq, Addr.mk.injEq] at hv
      obtain ⟨⟨rfl, _⟩, _, rfl⟩ := hv
      refine ⟨g, c, cur.setIfInBounds (j * 3 + 1) (.int .i64 a), by rw [List.length_set], hb, hp_put hg _ _ rfl, by rw [List.length_set]; exact hcap, hm, by rw [Array.size_setIfInBounds]; exact hs, ?_⟩
      rw [insC_set l j a hj, ← ht, List.length_set, Array.toList_setIfInBounds, List.take_set]
  · rcases List.mem_or_eq_of_mem_set hs with h | rfl
    · exact h3 s h
    · exact ⟨hx.1, ha, hx.2.2⟩
theorem nrow_frozen {w : World} {base c g k : Nat} {l : List Ins3} (h : NRow w base (some ⟨g, 0, none⟩) c l) : w.frozen? ⟨g, k, none⟩ = false := by
  rcases h.1.2 with ⟨hv, _⟩ | ⟨g', cap, cur, hv, hb, hg, _⟩
  · cases hv
  · simp only [Value.slice.injEq, Option.some.injEq, Addr.mk.injEq] at hv
    obtain ⟨⟨rfl, _⟩, _⟩ := hv
    exact hp_frozen hg k
def atJ (at' : Int) (x : Ins3) : Ins3 := bif jmpI x.op then ⟨x.op, x.arg + at', x.val⟩ else x
def blkJ (l : List Ins3) (at' : Int) : Int × List Ins3 := if at' + l.length > 64 then (4, []) else (0, l.map (atJ at'))
theorem mix_at (f : Ins3 → Ins3) (l : List Ins3) {j : Nat} (hj : j < l.length) : xn ((l.map f).take j ++ l.drop j) j = xn l j := by
  unfold xn
  rw [List.getElem?_append_right (by simp; omega), List.length_take, List.length_map, List.getElem?_drop]
  rw [show j + (j - min j l.length) = j by omega]
theorem mix_set (f : Ins3 → Ins3) (l : List Ins3) {j : Nat} (hj : j < l.length) (y : Ins3) (hy : f (xn l j) = y) : ((l.map f).take j ++ l.drop j).set j y = (l.map f).take (j + 1) ++ l.drop (j + 1) := by
  have hm : (l.map f)[j]? = some y := by rw [List.getElem?_map, xn_get hj, ← hy]; rfl
  rw [List.set_append_right _ _ (by simp; omega), List.length_take, List.length_map, show j - min j l.length = 0 by omega, List.take_add_one, hm, List.drop_eq_getElem_cons hj, List.append_assoc]
  rfl
theorem mix_same (f : Ins3 → Ins3) (l : List Ins3) {j : Nat} (hj : j < l.length) (hy : f (xn l j) = xn l j) : (l.map f).take j ++ l.drop j = (l.map f).take (j + 1) ++ l.drop (j + 1) := by
  have hm : (l.map f)[j]? = some (xn l j) := by rw [List.getElem?_map, xn_get hj]; simp [hy]
  rw [List.take_add_one, hm, List.drop_eq_getElem_cons hj]
  have : l[j] = xn l j := by have := xn_get hj; rw [List.getElem?_eq_getElem hj] at this; exact Option.some.inj this
  simp [this]
theorem mix_len (f : Ins3 → Ins3) (l : List Ins3) (j : Nat) (hj : j ≤ l.length) : ((l.map f).take j ++ l.drop j).length = l.length := by simp; omega
set_option maxRecDepth 20000 in
set_option maxHeartbeats 16000000 in
theorem lblock_any (l : List Ins3) (hl : l.length ≤ 100) (h1 : 1 ≤ l.length) (hok : ∀ x ∈ l, x.ok) (har : ∀ x ∈ l, jmpI x.op = true → 0 ≤ x.arg ∧ x.arg ≤ 1000) (at' : Int) (hat : 0 ≤ at' ∧ at' ≤ 100) (A : Option Addr) (c : Nat) (W : World) (hs : InssAt W A l) (hc : l.length ≤ c) :
    Calls Try.prog 80 #[.int .i64 at', .slice A l.length c] W (FPost W (blkJ l at')) := by
  have HS := Lib.hid hs
  have HO := Lib.hid hok
  have HA := Lib.hid har
  have HT := Lib.hid hat
  have HL := Lib.hid hl
  have H1 := Lib.hid h1
  obtain ⟨q, e64⟩ : ∃ q, wrap64 (at' + (l.length : Int)) = q := ⟨_, rfl⟩
  have Q64 : q = at' + l.length := by rw [← e64]; unfold wrap64; omega
  by_cases ht : q > 64
  · have t1 : decide (q > 64) = true := decide_eq_true ht
    have t2 : decide (64 < q) = true := t1
    have E := Lib.hid (show blkJ l at' = (4, []) by unfold blkJ; rw [if_pos (by omega)])
    clear hs hok har hat hl ht Q64 h1 hc
    go_enter Try.func80, Try.ntmps80
    go_wp2_with fail
    go_ret2
    rw [E.out]
    exact FPost.err _ _
  · have t1 : decide (q > 64) = false := decide_eq_false ht
    have t2 : decide (64 < q) = false := t1
    obtain ⟨m, hm⟩ : ∃ m, l.map (atJ at') = m := ⟨_, rfl⟩
    have E := Lib.hid (show blkJ l at' = (0, m) by unfold blkJ; rw [if_neg (by omega), hm])
    have HM := Lib.hid hm
    obtain ⟨ad, rfl, _⟩ := xn_at HS.out (j := 0) (by omega)
    obtain ⟨g0, o0, sp0⟩ := ad
    have hsp : sp0 = none := World.cell?_spot (xn_some HS.out (j := 0) (by omega)).2.1
    subst hsp
    have LA := World.block_lt_of_cell? W _ (xn_some HS.out (j := 0) (by omega)).2.1
    obtain ⟨i0, hi, hz0, hz1, hz2⟩ := info_parts Ins_info
    clear hs hok har hat ht hm Q64 hc
    go_enter Try.func80, Try.ntmps80
    go_upto_region 4 with (at_builtin; refine wpList_append_grows _ rfl (.tmp 14) (.tmp 15) 25 rfl 64 i0 _ 3 24 Try.underlying25 hi hz0 hz1 hz2 rfl (by decide) (some ⟨g0, o0, none⟩) 0 0 [] rfl (fun e => by cases e) rfl (fun b hb j u hu => by simp at hu) ⟨g0, o0, none⟩ l.length c (insC l) rfl (insC_len l) (inss_cells HS.out) (insC_one l) (by have := H1.out; omega) (by have := HL.out; unfold maxLen; omega) (by have := HL.out; omega) ?_; intro v5 w5 hr hg; have R5 := Lib.hid hr; have G5 := Lib.hid hg; clear hr hg)
    obtain ⟨A5, c5, rfl, hr5⟩ := nrow_of (base := W.heap.size) (l := l) (by simpa using R5.out) HO.out
    obtain ⟨g, rfl⟩ := nrow_g hr5 (by have := H1.out; omega)
    have RI5 : Hid (RI W w5 (some ⟨g, 0, none⟩) c5 l) := Lib.hid ⟨hr5, (Below.refl W.heap.size W).grown G5.out (Nat.le_refl _) (fun k hk => by cases hk)⟩
    clear hr5 R5 G5
    go_upto_region 5 with fail
    try simp only [e64]
    clear e64
    go_loopg [7, 19] l.length (fun gm s7 s19 wx => ∃ (j : Nat), j ≤ l.length ∧ gm = l.length - j ∧ s19 = .int .i64 j ∧ Hid (RI W wx (some ⟨g, 0, none⟩) c5 (m.take j ++ l.drop j)))
    case atStart => exact ⟨0, Nat.zero_le _, rfl, rfl, Lib.hid (by simpa using RI5.out)⟩
    case round =>
      clear RI5
      obtain ⟨j, hj, rfl, rfl, HR⟩ := hrel
      by_cases hlt : j < l.length
      · have s1 : decide ((j : Int) < (l.length : Int)) = true := decide_eq_true (by omega)
        have s2 : decide (j < l.length) = true := decide_eq_true hlt
        have s3 : (j : Int) < (l.length : Int) := by omega
        have s4 : (0 : Int) ≤ (j : Int) := by omega
        have s5 : wrap64 ((j : Int) + 1) = (j : Int) + 1 := by have := HL.out; unfold wrap64; omega
        have hlen := mix_len (atJ at') l j hj
        rw [HM.out] at hlen
        have hat' := mix_at (atJ at') l hlt
        rw [HM.out] at hat'
        have hx3 := xn_some (nrow_inss HR.out.row (by rw [hlen]; have := HL.out; omega)).1 (j := j) (by omega)
        rw [hat', add_at, Nat.zero_add] at hx3
        have hmem : xn l j ∈ l := List.mem_of_getElem? (xn_get hlt)
        have HOK := Lib.hid (HO.out _ hmem)
        have HAR := Lib.hid (HA.out _ hmem)
        have HSET := Lib.hid (fun y hy => by have := mix_set (atJ at') l hlt y hy; rw [HM.out] at this; exact this)
        have HSAME := Lib.hid (fun hy => by have := mix_same (atJ at') l hlt hy; rw [HM.out] at this; exact this)
        have HLEN := Lib.hid hlen
        have HXN := Lib.hid hat'
        obtain ⟨x, hxx⟩ : ∃ x, xn l j = x := ⟨_, rfl⟩
        rw [hxx] at hx3 HOK HAR HSET HSAME HXN
        obtain ⟨op, ar, vl⟩ := x
        obtain ⟨_, x0, x1, x2⟩ := hx3
        dsimp only at x0 x1 x2
        have la := World.block_lt_of_cell? wr _ x0
        have xz1 : wr.frozen? ⟨g, j * 3 + 1, none⟩ = false := nrow_frozen HR.out.row
        have HLT := Lib.hid hlt
        have HJ := Lib.hid (fun w => jumps_any op HOK.out.1 w)
        clear hmem hxx hlt hj hlen hat' x2
        cases hpl : jmpI op
        · have HJ' := Lib.hid (fun w => by have := HJ.out w; rw [hpl] at this; exact this)
          have HSM := Lib.hid (HSAME.out (by unfold atJ; dsimp only; rw [hpl]; rfl))
          clear hpl HJ HAR HSET HSAME
          go_wp2_with (go_at_call 104; refine (HJ'.out _).mono ?_; rintro e w7 ⟨rfl, hb⟩; have R7 := Lib.hid (RI.below HR.out hb); clear hb)
          go_roundg (l.length - (j + 1))
          case measure => have := HLT.out; omega
          case rel => exact ⟨j + 1, HLT.out, rfl, by first | rfl | (rw [s5]; rfl), Lib.hid (by rw [← HSM.out]; exact R7.out)⟩
        · have HJ' := Lib.hid (fun w => by have := HJ.out w; rw [hpl] at this; exact this)
          have ew : wrap64 (ar + at') = ar + at' := by have h9 : 0 ≤ ar ∧ ar ≤ 1000 := HAR.out hpl; have := HT.out; unfold wrap64; omega
          have HI := Lib.hid (show I64 (ar + at') by have h9 : 0 ≤ ar ∧ ar ≤ 1000 := HAR.out hpl; have := HT.out; constructor <;> omega)
          have HSM := Lib.hid (HSET.out ⟨op, ar + at', vl⟩ (by unfold atJ; dsimp only; rw [hpl]; rfl))
          clear hpl HJ HAR HSET HSAME
          obtain ⟨a2, ha2⟩ : ∃ a, ar + at' = a := ⟨_, rfl⟩
          rw [ha2] at HI HSM
          have ew2 : wrap64 (ar + at') = a2 := by rw [ew, ha2]
          clear ew ha2
          go_wp2_with (go_at_call 104; refine (HJ'.out _).mono ?_; rintro e w7 ⟨rfl, hb⟩; have R7 := Lib.hid (RI.below HR.out hb); have y1 : w7.cell? ⟨g, j * 3 + 1, none⟩ = some (.int .i64 ar) := (hb.cell (p := ⟨g, j * 3 + 1, none⟩) la).trans x1; have yz : w7.frozen? ⟨g, j * 3 + 1, none⟩ = false := nrow_frozen R7.out.row; have yl := World.block_lt_of_cell? w7 _ y1; clear hb x0 x1 xz1 la)
          have R8 : RI W (w7.setCell ⟨g, j * 3 + 1, none⟩ (.int .i64 a2)) (some ⟨g, 0, none⟩) c5 (m.take (j + 1) ++ l.drop (j + 1)) := by
            have hj3 : j < (m.take j ++ l.drop j).length := by rw [HLEN.out]; exact HLT.out
            have h := nrow_seta R7.out.row hj3 a2 HI.out
            rw [HXN.out, HSM.out] at h
            exact ⟨h, R7.out.bl.setCell (p := ⟨g, j * 3 + 1, none⟩) (nrow_lt R7.out.row g rfl).1 _⟩
          have R9 := Lib.hid R8
          clear R8
          go_roundg (l.length - (j + 1))
          case measure => have := HLT.out; omega
          case rel => exact ⟨j + 1, HLT.out, rfl, by first | rfl | (rw [s5]; rfl), R9⟩
      · obtain rfl : j = l.length := by omega
        have s1 : decide ((l.length : Int) < (l.length : Int)) = false := decide_eq_false (by omega)
        have s2 : decide (l.length < l.length) = false := decide_eq_false (by omega)
        have HRM := Lib.hid (show RI W wr (some ⟨g, 0, none⟩) c5 m by have := HR.out; rw [List.drop_length, List.append_nil, List.take_of_length_le (by rw [← HM.out]; simp)] at this; exact this)
        have HML := Lib.hid (show l.length = m.length by rw [← HM.out]; simp)
        clear HR
        go_wp2_with fail
        go_ret2
        rw [E.out]
        exact ⟨some ⟨g, 0, none⟩, c5, by rw [HML.out]; rfl, HRM.out.row, HRM.out.bl⟩
end Go.Proofs.Ytmmfadakhnagpaa
