
/-
  verify.Depths: the walk.
-/
import Derived.Test.YtbfjnanakmiaaaaVer6a
namespace Go.Proofs.Ytbfjnanakmiaaaa
open Go.RowKit Go.ChangeShapes Go.WideShapes
set_option linter.unusedSimpArgs false
set_option linter.unusedVariables false

set_option maxHeartbeats 16000000 in
set_option maxRecDepth 100000 in
theorem depths_any (l : List Ins3) (hl : l.length ≤ 100) (hl0 : 1 ≤ l.length) (hag : okReg l) (A : Option Addr) (c : Nat) (W : World) (HS : InssAt W A l) : Calls Try.prog 19 #[.slice A l.length c] W (DepPost l W) := by
  have HSh := Lib.hid HS
  clear HS
  have hm1 := run_make_row' (P := Try.prog) 47 3 (.int .i64 0) 8 Try.underlying47 Int_info rfl .i64 .i64 l.length (by omega) (by omega)
  have hm2 := run_make_row' (P := Try.prog) 65 4 (.bool false) 1 Try.underlying65 Bool_info rfl .i64 .i64 l.length (by omega) (by omega)
  obtain ⟨r, hr⟩ : ∃ r, regF l = r := ⟨_, rfl⟩
  have HRG := Lib.hid (fun W A c HS => regions_any l hl A c W HS)
  have HR := Lib.hid hr
  have hc : (r.2.2 == 0) = true ∨ ((r.2.2 == 0) = false ∧ (r.2.2 != 0) = true) := by
    cases h : r.2.2 == 0
    · exact .inr ⟨rfl, by simpa [bne] using h⟩
    · exact .inl rfl
  obtain ⟨d, hd⟩ : ∃ d, depsF l = d := ⟨_, rfl⟩
  have HD : Hid (d = bif r.2.2 == 0 then depF l (l.length + 1) (initN l.length) (List.replicate l.length false) else (r.2.1, r.2.2)) := Lib.hid (by rw [← hd]; unfold depsF; rw [hr])
  unfold DepPost
  rw [hd]
  clear hr hd
  obtain ⟨r1, r2, r3⟩ := r
  dsimp only at hc HD
  rcases hc with h1 | ⟨h1, h2⟩
  · have h1' : r3 = 0 := by simpa using h1
    subst h1'
    go_enter Try.func19, Try.ntmps19
    go_wp2_with fail
    refine wp_scope_jumps 0 (DepJ W l A c d) muF rfl ?_ ?_
    · go_wp2_with (first | (go_at_call 15; refine (HRG.out W A c HSh.out).mono ?_; rintro e w1 ⟨A1, c1, rfl, hr1, hb1⟩; rw [HR.out]; have B1 := Lib.hid hb1; clear hr1 hb1))
      go_region
      · have hX0 := flX_init1 (A := A) (n := l.length) (c := c) B1.out
        generalize (((w1.alloc (Obj.cells (madeCells #[Value.int IntKind.i64 0] l.length) 3)).alloc (Obj.cells (madeCells #[Value.bool false] l.length) 4)).alloc (Obj.cells #[Value.slice A l.length c, Value.slice (some { block := w1.heap.size, off := 0 }) l.length l.length, Value.slice (some { block := w1.heap.size + 1, off := 0 }) l.length l.length] 67)).drew = W4 at *
        generalize w1.heap.size + 1 + 1 = q at *
        generalize w1.heap.size + 1 = gg at *
        generalize w1.heap.size = gn at *
        have HX0 := Lib.hid hX0
        clear hX0
        go_wp2_with fail
        go_loopw [33] (fun t w' => ∃ (j : Nat) (ns : List Int), j ≤ l.length ∧ t = .int .i64 j ∧ Hid (FlX W w' q gn gg A l.length c l.length l.length ns (List.replicate l.length false)) ∧ Hid (∀ i, i < j → iat ns i = -1)) (fun t _ => l.length - (intOf t).toNat)
        case atStart => exact ⟨0, _, by omega, rfl, HX0, Lib.hid (fun i hi => absurd hi (by omega))⟩
        case round =>
          clear HX0
          obtain ⟨j, ns, hj, rfl, HXn, HNn⟩ := hrel
          obtain ⟨y0, y1, y2, l1, l2, l3⟩ := HXn.out.cells
          by_cases hlt : j < l.length
          · have t1 : decide (j < l.length) = true := decide_eq_true hlt
            have t1' : decide ((j : Int) < (l.length : Int)) = true := decide_eq_true (by omega)
            have t3 : (j : Int) < (l.length : Int) := by omega
            have t4 : (0 : Int) ≤ (j : Int) := by omega
            obtain ⟨n1, n2⟩ := HXn.out.ncell hlt
            have hnl : ns.length = l.length := HXn.out.2.2.2.1
            have HNL := Lib.hid hnl
            clear hnl
            go_wp2_with fail
            go_roundw
            case rel => exact ⟨j + 1, ns.set j (-1), by omega, by go_num, Lib.hid (HXn.out.setN j (-1)), Lib.hid (fun i hi => by
              by_cases e : i = j
              · rw [e]; exact iat_set (by rw [HNL.out]; exact hlt)
              · rw [iat_set_ne (fun h => e h.symm)]; exact HNn.out i (by omega))⟩
            case measure => simp [intOf]; omega
          · obtain rfl : j = l.length := by omega
            have t1 : decide (l.length < l.length) = false := decide_eq_false (by omega)
            have t1' : decide ((l.length : Int) < (l.length : Int)) = false := decide_eq_false (by omega)
            have t5 : decide ((l.length : Int) > 0) = true := decide_eq_true (by omega)
            have t6 : decide ((0 : Int) < (l.length : Int)) = true := decide_eq_true (by omega)
            obtain ⟨n1, n2⟩ := HXn.out.ncell (k := 0) (by omega)
            have hX5 := HXn.out.setN 0 0
            rw [init_of HXn.out.2.2.2.1 hl0 HNn.out] at hX5
            have HX5 := Lib.hid hX5
            clear hX5
            go_wp2_with fail
            go_step3
            go_wp2_with fail
      
            clear y0 y1 y2 l1 l2 l3 n1 n2
            generalize wr.setCell { block := gn, off := 0 } (Value.int IntKind.i64 0) = W5 at *
            have hX := HX5.out
            have hN := initN_nB l.length
            have hD : depF l (l.length + 1) (initN l.length) (List.replicate l.length false) = d := by have h := HD.out; exact h.symm
            have hf : cntF (List.replicate l.length false) < l.length + 1 := by rw [cntF_init]; omega
            clear HX5 HXn HNn
            obtain ⟨ns, hns⟩ : ∃ ns, initN l.length = ns := ⟨_, rfl⟩
            obtain ⟨gs, hgs⟩ : ∃ gs, List.replicate l.length false = gs := ⟨_, rfl⟩
            rw [hns] at hX hN hD
            rw [hgs] at hX hD hf
            clear hns hgs
            have HX := Lib.hid hX
            have HNB := Lib.hid hN
            have HDp := Lib.hid hD
            have HFu := Lib.hid hf
            obtain ⟨y0, y1, y2, l1, l2, l3⟩ := hX.cells
            clear hX hN hD hf
            go_loop [53] (fun t => ∃ j : Nat, j ≤ l.length ∧ t = .int .i64 j ∧ Hid (∀ i, i < j → skipB ns gs i = true)) (fun t => l.length - (intOf t).toNat)
            case atStart => exact ⟨0, by omega, rfl, Lib.hid (fun i hi => absurd hi (by omega))⟩
            case round =>
              obtain ⟨j, hj, rfl, HK⟩ := hrel
              by_cases hlt : j < l.length
              · have t1 : decide (j < l.length) = true := decide_eq_true hlt
                have t1' : decide ((j : Int) < (l.length : Int)) = true := decide_eq_true (by omega)
                have t3 : (j : Int) < (l.length : Int) := by omega
                have t4 : (0 : Int) ≤ (j : Int) := by omega
                obtain ⟨n1, _⟩ := HX.out.ncell hlt
                obtain ⟨g1, _⟩ := HX.out.gcell hlt
                have hz : (iat ns j == -1) = true ∨ ((iat ns j == -1) = false ∧ (bat gs j = true ∨ bat gs j = false)) := by
                  cases iat ns j == -1 <;> cases bat gs j <;> simp
                rcases hz with z1 | ⟨z1, z2 | z2⟩
                · have HS1 := Lib.hid (show skipB ns gs j = true by unfold skipB; rw [z1]; rfl)
                  go_wp2_with fail
                  go_roundw
                  case rel => exact ⟨j + 1, by omega, by go_num, Lib.hid (fun i hi => by
                    by_cases e : i = j
                    · rw [e]; exact HS1.out
                    · exact HK.out i (by omega))⟩
                  case measure => simp [intOf]; omega
                · have HS1 := Lib.hid (show skipB ns gs j = true by unfold skipB; rw [z1]; exact z2)
                  go_wp2_with fail
                  go_roundw
                  case rel => exact ⟨j + 1, by omega, by go_num, Lib.hid (fun i hi => by
                    by_cases e : i = j
                    · rw [e]; exact HS1.out
                    · exact HK.out i (by omega))⟩
                  case measure => simp [intOf]; omega
                · obtain ⟨f', hf', hst⟩ := depF_step HDp.out HFu.out HK.out (by unfold skipB; rw [z1]; exact z2) hlt
                  have hagj : 0 ≤ (xn l j).arg ∧ (xn l j).arg ≤ 255 := hag _ (by
                    have h := xn_get hlt
                    obtain ⟨hj, e⟩ := List.getElem?_eq_some_iff.mp h
                    rw [← e]
                    exact List.getElem_mem hj)
                  have HTh := Lib.hid (through_any j hlt hl hagj HNB.out HSh.out HX.out)
                  have hRn := thrF_nB (l := l) (i := j) HNB.out
                  generalize thrF l ns j = R at HTh hRn hst
                  obtain ⟨R1, R2⟩ := R
                  have HRn := Lib.hid hRn
                  have HSt := Lib.hid hst
                  have HF' := Lib.hid hf'
                  have HB := Lib.hid z2
                  clear hRn hst hf' hagj
                  dsimp only at HTh HRn HSt
                  by_cases hr2 : R2 = 0
                  · subst hr2
                    go_wp2_with (go_at_call 28; refine HTh.out.mono ?_; rintro e w2 ⟨rfl, hx2⟩; have X2 := Lib.hid hx2; clear hx2)
                    go_step3
                    exact ⟨rfl, depJ_mk rfl X2.out HRn.out.1 (by have h := HSt.out; exact h) (by have := cntF_set gs j (by rw [HX.out.2.2.2.2.1]; exact hlt) HB.out; have := HF'.out; have := HFu.out; omega)⟩
                  · have k1 : (R2 == 0) = false := beq_eq_false_iff_ne.2 hr2
                    have k2 : (R2 != 0) = true := by simpa [bne] using k1
                    have HDD := Lib.hid (show d = ((j : Int), R2) by have h := HSt.out; rw [k1] at h; exact h.symm)
                    go_wp2_with (go_at_call 28; refine HTh.out.mono ?_; rintro e w2 ⟨rfl, hx2⟩; have X2 := Lib.hid hx2; clear hx2)
                    simp only [Exit.jump]
                    refine bodyPost_ret (by simp [results, Try.results19, go_sem]; try rfl) rfl ?_
                    exact ⟨none, 0, 0, by rw [HDD.out], X2.out.2.2.2.2.2.1⟩
              · obtain rfl : j = l.length := by omega
                have t1 : decide (l.length < l.length) = false := decide_eq_false (by omega)
                have t1' : decide ((l.length : Int) < (l.length : Int)) = false := decide_eq_false (by omega)
                have HDD := Lib.hid (depF_end HDp.out HFu.out HK.out)
                go_wp2_with fail
                simp only [Exit.jump]
                refine bodyPost_ret (by simp [results, Try.results19, go_sem]; try rfl) rfl ?_
                exact ⟨some ⟨gn, 0, none⟩, l.length, l.length, by rw [HDD.out], HX.out.2.2.2.2.2.1⟩
      · have hX0 := flX_init2 (A := A) (n := l.length) (c := c) B1.out
        generalize (((w1.alloc (Obj.cells (madeCells #[Value.bool false] l.length) 4)).alloc (Obj.cells (madeCells #[Value.int IntKind.i64 0] l.length) 3)).alloc (Obj.cells #[Value.slice A l.length c, Value.slice (some { block := w1.heap.size + 1, off := 0 }) l.length l.length, Value.slice (some { block := w1.heap.size, off := 0 }) l.length l.length] 67)).drew = W4 at *
        generalize w1.heap.size + 1 + 1 = q at *
        generalize w1.heap.size + 1 = gn at *
        generalize w1.heap.size = gg at *
        have HX0 := Lib.hid hX0
        clear hX0
        go_wp2_with fail
        go_loopw [33] (fun t w' => ∃ (j : Nat) (ns : List Int), j ≤ l.length ∧ t = .int .i64 j ∧ Hid (FlX W w' q gn gg A l.length c l.length l.length ns (List.replicate l.length false)) ∧ Hid (∀ i, i < j → iat ns i = -1)) (fun t _ => l.length - (intOf t).toNat)
        case atStart => exact ⟨0, _, by omega, rfl, HX0, Lib.hid (fun i hi => absurd hi (by omega))⟩
        case round =>
          clear HX0
          obtain ⟨j, ns, hj, rfl, HXn, HNn⟩ := hrel
          obtain ⟨y0, y1, y2, l1, l2, l3⟩ := HXn.out.cells
          by_cases hlt : j < l.length
          · have t1 : decide (j < l.length) = true := decide_eq_true hlt
            have t1' : decide ((j : Int) < (l.length : Int)) = true := decide_eq_true (by omega)
            have t3 : (j : Int) < (l.length : Int) := by omega
            have t4 : (0 : Int) ≤ (j : Int) := by omega
            obtain ⟨n1, n2⟩ := HXn.out.ncell hlt
            have hnl : ns.length = l.length := HXn.out.2.2.2.1
            have HNL := Lib.hid hnl
            clear hnl
            go_wp2_with fail
            go_roundw
            case rel => exact ⟨j + 1, ns.set j (-1), by omega, by go_num, Lib.hid (HXn.out.setN j (-1)), Lib.hid (fun i hi => by
              by_cases e : i = j
              · rw [e]; exact iat_set (by rw [HNL.out]; exact hlt)
              · rw [iat_set_ne (fun h => e h.symm)]; exact HNn.out i (by omega))⟩
            case measure => simp [intOf]; omega
          · obtain rfl : j = l.length := by omega
            have t1 : decide (l.length < l.length) = false := decide_eq_false (by omega)
            have t1' : decide ((l.length : Int) < (l.length : Int)) = false := decide_eq_false (by omega)
            have t5 : decide ((l.length : Int) > 0) = true := decide_eq_true (by omega)
            have t6 : decide ((0 : Int) < (l.length : Int)) = true := decide_eq_true (by omega)
            obtain ⟨n1, n2⟩ := HXn.out.ncell (k := 0) (by omega)
            have hX5 := HXn.out.setN 0 0
            rw [init_of HXn.out.2.2.2.1 hl0 HNn.out] at hX5
            have HX5 := Lib.hid hX5
            clear hX5
            go_wp2_with fail
            go_step3
            go_wp2_with fail
      
            clear y0 y1 y2 l1 l2 l3 n1 n2
            generalize wr.setCell { block := gn, off := 0 } (Value.int IntKind.i64 0) = W5 at *
            have hX := HX5.out
            have hN := initN_nB l.length
            have hD : depF l (l.length + 1) (initN l.length) (List.replicate l.length false) = d := by have h := HD.out; exact h.symm
            have hf : cntF (List.replicate l.length false) < l.length + 1 := by rw [cntF_init]; omega
            clear HX5 HXn HNn
            obtain ⟨ns, hns⟩ : ∃ ns, initN l.length = ns := ⟨_, rfl⟩
            obtain ⟨gs, hgs⟩ : ∃ gs, List.replicate l.length false = gs := ⟨_, rfl⟩
            rw [hns] at hX hN hD
            rw [hgs] at hX hD hf
            clear hns hgs
            have HX := Lib.hid hX
            have HNB := Lib.hid hN
            have HDp := Lib.hid hD
            have HFu := Lib.hid hf
            obtain ⟨y0, y1, y2, l1, l2, l3⟩ := hX.cells
            clear hX hN hD hf
            go_loop [53] (fun t => ∃ j : Nat, j ≤ l.length ∧ t = .int .i64 j ∧ Hid (∀ i, i < j → skipB ns gs i = true)) (fun t => l.length - (intOf t).toNat)
            case atStart => exact ⟨0, by omega, rfl, Lib.hid (fun i hi => absurd hi (by omega))⟩
            case round =>
              obtain ⟨j, hj, rfl, HK⟩ := hrel
              by_cases hlt : j < l.length
              · have t1 : decide (j < l.length) = true := decide_eq_true hlt
                have t1' : decide ((j : Int) < (l.length : Int)) = true := decide_eq_true (by omega)
                have t3 : (j : Int) < (l.length : Int) := by omega
                have t4 : (0 : Int) ≤ (j : Int) := by omega
                obtain ⟨n1, _⟩ := HX.out.ncell hlt
                obtain ⟨g1, _⟩ := HX.out.gcell hlt
                have hz : (iat ns j == -1) = true ∨ ((iat ns j == -1) = false ∧ (bat gs j = true ∨ bat gs j = false)) := by
                  cases iat ns j == -1 <;> cases bat gs j <;> simp
                rcases hz with z1 | ⟨z1, z2 | z2⟩
                · have HS1 := Lib.hid (show skipB ns gs j = true by unfold skipB; rw [z1]; rfl)
                  go_wp2_with fail
                  go_roundw
                  case rel => exact ⟨j + 1, by omega, by go_num, Lib.hid (fun i hi => by
                    by_cases e : i = j
                    · rw [e]; exact HS1.out
                    · exact HK.out i (by omega))⟩
                  case measure => simp [intOf]; omega
                · have HS1 := Lib.hid (show skipB ns gs j = true by unfold skipB; rw [z1]; exact z2)
                  go_wp2_with fail
                  go_roundw
                  case rel => exact ⟨j + 1, by omega, by go_num, Lib.hid (fun i hi => by
                    by_cases e : i = j
                    · rw [e]; exact HS1.out
                    · exact HK.out i (by omega))⟩
                  case measure => simp [intOf]; omega
                · obtain ⟨f', hf', hst⟩ := depF_step HDp.out HFu.out HK.out (by unfold skipB; rw [z1]; exact z2) hlt
                  have hagj : 0 ≤ (xn l j).arg ∧ (xn l j).arg ≤ 255 := hag _ (by
                    have h := xn_get hlt
                    obtain ⟨hj, e⟩ := List.getElem?_eq_some_iff.mp h
                    rw [← e]
                    exact List.getElem_mem hj)
                  have HTh := Lib.hid (through_any j hlt hl hagj HNB.out HSh.out HX.out)
                  have hRn := thrF_nB (l := l) (i := j) HNB.out
                  generalize thrF l ns j = R at HTh hRn hst
                  obtain ⟨R1, R2⟩ := R
                  have HRn := Lib.hid hRn
                  have HSt := Lib.hid hst
                  have HF' := Lib.hid hf'
                  have HB := Lib.hid z2
                  clear hRn hst hf' hagj
                  dsimp only at HTh HRn HSt
                  by_cases hr2 : R2 = 0
                  · subst hr2
                    go_wp2_with (go_at_call 28; refine HTh.out.mono ?_; rintro e w2 ⟨rfl, hx2⟩; have X2 := Lib.hid hx2; clear hx2)
                    go_step3
                    exact ⟨rfl, depJ_mk rfl X2.out HRn.out.1 (by have h := HSt.out; exact h) (by have := cntF_set gs j (by rw [HX.out.2.2.2.2.1]; exact hlt) HB.out; have := HF'.out; have := HFu.out; omega)⟩
                  · have k1 : (R2 == 0) = false := beq_eq_false_iff_ne.2 hr2
                    have k2 : (R2 != 0) = true := by simpa [bne] using k1
                    have HDD := Lib.hid (show d = ((j : Int), R2) by have h := HSt.out; rw [k1] at h; exact h.symm)
                    go_wp2_with (go_at_call 28; refine HTh.out.mono ?_; rintro e w2 ⟨rfl, hx2⟩; have X2 := Lib.hid hx2; clear hx2)
                    simp only [Exit.jump]
                    refine bodyPost_ret (by simp [results, Try.results19, go_sem]; try rfl) rfl ?_
                    exact ⟨none, 0, 0, by rw [HDD.out], X2.out.2.2.2.2.2.1⟩
              · obtain rfl : j = l.length := by omega
                have t1 : decide (l.length < l.length) = false := decide_eq_false (by omega)
                have t1' : decide ((l.length : Int) < (l.length : Int)) = false := decide_eq_false (by omega)
                have HDD := Lib.hid (depF_end HDp.out HFu.out HK.out)
                go_wp2_with fail
                simp only [Exit.jump]
                refine bodyPost_ret (by simp [results, Try.results19, go_sem]; try rfl) rfl ?_
                exact ⟨some ⟨gn, 0, none⟩, l.length, l.length, by rw [HDD.out], HX.out.2.2.2.2.2.1⟩
    · rintro a' w' ⟨q, gn, gg, cn, cg, f, ns, gs, u, rfl, hX, hN, hD, hf⟩
      go_wp2_with fail
      have HX := Lib.hid hX
      have HNB := Lib.hid hN
      have HDp := Lib.hid hD
      have HFu := Lib.hid hf
      obtain ⟨y0, y1, y2, l1, l2, l3⟩ := hX.cells
      clear hX hN hD hf
      go_loop [53] (fun t => ∃ j : Nat, j ≤ l.length ∧ t = .int .i64 j ∧ Hid (∀ i, i < j → skipB ns gs i = true)) (fun t => l.length - (intOf t).toNat)
      case atStart => exact ⟨0, by omega, rfl, Lib.hid (fun i hi => absurd hi (by omega))⟩
      case round =>
        obtain ⟨j, hj, rfl, HK⟩ := hrel
        by_cases hlt : j < l.length
        · have t1 : decide (j < l.length) = true := decide_eq_true hlt
          have t1' : decide ((j : Int) < (l.length : Int)) = true := decide_eq_true (by omega)
          have t3 : (j : Int) < (l.length : Int) := by omega
          have t4 : (0 : Int) ≤ (j : Int) := by omega
          obtain ⟨n1, _⟩ := HX.out.ncell hlt
          obtain ⟨g1, _⟩ := HX.out.gcell hlt
          have hz : (iat ns j == -1) = true ∨ ((iat ns j == -1) = false ∧ (bat gs j = true ∨ bat gs j = false)) := by
            cases iat ns j == -1 <;> cases bat gs j <;> simp
          rcases hz with z1 | ⟨z1, z2 | z2⟩
          · have HS1 := Lib.hid (show skipB ns gs j = true by unfold skipB; rw [z1]; rfl)
            go_wp2_with fail
            go_roundw
            case rel => exact ⟨j + 1, by omega, by go_num, Lib.hid (fun i hi => by
              by_cases e : i = j
              · rw [e]; exact HS1.out
              · exact HK.out i (by omega))⟩
            case measure => simp [intOf]; omega
          · have HS1 := Lib.hid (show skipB ns gs j = true by unfold skipB; rw [z1]; exact z2)
            go_wp2_with fail
            go_roundw
            case rel => exact ⟨j + 1, by omega, by go_num, Lib.hid (fun i hi => by
              by_cases e : i = j
              · rw [e]; exact HS1.out
              · exact HK.out i (by omega))⟩
            case measure => simp [intOf]; omega
          · obtain ⟨f', hf', hst⟩ := depF_step HDp.out HFu.out HK.out (by unfold skipB; rw [z1]; exact z2) hlt
            have hagj : 0 ≤ (xn l j).arg ∧ (xn l j).arg ≤ 255 := hag _ (by
              have h := xn_get hlt
              obtain ⟨hj, e⟩ := List.getElem?_eq_some_iff.mp h
              rw [← e]
              exact List.getElem_mem hj)
            have HTh := Lib.hid (through_any j hlt hl hagj HNB.out HSh.out HX.out)
            have hRn := thrF_nB (l := l) (i := j) HNB.out
            generalize thrF l ns j = R at HTh hRn hst
            obtain ⟨R1, R2⟩ := R
            have HRn := Lib.hid hRn
            have HSt := Lib.hid hst
            have HF' := Lib.hid hf'
            have HB := Lib.hid z2
            clear hRn hst hf' hagj
            dsimp only at HTh HRn HSt
            by_cases hr2 : R2 = 0
            · subst hr2
              go_wp2_with (go_at_call 28; refine HTh.out.mono ?_; rintro e w2 ⟨rfl, hx2⟩; have X2 := Lib.hid hx2; clear hx2)
              go_step3
              exact ⟨rfl, depJ_mk rfl X2.out HRn.out.1 (by have h := HSt.out; exact h) (by have := cntF_set gs j (by rw [HX.out.2.2.2.2.1]; exact hlt) HB.out; have := HF'.out; have := HFu.out; omega), by rw [muF_eq X2.out _ rfl, muF_eq HX.out _ rfl]; have := cntF_set gs j (by rw [HX.out.2.2.2.2.1]; exact hlt) HB.out; omega⟩
            · have k1 : (R2 == 0) = false := beq_eq_false_iff_ne.2 hr2
              have k2 : (R2 != 0) = true := by simpa [bne] using k1
              have HDD := Lib.hid (show d = ((j : Int), R2) by have h := HSt.out; rw [k1] at h; exact h.symm)
              go_wp2_with (go_at_call 28; refine HTh.out.mono ?_; rintro e w2 ⟨rfl, hx2⟩; have X2 := Lib.hid hx2; clear hx2)
              simp only [Exit.jump]
              refine bodyPost_ret (by simp [results, Try.results19, go_sem]; try rfl) rfl ?_
              exact ⟨none, 0, 0, by rw [HDD.out], X2.out.2.2.2.2.2.1⟩
        · obtain rfl : j = l.length := by omega
          have t1 : decide (l.length < l.length) = false := decide_eq_false (by omega)
          have t1' : decide ((l.length : Int) < (l.length : Int)) = false := decide_eq_false (by omega)
          have HDD := Lib.hid (depF_end HDp.out HFu.out HK.out)
          go_wp2_with fail
          simp only [Exit.jump]
          refine bodyPost_ret (by simp [results, Try.results19, go_sem]; try rfl) rfl ?_
          exact ⟨some ⟨gn, 0, none⟩, cn, l.length, by rw [HDD.out], HX.out.2.2.2.2.2.1⟩
  · have HDD := Lib.hid (show d = (r2, r3) by rw [HD.out, h1]; rfl)
    go_enter Try.func19, Try.ntmps19
    go_wp2_with fail
    go_step3
    go_wp2_with (first | (go_at_call 15; refine (HRG.out W A c HSh.out).mono ?_; rintro e w1 ⟨A1, c1, rfl, hr1, hb1⟩; rw [HR.out]; have B1 := Lib.hid hb1; clear hr1 hb1))
    rw [Exit.noGoto_ret]
    refine bodyPost_ret (by simp [results, Try.results19, go_sem]; try rfl) rfl ?_
    exact ⟨none, 0, 0, by rw [HDD.out], B1.out⟩
end Go.Proofs.Ytbfjnanakmiaaaa
