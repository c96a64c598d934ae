
/-
  rowlockref15.spread: the walk.
-/
import Derived.Test.YtcjkpeojjonpiaaCk5
namespace Go.Proofs.Ytcjkpeojjonpiaa
open Go.RowKit Go.ChangeShapes Go.WideShapes
set_option linter.unusedSimpArgs false
set_option linter.unusedVariables false

/-- Depths that there can be. -/
def dOk (d : List Int) : Prop := ∀ x ∈ d, -1 ≤ x ∧ x ≤ 12
theorem dOk_at {d : List Int} (h : dOk d) {i : Nat} (hi : i < d.length) : -1 ≤ ivAt d i ∧ ivAt d i ≤ 12 := by rw [iv_at hi]; exact h _ (List.getElem_mem hi)
theorem dOk_set {d : List Int} (h : dOk d) {v : Int} (hv : -1 ≤ v ∧ v ≤ 12) (i : Nat) : dOk (d.set i v) := fun x hx => by
  rcases List.mem_or_eq_of_mem_set hx with hx | rfl
  · exact h x hx
  · exact hv
theorem right_pts {x : Ins3} (h : rightI x = true) : x.op < 29 ∧ 0 ≤ x.arg ∧ x.arg < limI x.op := by
  unfold rightI at h
  simp only [Bool.and_eq_true, decide_eq_true_eq] at h
  omega
theorem lim_le (o : Int) : limI o ≤ 64 := by
  unfold limI
  cases o == 2 <;> cases o == 3 <;> cases o == 4 <;> cases o == 5 <;> cases o == 6 <;> cases o == 7 <;> decide
theorem pops_bd (o : Int) : 0 ≤ popsI o ∧ popsI o ≤ 2 ∧ 0 ≤ pushI o ∧ pushI o ≤ 2 := by
  unfold popsI pushI formAt
  rcases Nat.lt_or_ge o.toNat forms.length with h | h
  · rw [List.getD_eq_getElem?_getD, List.getElem?_eq_getElem h, Option.getD_some]
    exact (by decide : ∀ x ∈ forms, 0 ≤ x.2.2.2.1 ∧ x.2.2.2.1 ≤ 2 ∧ 0 ≤ x.2.2.2.2 ∧ x.2.2.2.2 ≤ 2) _ (List.getElem_mem h)
  · rw [List.getD_eq_getElem?_getD, List.getElem?_eq_none h]
    decide
theorem nextI_len (l : List Ins3) (i : Nat) : (nextI l i).length ≤ 2 := by
  unfold nextI
  repeat' split
  all_goals simp
theorem spL_ok {n : Nat} {beh : Int} (hb : -1 ≤ beh ∧ beh ≤ 12) : ∀ (xs d : List Int), dOk d → dOk (spL n beh xs d).1 := by
  intro xs
  induction xs with
  | nil => intro d h; exact h
  | cons x xs ih =>
    intro d h
    unfold spL
    split
    · exact h
    · split
      · exact ih _ (dOk_set h hb _)
      · split
        · exact ih d h
        · exact h
theorem spF_ok {l : List Ins3} {d : List Int} {i : Nat} (h : dOk d) : dOk (spF l d i).1 := by
  unfold spF
  split
  · exact h
  · rename_i hc
    have := pops_bd (xn l i).op
    exact spL_ok (by unfold behI at *; omega) _ _ h
theorem nextI_cons {ns : List Int} {k : Nat} (h : k < ns.length) : ns.drop k = ivAt ns k :: ns.drop (k + 1) := by rw [iv_at h]; exact List.drop_eq_getElem_cons h
theorem inss_in {w0 w : World} {A : Option Addr} {l : List Ins3} {i : Nat} (hs : InssAt w0 A l) (hb : Below w0.heap.size w0 w) (hi : i < l.length) : ∃ ad, A = some ad ∧ InAt w (ad.add (i * 3)) (xn l i) ∧ ad.block < w.heap.size ∧ (ad.add (i * 3)).block < w.heap.size := by
  obtain ⟨ad, e, h⟩ := xn_at (inss_below hs hb) hi
  have h2 := inAt_lt h
  have e2 : (ad.add (i * 3)).block = ad.block := by unfold Addr.add; split <;> rfl
  exact ⟨ad, e, h, by omega, h2⟩
theorem Below.of_grown {w w1 : World} {g B : Nat} (hg : w.grownBy w1 (some g)) (hB : B ≤ w.heap.size) (h : B ≤ g) : Below B w w1 := (Below.refl B w).grown hg hB (fun k hk => by rw [← Option.some.inj hk]; exact h)
set_option maxRecDepth 20000 in
set_option maxHeartbeats 8000000 in
theorem spread_any (l : List Ins3) (hl : l.length ≤ 100) (A : Option Addr) (c : Nat) (d : List Int) (g cd i : Nat) (hd : d.length = l.length) (hi : i < l.length) (hr : rightI (xn l i) = true) (hdo : dOk d) (W0 W : World) (hs : InssAt W0 A l) (hb : Below W0.heap.size W0 W) (hrow : IRowAt W W0.heap.size (some ⟨g, 0, none⟩) cd d) :
    Calls Try.prog 67 #[.slice A l.length c, .slice (some ⟨g, 0, none⟩) d.length cd, .int .i64 (i : Int)] W fun e w' => e = .returned (.int .i64 (spF l d i).2) ∧ IRowAt w' W0.heap.size (some ⟨g, 0, none⟩) cd (spF l d i).1 ∧ W.grownBy w' (some g) := by
  have hrp := right_pts hr
  have hlim := lim_le (xn l i).op
  have HNX := Lib.hid (show ∀ w : World, Below W0.heap.size W0 w → Calls Try.prog 85 #[.slice A l.length c, .int .i64 (i : Int)] w (NextPost l i w) from fun w hb => next_any l hl A c i hi (by omega) w (inss_below hs hb))
  obtain ⟨ad, rfl, hin, lad, la⟩ := inss_in hs hb hi
  have hgb : W0.heap.size ≤ g ∧ g < W.heap.size := irow_lt hrow g rfl
  obtain ⟨g', eg, xd, _, lg⟩ := irow_head hrow (i := i) (by omega)
  obtain rfl : g = g' := by simpa using eg
  obtain ⟨⟨op, ag, vv⟩, hop⟩ : ∃ x, xn l i = x := ⟨_, rfl⟩
  have hba := pops_bd (xn l i).op
  have hdi := dOk_at hdo (i := i) (by omega)
  have hE := Lib.hid (show behI l d i = ivAt d i - popsI op + pushI op by unfold behI; rw [hop])
  have HSF := Lib.hid (show spF l d i = if ivAt d i < popsI op ∨ behI l d i > 12 then (d, 12) else spL l.length (behI l d i) (nextI l i) d by unfold spF; rw [hop])
  rw [hop] at hin hba
  obtain ⟨hok, a0, _, _⟩ := hin
  have HEF := Lib.hid (fun w => refEffect_any op hok.1.1 w)
  dsimp only at a0 hba
  obtain ⟨di, hdi'⟩ : ∃ x, ivAt d i = x := ⟨_, rfl⟩
  obtain ⟨pp, hpp⟩ : ∃ x, popsI op = x := ⟨_, rfl⟩
  obtain ⟨pu, hpu⟩ : ∃ x, pushI op = x := ⟨_, rfl⟩
  obtain ⟨be, hbe⟩ : ∃ x, behI l d i = x := ⟨_, rfl⟩
  obtain ⟨R, hR⟩ : ∃ x, spF l d i = x := ⟨_, rfl⟩
  obtain ⟨nl, hnl⟩ : ∃ n, l.length = n := ⟨_, rfl⟩
  rw [hdi'] at xd hdi hE HSF
  rw [hpp] at hba hE HSF HEF
  rw [hpu] at hba hE HEF
  rw [hbe] at hE HSF
  rw [hR] at HSF ⊢
  rw [hd]
  rw [hnl] at HSF HNX hl hi hd ⊢
  have s3 : (i : Int) < (nl : Int) := by omega
  have s4 : (0 : Int) ≤ (i : Int) := by omega
  have k1 : wrap64 (di - pp) = di - pp := by unfold wrap64; omega
  have k2 : wrap64 (di - pp + pu) = be := by rw [hE.out]; unfold wrap64; omega
  have HB := Lib.hid hb
  have HD := Lib.hid (And.intro hl (And.intro hd hdo))
  have HGB := Lib.hid hgb
  have HROW := Lib.hid hrow
  have HNL := Lib.hid hnl
  have HBE := Lib.hid (show -1 ≤ di ∧ di ≤ 12 ∧ 0 ≤ pp ∧ pp ≤ 2 ∧ 0 ≤ pu ∧ pu ≤ 2 by omega)
  have HBI := Lib.hid (hE.out)
  have lgW := lg
  clear hdi' hpp hpu hbe hR hrp hlim hb hl hdo hgb hrow hba hdi hok hop hr hs hnl hd hi eg hE lg
  by_cases hc1 : di < pp
  · have q1 : decide (di < pp) = true := decide_eq_true hc1
    have HR := Lib.hid (show R = (d, 12) by rw [HSF.out, if_pos (.inl hc1)])
    clear hc1 HSF
    go_enter Try.func67, Try.ntmps67
    go_wp2_with (go_at_call 73; refine (HEF.out _).mono ?_; rintro e w' ⟨rfl, rfl⟩)
    go_ret
    exact ⟨by rw [HR.out]; rfl, by rw [HR.out]; exact HROW.out, gb_refl _ _⟩
  · have q1 : decide (di < pp) = false := decide_eq_false hc1
    by_cases hc2 : be > 12
    · have q2 : decide (be > 12) = true := decide_eq_true hc2
      have q3 : decide ((12 : Int) < be) = true := q2
      have HR := Lib.hid (show R = (d, 12) by rw [HSF.out, if_pos (.inr hc2)])
      clear hc1 hc2 HSF
      go_enter Try.func67, Try.ntmps67
      go_wp2_with (go_at_call 73; refine (HEF.out _).mono ?_; rintro e w' ⟨rfl, rfl⟩)
      go_ret
      exact ⟨by rw [HR.out]; rfl, by rw [HR.out]; exact HROW.out, gb_refl _ _⟩
    · have q2 : decide (be > 12) = false := decide_eq_false hc2
      have q3 : decide ((12 : Int) < be) = false := q2
      have HR := Lib.hid (show R = spL nl be (nextI l i) d by rw [HSF.out, if_neg (by omega)])
      have HBB := Lib.hid (show -1 ≤ be ∧ be ≤ 12 by have := HBE.out; have := HBI.out; omega)
      clear hc1 hc2 HSF
      go_enter Try.func67, Try.ntmps67
      go_upto_region 6 with (first | (go_at_call 73; refine (HEF.out _).mono ?_; rintro e w' ⟨rfl, rfl⟩) | (go_at_call 85; refine (HNX.out W HB.out).mono ?_; rintro e w1 ⟨A1, c1, rfl, hi1, hb1⟩; have N1 := Lib.hid hi1; have B1 := Lib.hid hb1; clear hi1 hb1))
      clear a0 la xd k1 k2 q1 q2 q3 lad
      have HNL9 := Lib.hid (nextI_len l i)
      obtain ⟨ns, hns⟩ : ∃ x, nextI l i = x := ⟨_, rfl⟩
      rw [hns] at HR N1 HNL9 ⊢
      clear hns
      have HG1 := Lib.hid (show W.grownBy w1 (some g) from gb_below B1.out)
      go_wp2_with fail
      go_loopg [11] ns.length (fun gm s11 wx => ∃ (k : Nat) (dk : List Int), k ≤ ns.length ∧ gm = ns.length - k ∧ s11 = .int .i64 k ∧ Hid (spL nl be (ns.drop k) dk = R) ∧ Hid (dk.length = nl ∧ dOk dk) ∧ Hid (IRowAt wx W0.heap.size (some ⟨g, 0, none⟩) cd dk) ∧ Hid (w1.grownBy wx (some g)))
      case atStart => exact ⟨0, d, Nat.zero_le _, rfl, rfl, Lib.hid (by rw [HR.out]; rfl), Lib.hid HD.out.2, Lib.hid (irow_below HROW.out B1.out), Lib.hid (gb_refl _ _)⟩
      case round =>
        obtain ⟨k, dk, hk, rfl, rfl, HK, HDK, HX, HG⟩ := hrel
        have HBW := Lib.hid (show Below W0.heap.size W0 wr from (HB.out.trans (B1.out.mono HB.out.size)).trans (Below.of_grown HG.out (Nat.le_trans HB.out.size B1.out.size) HGB.out.1))
        have HNW := Lib.hid (ints_row N1.out HG.out (fun k hk e => by have := HGB.out.2; simp at e; omega))
        have HGW := Lib.hid (HG1.out.trans HG.out)
        by_cases hlt : k < ns.length
        · have s1 : decide ((k : Int) < (ns.length : Int)) = true := decide_eq_true (by omega)
          have s2 : decide (k < ns.length) = true := decide_eq_true hlt
          have s5 : (k : Int) < (ns.length : Int) := by omega
          have s6 : (0 : Int) ≤ (k : Int) := by omega
          have s7 : wrap64 ((k : Int) + 1) = (k : Int) + 1 := by
            have hn : ns.length ≤ 1000 := by
              have := HNL9.out
              omega
            unfold wrap64; omega
          obtain ⟨an, rfl, xn1⟩ := ints_head HNW.out hlt
          have ln := World.block_lt_of_cell? wr _ xn1
          have hin : (some an.block).isSome := rfl
          obtain ⟨x, hx⟩ : ∃ x, ivAt ns k = x := ⟨_, rfl⟩
          rw [hx] at xn1
          have HK' := Lib.hid (show spL nl be (x :: ns.drop (k + 1)) dk = R by rw [← hx, ← nextI_cons hlt]; exact HK.out)
          have HLT := Lib.hid (show k + 1 ≤ ns.length ∧ ns.length - (k + 1) < ns.length - k by omega)
          have HKN := Lib.hid s7
          clear HK hx hk hlt hin s7
          have s7 := HKN.out
          by_cases h0 : x < 0
          · have q1 : decide (x < 0) = true := decide_eq_true h0
            have HRR := Lib.hid (show R = (dk, 3) by rw [← HK'.out]; unfold spL; rw [if_pos (.inl h0)])
            clear h0
            go_wp2_with fail
            go_ret
            exact ⟨by rw [HRR.out]; rfl, by rw [HRR.out]; exact HX.out, HGW.out⟩
          · have q1 : decide (x < 0) = false := decide_eq_false h0
            by_cases h1 : x ≥ nl
            · have q2 : decide (x ≥ (nl : Int)) = true := decide_eq_true h1
              have q3 : decide ((nl : Int) ≤ x) = true := q2
              have HRR := Lib.hid (show R = (dk, 3) by rw [← HK'.out]; unfold spL; rw [if_pos (.inr h1)])
              clear h0 h1
              go_wp2_with fail
              go_ret
              exact ⟨by rw [HRR.out]; rfl, by rw [HRR.out]; exact HX.out, HGW.out⟩
            · have q2 : decide (x ≥ (nl : Int)) = false := decide_eq_false h1
              have q3 : decide ((nl : Int) ≤ x) = false := q2
              obtain ⟨m, rfl⟩ : ∃ m : Nat, x = (m : Int) := ⟨x.toNat, by omega⟩
              have hm : m < nl := by omega
              have q4 : (m : Int) < (nl : Int) := by omega
              have q5 : (0 : Int) ≤ (m : Int) := by omega
              have HSP := Lib.hid (show R = if ivAt dk m < 0 then spL nl be (ns.drop (k + 1)) (dk.set m be) else if ivAt dk m = be then spL nl be (ns.drop (k + 1)) dk else (dk, 12) by rw [← HK'.out]; conv => lhs; unfold spL; rw [if_neg (by omega), Int.toNat_natCast])
              obtain ⟨g', eg, xm, xf, lg⟩ := irow_head HX.out (i := m) (by have := HDK.out.1; omega)
              obtain rfl : g = g' := by simpa using eg
              have HDM := Lib.hid (show m < dk.length by have := HDK.out.1; omega)
              obtain ⟨y, hy⟩ : ∃ y, ivAt dk m = y := ⟨_, rfl⟩
              rw [hy] at xm HSP
              clear h0 h1 hm eg hy HK'
              by_cases h2 : y < 0
              · have q6 : decide (y < 0) = true := decide_eq_true h2
                have HRR := Lib.hid (show spL nl be (ns.drop (k + 1)) (dk.set m be) = R by rw [HSP.out, if_pos h2])
                clear h2 HSP
                go_wp2_with fail
                go_roundg (ns.length - (k + 1))
                case measure => exact HLT.out.2
                case rel => exact ⟨k + 1, dk.set m be, HLT.out.1, rfl, by first | rfl | (rw [s7]; rfl), HRR, Lib.hid ⟨by rw [List.length_set]; exact HDK.out.1, dOk_set HDK.out.2 HBB.out m⟩, Lib.hid (irow_set HX.out HDM.out ⟨by have := HBB.out; omega, by have := HBB.out; omega⟩), Lib.hid (gb_set HG.out m _)⟩
              · have q6 : decide (y < 0) = false := decide_eq_false h2
                cases h3 : (y != be)
                · have q7 : (y == be) = true := by simpa [bne] using h3
                  have HRR := Lib.hid (show spL nl be (ns.drop (k + 1)) dk = R by rw [HSP.out, if_neg h2, if_pos (by simpa using q7)])
                  clear h2 HSP
                  go_wp2_with fail
                  go_roundg (ns.length - (k + 1))
                  case measure => exact HLT.out.2
                  case rel => exact ⟨k + 1, dk, HLT.out.1, rfl, by first | rfl | (rw [s7]; rfl), HRR, HDK, HX, HG⟩
                · have q7 : (y == be) = false := by simpa [bne] using h3
                  have HRR := Lib.hid (show R = (dk, 12) by rw [HSP.out, if_neg h2, if_neg (by simpa using q7)])
                  clear h2 HSP
                  go_wp2_with fail
                  go_ret
                  exact ⟨by rw [HRR.out]; rfl, by rw [HRR.out]; exact HX.out, HGW.out⟩
        · obtain rfl : k = ns.length := by omega
          have s1 : decide ((ns.length : Int) < (ns.length : Int)) = false := decide_eq_false (by omega)
          have s2 : decide (ns.length < ns.length) = false := decide_eq_false (by omega)
          have HRR := Lib.hid (show R = (dk, 0) by rw [← HK.out, List.drop_length]; rfl)
          clear hlt hk
          go_wp2_with fail
          go_ret
          exact ⟨by rw [HRR.out]; rfl, by rw [HRR.out]; exact HX.out, HGW.out⟩
end Go.Proofs.Ytcjkpeojjonpiaa
