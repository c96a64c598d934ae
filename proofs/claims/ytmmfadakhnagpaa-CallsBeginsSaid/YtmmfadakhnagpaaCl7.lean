
/-
  rowlockref24.Program.
-/
import Derived.Test.YtmmfadakhnagpaaCl6
import Derived.Deep.LoopGhost
import Derived.Deep.CutBlock
import Derived.LoopTactic
import Derived.Handy
namespace Go.Proofs.Ytmmfadakhnagpaa
open Go.RowKit Go.ChangeShapes Go.WideShapes
set_option linter.unusedSimpArgs false
set_option linter.unusedVariables false

theorem fit_eq (K who : Int) (c : Cl) : fitF K who c = (tkI K c.k && ((c.who == who) && fitsB c.k c.v)) := by
  unfold fitF fitsB
  cases rightB c.v <;> cases (c.k == 5) <;> cases (c.k == 8) <;> cases (c.v == 0) <;> rfl
theorem intV_one : intV 1 = 4607182418800017408 := by kernel_rfl
theorem runRf_nil (sz tv : Int) (l : List Ins3) : runRf sz tv l [] = (0, l ++ [haltI]) := rfl
theorem runRf_cons (sz tv : Int) (l : List Ins3) (c : Cl) (cs : List Cl) (r : Int × List Ins3) (hr : blkRf l.length sz tv c = r) : runRf sz tv l (c :: cs) = if r.1 = 0 then (if 64 ≤ (l ++ r.2 ++ tailR c.k).length then (4, []) else runRf sz tv (l ++ r.2 ++ tailR c.k) cs) else (r.1, []) := by
  subst hr; rfl
theorem drop_cons {cs : List Cl} {j : Nat} {x : Cl} (h : cs[j]? = some x) : cs.drop j = x :: cs.drop (j + 1) := by
  obtain ⟨hj, e⟩ := List.getElem?_eq_some_iff.1 h
  rw [List.drop_eq_getElem_cons hj, e]
set_option maxRecDepth 100000 in
set_option maxHeartbeats 16000000 in
theorem rprogram_any (K sz tv who : Int) (cs : List Cl) (A : Option Addr) (c : Nat) (hl : cs.length ≤ 100) (W : World) (HS : ClsAt W A cs) :
    Calls Try.prog 8 #[.int .u8 K, .int .i64 sz, .int .i64 tv, .int .i64 who, .slice A cs.length c] W (FPost W (progR K sz tv who cs)) := by
  cases hg : goodK K sz
  · have HN := Lib.hid (rNew0 K sz (by rw [← goodK_eq]; exact hg))
    have E := Lib.hid (show progR K sz tv who cs = (3, []) by unfold progR; rw [hg]; rfl)
    clear hg HS
    go_enter Try.func8, Try.ntmps8
    go_wp2_with (go_at_call 14; refine (HN.out _).mono ?_; rintro e w1 ⟨rfl, hb⟩; have HB1 := Lib.hid hb; clear hb)
    go_ret2
    rw [E.out]
    exact ⟨none, 0, rfl, nrow_nil _ _, HB1.out⟩
  · have HN := Lib.hid (newR K sz hg)
    have HT := Lib.hid (rtv K sz)
    have HCS := Lib.hid HS
    have HL := Lib.hid hl
    have htv := tvI_bd hg
    obtain ⟨q, hq⟩ : ∃ q, tvI K sz = q := ⟨_, rfl⟩
    rw [hq] at htv HT
    obtain ⟨q12, hq12⟩ : ∃ x, 12 - q = x := ⟨_, rfl⟩
    have eq12 : wrap64 (12 - q) = q12 := by rw [hq12]; unfold wrap64; omega
    obtain ⟨P, hP⟩ : ∃ P, progR K sz tv who cs = P := ⟨_, rfl⟩
    have HPE := Lib.hid (show progR K sz tv who cs = bif cs.any (fun c => !fitF K who c) then (3, []) else bif decide (tv < 0) || (decide (q12 < tv) || (decide (who < 0) || decide (4 ≤ who))) then (2, []) else runRf sz tv [] cs by unfold progR; rw [hg, hq, hq12]; rfl)
    rw [hP] at HPE ⊢
    clear hg HS htv hq hq12 hP hl
    go_enter Try.func8, Try.ntmps8
    go_upto_region 5 with (go_at_call 14; refine (HN.out _).mono ?_; rintro e w1 ⟨p, rfl, ht, hb⟩; have HT1 := Lib.hid ht; have HB1 := Lib.hid hb; clear ht hb)
    go_loopg [13] cs.length (fun gm s13 wx => ∃ j : Nat, j ≤ cs.length ∧ gm = cs.length - j ∧ s13 = .int .i64 j ∧ Hid ((cs.take j).any (fun x => !fitF K who x) = false) ∧ Hid (Below w1.heap.size w1 wx))
    case atStart => exact ⟨0, Nat.zero_le _, rfl, rfl, Lib.hid rfl, Lib.hid (Below.refl _ _)⟩
    case round =>
      obtain ⟨j, hj, rfl, rfl, HJ, HB⟩ := hrel
      have HBW := Lib.hid (HB1.out.trans (HB.out.mono HB1.out.size))
      by_cases hlt : j < cs.length
      · obtain ⟨x, hx⟩ : ∃ x, cs[j]? = some x := ⟨_, List.getElem?_eq_getElem hlt⟩
        have t1 : decide (j < cs.length) = true := decide_eq_true hlt
        have t1' : decide ((j : Int) < (cs.length : Int)) = true := decide_eq_true (by omega)
        have t3 : (j : Int) < (cs.length : Int) := by omega
        have t4 : (0 : Int) ≤ (j : Int) := by omega
        have s5 : wrap64 ((j : Int) + 1) = (j : Int) + 1 := by have := HL.out; unfold wrap64; omega
        have HTK := Lib.hid (HT1.out wr HB.out)
        obtain ⟨ad, rfl, hca⟩ := (HCS.out.below HBW.out).2 j x hx
        have HF := Lib.hid (refFits_any x.k x.who x.v hca.2.2.1)
        obtain ⟨_, _, _, y0, y1, y2⟩ := hca
        have la := World.block_lt_of_cell? wr _ y0
        have HX := Lib.hid hx
        have HLT := Lib.hid hlt
        have HFE := Lib.hid (fit_eq K who x)
        obtain ⟨tk, htk⟩ : ∃ b, tkI K x.k = b := ⟨_, rfl⟩
        obtain ⟨fb, hfb⟩ : ∃ b, fitsB x.k x.v = b := ⟨_, rfl⟩
        have HTK2 := Lib.hid (by have := HTK.out x.k; rw [htk] at this; exact this)
        rw [hfb] at HF HFE
        rw [htk] at HFE
        clear hx hlt hj htk hfb HTK
        unfold callV at HF
        cases tk
        case false =>
          have EE := Lib.hid (show P = (3, []) by rw [HPE.out, any_hit (p := fun x => !fitF K who x) HX.out (by show (!fitF K who x) = true; rw [HFE.out]; rfl)]; rfl)
          clear HPE
          go_wp2_with (go_at_call 24; refine HTK2.out.mono ?_; rintro e w' ⟨rfl, rfl⟩)
          go_ret2
          rw [EE.out]
          exact ⟨none, 0, rfl, nrow_nil _ _, HBW.out⟩
        case true =>
          cases hw : (x.who == who)
          · have hw2 : (x.who != who) = true := by unfold bne; rw [hw]; rfl
            have EE := Lib.hid (show P = (3, []) by rw [HPE.out, any_hit (p := fun x => !fitF K who x) HX.out (by show (!fitF K who x) = true; rw [HFE.out, hw]; rfl)]; rfl)
            clear HPE
            go_wp2_with (go_at_call 24; refine HTK2.out.mono ?_; rintro e w' ⟨rfl, rfl⟩)
            go_ret2
            rw [EE.out]
            exact ⟨none, 0, rfl, nrow_nil _ _, HBW.out⟩
          · have hw2 : (x.who != who) = false := by unfold bne; rw [hw]; rfl
            cases fb
            case false =>
              have EE := Lib.hid (show P = (3, []) by rw [HPE.out, any_hit (p := fun x => !fitF K who x) HX.out (by show (!fitF K who x) = true; rw [HFE.out, hw]; rfl)]; rfl)
              clear HPE
              go_wp2_with (first | (go_at_call 24; refine HTK2.out.mono ?_; rintro e w' ⟨rfl, rfl⟩) | (go_at_call 25; refine (HF.out _).mono ?_; rintro e w3 ⟨rfl, hb⟩; have HB3 := Lib.hid (HBW.out.trans (hb.mono HBW.out.size)); clear hb))
              go_ret2
              rw [EE.out]
              exact ⟨none, 0, rfl, nrow_nil _ _, HB3.out⟩
            case true =>
              have HNX := Lib.hid (any_take (p := fun x => !fitF K who x) HJ.out HX.out (by show (!fitF K who x) = false; rw [HFE.out, hw]; rfl))
              go_wp2_with (first | (go_at_call 24; refine HTK2.out.mono ?_; rintro e w' ⟨rfl, rfl⟩) | (go_at_call 25; refine (HF.out _).mono ?_; rintro e w3 ⟨rfl, hb⟩; have HB3 := Lib.hid (HB.out.trans (hb.mono HB.out.size)); clear hb))
              go_roundg (cs.length - (j + 1))
              case measure => have := HLT.out; omega
              case rel => exact ⟨j + 1, HLT.out, rfl, by first | rfl | (rw [s5]; rfl), HNX, HB3⟩
      · obtain rfl : j = cs.length := by omega
        have t1 : decide (cs.length < cs.length) = false := decide_eq_false (by omega)
        have t1' : decide ((cs.length : Int) < (cs.length : Int)) = false := decide_eq_false (by omega)
        have hany := HJ.out
        rw [List.take_length] at hany
        have HANY := Lib.hid hany
        rw [hany] at HPE
        clear hany hj HJ HT1
        have HT3 := Lib.hid (HT.out wr)
        by_cases u1 : tv < 0
        · have a1 : decide (tv < 0) = true := decide_eq_true u1
          have E := Lib.hid (show P = (2, []) by rw [HPE.out, a1]; rfl)
          clear u1 HPE
          go_wp2_with fail
          go_ret2
          rw [E.out]
          exact ⟨none, 0, rfl, nrow_nil _ _, HBW.out⟩
        have a1 : decide (tv < 0) = false := decide_eq_false u1
        by_cases u2 : q12 < tv
        · have a2 : decide (q12 < tv) = true := decide_eq_true u2
          have a2' : decide (tv > q12) = true := a2
          have E := Lib.hid (show P = (2, []) by rw [HPE.out, a1, a2]; rfl)
          clear u1 u2 HPE
          go_wp2_with (go_at_call 26; refine HT3.out.mono ?_; rintro e w4 ⟨rfl, hb⟩; have HB4 := Lib.hid (HBW.out.trans (hb.mono HBW.out.size)); clear hb)
          go_ret2
          rw [E.out]
          exact ⟨none, 0, rfl, nrow_nil _ _, HB4.out⟩
        have a2 : decide (q12 < tv) = false := decide_eq_false u2
        have a2' : decide (tv > q12) = false := a2
        by_cases u3 : who < 0
        · have a3 : decide (who < 0) = true := decide_eq_true u3
          have E := Lib.hid (show P = (2, []) by rw [HPE.out, a1, a2, a3]; rfl)
          clear u1 u2 u3 HPE
          go_wp2_with (go_at_call 26; refine HT3.out.mono ?_; rintro e w4 ⟨rfl, hb⟩; have HB4 := Lib.hid (HBW.out.trans (hb.mono HBW.out.size)); clear hb)
          go_ret2
          rw [E.out]
          exact ⟨none, 0, rfl, nrow_nil _ _, HB4.out⟩
        have a3 : decide (who < 0) = false := decide_eq_false u3
        by_cases u4 : 4 ≤ who
        · have a4 : decide (4 ≤ who) = true := decide_eq_true u4
          have a4' : decide (who ≥ 4) = true := a4
          have E := Lib.hid (show P = (2, []) by rw [HPE.out, a1, a2, a3, a4]; rfl)
          clear u1 u2 u3 u4 HPE
          go_wp2_with (go_at_call 26; refine HT3.out.mono ?_; rintro e w4 ⟨rfl, hb⟩; have HB4 := Lib.hid (HBW.out.trans (hb.mono HBW.out.size)); clear hb)
          go_ret2
          rw [E.out]
          exact ⟨none, 0, rfl, nrow_nil _ _, HB4.out⟩
        have a4 : decide (4 ≤ who) = false := decide_eq_false u4
        have a4' : decide (who ≥ 4) = false := a4
        have E := Lib.hid (show P = runRf sz tv [] cs by rw [HPE.out, a1, a2, a3, a4]; rfl)
        clear u1 u2 u3 u4 HPE
        go_upto_region 13 with (go_at_call 26; refine HT3.out.mono ?_; rintro e w4 ⟨rfl, hb⟩; have HB4 := Lib.hid (HBW.out.trans (hb.mono HBW.out.size)); clear hb)
        clear a1 a2 a2' a3 a4 a4' HT3 t1 t1' HBW HB
        try simp only [eq12]
        clear eq12
        go_loopg [14, 15] cs.length (fun gm s14 s15 wx => ∃ (j : Nat) (l : List Ins3) (A' : Option Addr) (c' : Nat), j ≤ cs.length ∧ gm = cs.length - j ∧ s15 = .int .i64 j ∧ s14 = .slice A' l.length c' ∧ Hid (P = runRf sz tv l (cs.drop j)) ∧ Hid (l.length < 64) ∧ Hid (RI W wx A' c' l))
        case atStart => exact ⟨0, [], none, 0, Nat.zero_le _, rfl, rfl, rfl, Lib.hid (by rw [E.out]; rfl), Lib.hid (by decide), Lib.hid ⟨nrow_nil _ _, HB4.out⟩⟩
        case round =>
          clear HB4 E
          obtain ⟨j, l, A', c', hj, rfl, rfl, rfl, HR, HLL, RR⟩ := hrel
          by_cases hlt : j < cs.length
          · obtain ⟨x, hx⟩ : ∃ x, cs[j]? = some x := ⟨_, List.getElem?_eq_getElem hlt⟩
            have t1 : decide (j < cs.length) = true := decide_eq_true hlt
            have t1' : decide ((j : Int) < (cs.length : Int)) = true := decide_eq_true (by omega)
            have t3 : (j : Int) < (cs.length : Int) := by omega
            have t4 : (0 : Int) ≤ (j : Int) := by omega
            have s5 : wrap64 ((j : Int) + 1) = (j : Int) + 1 := by have := HL.out; unfold wrap64; omega
            have hfit : fitF K who x = true := by
              have := HANY.out
              rw [List.any_eq_false] at this
              simpa using this x (List.mem_of_getElem? hx)
            have hk := fit_k hfit
            obtain ⟨ad, rfl, hca⟩ := (HCS.out.below RR.out.bl).2 j x hx
            have HBK := Lib.hid (rblk l.length sz tv x hk hca.2.2.1 (by have := HLL.out; omega))
            have HAT := Lib.hid (fun w (h : Below wr.heap.size wr w) => callAt_below hca h)
            obtain ⟨_, _, _, y0, y1, y2⟩ := hca
            have la := World.block_lt_of_cell? wr _ y0
            obtain ⟨r, hr⟩ : ∃ r, blkRf l.length sz tv x = r := ⟨_, rfl⟩
            have HPOS := Lib.hid (fun h => by have := blkRf_pos (a := l.length) (tv := tv) (sz := sz) hk (by rw [hr]; exact h); rw [hr] at this; exact this : r.1 = 0 → r.2.length ≠ 0)
            have HLEN := Lib.hid (show r.2.length ≤ 40 by rw [← hr]; exact blkRf_len _ _ _ _ hk)
            have HRC := Lib.hid (show P = if r.1 = 0 then (if 64 ≤ (l ++ r.2 ++ tailR x.k).length then (4, []) else runRf sz tv (l ++ r.2 ++ tailR x.k) (cs.drop (j + 1))) else (r.1, []) by rw [HR.out, drop_cons hx]; exact runRf_cons sz tv l x _ r hr)
            rw [hr] at HBK
            have HLT := Lib.hid hlt
            have HXX := Lib.hid hx
            clear hx hlt hj hfit hk hr HR
            obtain ⟨re, rl⟩ := r
            dsimp only at HPOS HLEN HRC
            go_upto_region 16 with (go_at_call 27; refine (HBK.out _).mono ?_; rintro e w3 ⟨A3, c3, rfl, hn, hb⟩; have N3 := Lib.hid hn; have R3 := Lib.hid (RR.out.below hb); have HAT3 := Lib.hid (HAT.out w3 hb); clear hn hb y0 y1 y2 la)
            by_cases h0 : re = 0
            · subst h0
              obtain ⟨g, rfl⟩ := nrow_g N3.out (HPOS.out rfl)
              have V3 := Lib.hid (inss_cells (nrow_inss N3.out (by have := HLEN.out; omega)).1)
              have OK3 := Lib.hid N3.out.2
              obtain ⟨p, hp⟩ : ∃ p, l ++ rl = p := ⟨_, rfl⟩
              have HPP := Lib.hid hp
              have PL := Lib.hid (show p.length ≤ 110 by rw [← hp, List.length_append]; have := HLL.out; have := HLEN.out; omega)
              have HRD := Lib.hid (show P = if 64 ≤ (p ++ tailR x.k).length then (4, []) else runRf sz tv (p ++ tailR x.k) (cs.drop (j + 1)) by rw [HRC.out, if_pos rfl, hp])
              clear hp HRC
              go_upto_region 19 with (at_builtin; refine append_inss rfl (.tmp 94) (.tmp 95) rfl W.heap.size (.slice A' l.length c') l rfl R3.out.row.1 R3.out.row.2 ⟨g, 0, none⟩ rl.length c3 rl rfl rfl V3.out OK3.out (by have := HLEN.out; have := HLL.out; omega) R3.out.bl.size p HPP.out ?_; intro A4 c4 w4 hr hg; have R4 := Lib.hid (R3.out.more hr hg); have HG4 := Lib.hid hg; clear hr hg)
              have hy := HCS.out.below R4.out.bl
              obtain ⟨ad2, he2, hca2⟩ := hy.2 j x HXX.out
              obtain rfl := Option.some.inj he2
              obtain ⟨_, _, _, y0, _, _⟩ := hca2
              have la := World.block_lt_of_cell? w4 _ y0
              clear hy he2
              cases k2 : (x.k == 2)
              · have n2 : (x.k != 2) = true := by unfold bne; rw [k2]; rfl
                cases k6 : (x.k == 6)
                · have n6 : (x.k != 6) = true := by unfold bne; rw [k6]; rfl
                  cases k7 : (x.k == 7)
                  · have n7 : (x.k != 7) = true := by unfold bne; rw [k7]; rfl
                    have HTE := Lib.hid (show tellB x.k = false by unfold tellB; rw [k2, k6, k7]; rfl)
                    obtain ⟨p1, hp1⟩ : ∃ q, p ++ [oneI] = q := ⟨_, rfl⟩
                    have HP1 := Lib.hid hp1
                    have P1L := Lib.hid (show p1.length ≤ 120 by rw [← hp1, List.length_append]; have := PL.out; simp; omega)
                    obtain ⟨p2, hp2⟩ : ∃ q, p1 ++ [outI] = q := ⟨_, rfl⟩
                    have HP2 := Lib.hid hp2
                    have P2L := Lib.hid (show p2.length ≤ 130 by rw [← hp2, List.length_append]; have := P1L.out; simp; omega)
                    have HTL := Lib.hid (show p ++ tailR x.k = p2 by rw [← hp2, ← hp1]; unfold tailR; rw [HTE.out]; simp)
                    clear hp1 hp2
                    go_upto_region 22 with (first | (go_at_call 28; refine (refP_any _ _).mono ?_; rintro e w5 ⟨rfl, hb⟩; rw [intV_one]; have R5 := Lib.hid (R4.out.below hb); clear hb y0 la) | (at_builtin; refine append_inss rfl (.tmp 112) (.tmp 114) rfl W.heap.size (.slice A4 p.length c4) p rfl (R5.out.alloc (.cells (insC [oneI]).toArray 64)).row.1 R5.out.row.2 ⟨w5.heap.size, 0, none⟩ 1 1 [oneI] rfl rfl (made_cells w5 [oneI]) (by decide) (by have := PL.out; simp; omega) (R5.out.alloc _).bl.size p1 HP1.out ?_; intro A6 c6 w6 hr hg; have R6 := Lib.hid ((R5.out.alloc (.cells (insC [oneI]).toArray 64)).more hr hg); clear hr hg))
                    go_upto_region 23 with (first | (go_at_call 29; refine (refO_any _ _ _).mono ?_; rintro e w7 ⟨rfl, hb⟩; have R7 := Lib.hid (R6.out.below hb); clear hb) | (at_builtin; refine append_inss rfl (.tmp 116) (.tmp 118) rfl W.heap.size (.slice A6 p1.length c6) p1 rfl (R7.out.alloc (.cells (insC [outI]).toArray 64)).row.1 R7.out.row.2 ⟨w7.heap.size, 0, none⟩ 1 1 [outI] rfl rfl (made_cells w7 [outI]) (by decide) (by have := P1L.out; simp; omega) (R7.out.alloc _).bl.size p2 HP2.out ?_; intro A8 c8 w8 hr hg; have R8 := Lib.hid ((R7.out.alloc (.cells (insC [outI]).toArray 64)).more hr hg); clear hr hg))
                    have HRE := Lib.hid (show P = if 64 ≤ p2.length then (4, []) else runRf sz tv p2 (cs.drop (j + 1)) by rw [HRD.out, HTL.out])
                    clear HRD
                    by_cases h64 : 64 ≤ p2.length
                    · have v1 : decide (64 ≤ p2.length) = true := decide_eq_true h64
                      have v2 : decide ((64 : Int) ≤ (p2.length : Int)) = true := decide_eq_true (by omega)
                      have v3 : decide ((p2.length : Int) ≥ 64) = true := v2
                      have EE := Lib.hid (show P = (4, []) by rw [HRE.out, if_pos h64])
                      clear h64 HRE
                      go_wp2_with fail
                      go_ret2
                      rw [EE.out]
                      exact ⟨none, 0, rfl, nrow_nil _ _, R8.out.bl⟩
                    · have v1 : decide (64 ≤ p2.length) = false := decide_eq_false h64
                      have v2 : decide ((64 : Int) ≤ (p2.length : Int)) = false := decide_eq_false (by omega)
                      have v3 : decide ((p2.length : Int) ≥ 64) = false := v2
                      have EE := Lib.hid (show P = runRf sz tv p2 (cs.drop (j + 1)) by rw [HRE.out, if_neg h64])
                      have L64 := Lib.hid (show p2.length < 64 by omega)
                      clear h64 HRE
                      go_wp2_with fail
                      go_roundg (cs.length - (j + 1))
                      case measure => have := HLT.out; omega
                      case rel => exact ⟨j + 1, p2, A8, c8, HLT.out, rfl, by first | rfl | (rw [s5]; rfl), rfl, EE, L64, R8⟩
                  · have n7 : (x.k != 7) = false := by unfold bne; rw [k7]; rfl
                    have HTE := Lib.hid (show tellB x.k = true by unfold tellB; rw [k2, k6, k7]; rfl)
                    obtain ⟨p2, hp2⟩ : ∃ q, p ++ [outI] = q := ⟨_, rfl⟩
                    have HP2 := Lib.hid hp2
                    have P2L := Lib.hid (show p2.length ≤ 130 by rw [← hp2, List.length_append]; have := PL.out; simp; omega)
                    have HTL := Lib.hid (show p ++ tailR x.k = p2 by rw [← hp2]; unfold tailR; rw [HTE.out]; simp)
                    clear hp2
                    go_upto_region 23 with (first | (go_at_call 29; refine (refO_any _ _ _).mono ?_; rintro e w7 ⟨rfl, hb⟩; have R7 := Lib.hid (R4.out.below hb); clear hb y0 la) | (at_builtin; refine append_inss rfl (.tmp 116) (.tmp 118) rfl W.heap.size (.slice A4 p.length c4) p rfl (R7.out.alloc (.cells (insC [outI]).toArray 64)).row.1 R7.out.row.2 ⟨w7.heap.size, 0, none⟩ 1 1 [outI] rfl rfl (made_cells w7 [outI]) (by decide) (by have := PL.out; simp; omega) (R7.out.alloc _).bl.size p2 HP2.out ?_; intro A8 c8 w8 hr hg; have R8 := Lib.hid ((R7.out.alloc (.cells (insC [outI]).toArray 64)).more hr hg); clear hr hg))
                    have HRE := Lib.hid (show P = if 64 ≤ p2.length then (4, []) else runRf sz tv p2 (cs.drop (j + 1)) by rw [HRD.out, HTL.out])
                    clear HRD
                    by_cases h64 : 64 ≤ p2.length
                    · have v1 : decide (64 ≤ p2.length) = true := decide_eq_true h64
                      have v2 : decide ((64 : Int) ≤ (p2.length : Int)) = true := decide_eq_true (by omega)
                      have v3 : decide ((p2.length : Int) ≥ 64) = true := v2
                      have EE := Lib.hid (show P = (4, []) by rw [HRE.out, if_pos h64])
                      clear h64 HRE
                      go_wp2_with fail
                      go_ret2
                      rw [EE.out]
                      exact ⟨none, 0, rfl, nrow_nil _ _, R8.out.bl⟩
                    · have v1 : decide (64 ≤ p2.length) = false := decide_eq_false h64
                      have v2 : decide ((64 : Int) ≤ (p2.length : Int)) = false := decide_eq_false (by omega)
                      have v3 : decide ((p2.length : Int) ≥ 64) = false := v2
                      have EE := Lib.hid (show P = runRf sz tv p2 (cs.drop (j + 1)) by rw [HRE.out, if_neg h64])
                      have L64 := Lib.hid (show p2.length < 64 by omega)
                      clear h64 HRE
                      go_wp2_with fail
                      go_roundg (cs.length - (j + 1))
                      case measure => have := HLT.out; omega
                      case rel => exact ⟨j + 1, p2, A8, c8, HLT.out, rfl, by first | rfl | (rw [s5]; rfl), rfl, EE, L64, R8⟩
                · have n6 : (x.k != 6) = false := by unfold bne; rw [k6]; rfl
                  have HTE := Lib.hid (show tellB x.k = true by unfold tellB; rw [k2, k6]; rfl)
                  obtain ⟨p2, hp2⟩ : ∃ q, p ++ [outI] = q := ⟨_, rfl⟩
                  have HP2 := Lib.hid hp2
                  have P2L := Lib.hid (show p2.length ≤ 130 by rw [← hp2, List.length_append]; have := PL.out; simp; omega)
                  have HTL := Lib.hid (show p ++ tailR x.k = p2 by rw [← hp2]; unfold tailR; rw [HTE.out]; simp)
                  clear hp2
                  go_upto_region 23 with (first | (go_at_call 29; refine (refO_any _ _ _).mono ?_; rintro e w7 ⟨rfl, hb⟩; have R7 := Lib.hid (R4.out.below hb); clear hb y0 la) | (at_builtin; refine append_inss rfl (.tmp 116) (.tmp 118) rfl W.heap.size (.slice A4 p.length c4) p rfl (R7.out.alloc (.cells (insC [outI]).toArray 64)).row.1 R7.out.row.2 ⟨w7.heap.size, 0, none⟩ 1 1 [outI] rfl rfl (made_cells w7 [outI]) (by decide) (by have := PL.out; simp; omega) (R7.out.alloc _).bl.size p2 HP2.out ?_; intro A8 c8 w8 hr hg; have R8 := Lib.hid ((R7.out.alloc (.cells (insC [outI]).toArray 64)).more hr hg); clear hr hg))
                  have HRE := Lib.hid (show P = if 64 ≤ p2.length then (4, []) else runRf sz tv p2 (cs.drop (j + 1)) by rw [HRD.out, HTL.out])
                  clear HRD
                  by_cases h64 : 64 ≤ p2.length
                  · have v1 : decide (64 ≤ p2.length) = true := decide_eq_true h64
                    have v2 : decide ((64 : Int) ≤ (p2.length : Int)) = true := decide_eq_true (by omega)
                    have v3 : decide ((p2.length : Int) ≥ 64) = true := v2
                    have EE := Lib.hid (show P = (4, []) by rw [HRE.out, if_pos h64])
                    clear h64 HRE
                    go_wp2_with fail
                    go_ret2
                    rw [EE.out]
                    exact ⟨none, 0, rfl, nrow_nil _ _, R8.out.bl⟩
                  · have v1 : decide (64 ≤ p2.length) = false := decide_eq_false h64
                    have v2 : decide ((64 : Int) ≤ (p2.length : Int)) = false := decide_eq_false (by omega)
                    have v3 : decide ((p2.length : Int) ≥ 64) = false := v2
                    have EE := Lib.hid (show P = runRf sz tv p2 (cs.drop (j + 1)) by rw [HRE.out, if_neg h64])
                    have L64 := Lib.hid (show p2.length < 64 by omega)
                    clear h64 HRE
                    go_wp2_with fail
                    go_roundg (cs.length - (j + 1))
                    case measure => have := HLT.out; omega
                    case rel => exact ⟨j + 1, p2, A8, c8, HLT.out, rfl, by first | rfl | (rw [s5]; rfl), rfl, EE, L64, R8⟩
              · have n2 : (x.k != 2) = false := by unfold bne; rw [k2]; rfl
                have HTE := Lib.hid (show tellB x.k = true by unfold tellB; rw [k2]; rfl)
                obtain ⟨p2, hp2⟩ : ∃ q, p ++ [outI] = q := ⟨_, rfl⟩
                have HP2 := Lib.hid hp2
                have P2L := Lib.hid (show p2.length ≤ 130 by rw [← hp2, List.length_append]; have := PL.out; simp; omega)
                have HTL := Lib.hid (show p ++ tailR x.k = p2 by rw [← hp2]; unfold tailR; rw [HTE.out]; simp)
                clear hp2
                go_upto_region 23 with (first | (go_at_call 29; refine (refO_any _ _ _).mono ?_; rintro e w7 ⟨rfl, hb⟩; have R7 := Lib.hid (R4.out.below hb); clear hb y0 la) | (at_builtin; refine append_inss rfl (.tmp 116) (.tmp 118) rfl W.heap.size (.slice A4 p.length c4) p rfl (R7.out.alloc (.cells (insC [outI]).toArray 64)).row.1 R7.out.row.2 ⟨w7.heap.size, 0, none⟩ 1 1 [outI] rfl rfl (made_cells w7 [outI]) (by decide) (by have := PL.out; simp; omega) (R7.out.alloc _).bl.size p2 HP2.out ?_; intro A8 c8 w8 hr hg; have R8 := Lib.hid ((R7.out.alloc (.cells (insC [outI]).toArray 64)).more hr hg); clear hr hg))
                have HRE := Lib.hid (show P = if 64 ≤ p2.length then (4, []) else runRf sz tv p2 (cs.drop (j + 1)) by rw [HRD.out, HTL.out])
                clear HRD
                by_cases h64 : 64 ≤ p2.length
                · have v1 : decide (64 ≤ p2.length) = true := decide_eq_true h64
                  have v2 : decide ((64 : Int) ≤ (p2.length : Int)) = true := decide_eq_true (by omega)
                  have v3 : decide ((p2.length : Int) ≥ 64) = true := v2
                  have EE := Lib.hid (show P = (4, []) by rw [HRE.out, if_pos h64])
                  clear h64 HRE
                  go_wp2_with fail
                  go_ret2
                  rw [EE.out]
                  exact ⟨none, 0, rfl, nrow_nil _ _, R8.out.bl⟩
                · have v1 : decide (64 ≤ p2.length) = false := decide_eq_false h64
                  have v2 : decide ((64 : Int) ≤ (p2.length : Int)) = false := decide_eq_false (by omega)
                  have v3 : decide ((p2.length : Int) ≥ 64) = false := v2
                  have EE := Lib.hid (show P = runRf sz tv p2 (cs.drop (j + 1)) by rw [HRE.out, if_neg h64])
                  have L64 := Lib.hid (show p2.length < 64 by omega)
                  clear h64 HRE
                  go_wp2_with fail
                  go_roundg (cs.length - (j + 1))
                  case measure => have := HLT.out; omega
                  case rel => exact ⟨j + 1, p2, A8, c8, HLT.out, rfl, by first | rfl | (rw [s5]; rfl), rfl, EE, L64, R8⟩
            · have z1 : (re == 0) = false := by simpa using h0
              have EE := Lib.hid (show P = (re, []) by rw [HRC.out, if_neg h0])
              clear HRC h0
              go_wp2_with fail
              go_ret2
              rw [EE.out]
              exact ⟨none, 0, rfl, nrow_nil _ _, R3.out.bl⟩
          · obtain rfl : j = cs.length := by omega
            have t1 : decide (cs.length < cs.length) = false := decide_eq_false (by omega)
            have t1' : decide ((cs.length : Int) < (cs.length : Int)) = false := decide_eq_false (by omega)
            have EE := Lib.hid (show P = (0, l ++ [haltI]) by rw [HR.out, List.drop_length]; rfl)
            obtain ⟨p, hp⟩ : ∃ p, l ++ [haltI] = p := ⟨_, rfl⟩
            rw [hp] at EE
            have HPP := Lib.hid hp
            clear hp HR
            go_wp2_with (first | (go_at_call 29; refine (refO_any _ _ _).mono ?_; rintro e w3 ⟨rfl, hb⟩; have R3 := Lib.hid (RR.out.below hb); clear hb) | (at_builtin; refine append_inss rfl (.tmp 123) (.tmp 125) rfl W.heap.size (.slice A' l.length c') l rfl (R3.out.alloc (.cells (insC [haltI]).toArray 64)).row.1 R3.out.row.2 ⟨w3.heap.size, 0, none⟩ 1 1 [haltI] rfl rfl (made_cells w3 [haltI]) (by decide) (by have := HLL.out; simp; omega) (R3.out.alloc _).bl.size p HPP.out ?_; intro A4 c4 w4 hr hg; have R4 := Lib.hid ((R3.out.alloc (.cells (insC [haltI]).toArray 64)).more hr hg); clear hr hg))
            go_ret2
            rw [EE.out]
            exact ⟨A4, c4, rfl, R4.out.row, R4.out.bl⟩
end Go.Proofs.Ytmmfadakhnagpaa
