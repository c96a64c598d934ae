
/-
  rowlockref15.Brackets: the walk.
-/
import Derived.Test.YtcjkpeojjonpiaaCk2
namespace Go.Proofs.Ytcjkpeojjonpiaa
open Go.RowKit Go.ChangeShapes Go.WideShapes
set_option linter.unusedSimpArgs false
set_option linter.unusedVariables false

theorem lastB {n : Nat} {opn : List Int} (h : inN n opn) : (opn = [] ∧ topB opn = -1 ∧ opn.length = 0) ∨ ∃ m a, opn = m ++ [a] ∧ topB opn = a ∧ opn.length = m.length + 1 ∧ 0 ≤ a ∧ a < (n : Int) := by
  rcases topB_cases h with ⟨h1, h2⟩ | ⟨m, a, h1, h2, h3, h4⟩
  · exact .inl ⟨h1, h2, by rw [h1]; rfl⟩
  · exact .inr ⟨m, a, h1, h2, by rw [h1]; simp, h3, h4⟩
set_option maxRecDepth 100000 in
set_option maxHeartbeats 16000000 in
theorem brackets_any (l : List Ins3) (hl : l.length ≤ 100) (A : Option Addr) (c : Nat) (W : World) (hs : InssAt W A l) : Calls Try.prog 66 #[.slice A l.length c, .bool true] W (BrPost l W) := by
  have HSh := Lib.hid hs
  have HL := Lib.hid hl
  obtain ⟨nl, hnl'⟩ : ∃ n, l.length = n := ⟨_, rfl⟩
  have HNL := Lib.hid hnl'
  rw [hnl'] at HL ⊢
  clear hs hl hnl'
  go_enter Try.func66, Try.ntmps66
  go_wp2_with fail
  go_loopg [8, 9, 10, 11, 12] nl (fun gm s8 s9 s10 s11 s12 wx => ∃ (j : Nat) (Ai : Option Addr) (ci : Nat) (Ae : Option Addr) (ce : Nat) (Ao : Option Addr) (co : Nat) (en : List Int), j ≤ nl ∧ gm = nl - j ∧ s8 = .slice Ai (runBk l j).ins.length ci ∧ s9 = .slice Ae en.length ce ∧ s10 = .slice Ao (runBk l j).opn.length co ∧ s11 = .int .i64 (runBk l j).wg ∧ s12 = .int .i64 j ∧ Hid (en.length = j) ∧ Hid (BrX W wx Ai ci Ae ce Ao co (runBk l j).ins en (runBk l j).opn))
  case atStart => exact ⟨0, none, 0, none, 0, none, 0, [], Nat.zero_le _, rfl, rfl, rfl, rfl, rfl, rfl, Lib.hid rfl, Lib.hid ⟨irow_nil _ _, irow_nil _ _, irow_nil _ _, fun k hk => by simp [iblk] at hk, fun k hk => by simp [iblk] at hk, fun k hk => by simp [iblk] at hk, Below.refl _ _⟩⟩
  case round =>
    obtain ⟨j, Ai, ci, Ae, ce, Ao, co, en, hj, rfl, rfl, rfl, rfl, rfl, rfl, HEL, HX⟩ := hrel
    obtain ⟨hB, hno, hni, hw1, hw2⟩ := runBk_inv l j
    obtain ⟨st, HR⟩ : ∃ st, Hid (runBk l j = st) := ⟨_, Lib.hid rfl⟩
    rw [HR.out] at HX hB hno hni hw1 hw2 ⊢
    obtain ⟨ins, opn, wg⟩ := st
    dsimp only at HX hB hno hni hw1 hw2 ⊢
    obtain ⟨t, ht⟩ : ∃ t, topB opn = t := ⟨_, rfl⟩
    obtain ⟨no, hno'⟩ : ∃ n, opn.length = n := ⟨_, rfl⟩
    have htc := lastB hB
    have ht64 : I64 t := by have := topB_lo hB; rw [ht] at this; have := HL.out; exact ⟨by omega, by omega⟩
    rw [ht, hno'] at htc
    rw [hno'] at hno ⊢
    have HTC := Lib.hid htc
    have HTT := Lib.hid ht
    have HNO := Lib.hid hno'
    have HRB := Lib.hid hB
    have HT64 := Lib.hid ht64
    have HIL := Lib.hid hni
    have HWG := Lib.hid (And.intro hw1 hw2)
    have HOJ := Lib.hid hno
    clear htc ht hno' hB ht64 hni hw1 hw2 hno
    obtain ⟨i2, HI2⟩ : ∃ y, Hid (ins ++ [t] = y) := ⟨_, Lib.hid rfl⟩
    obtain ⟨e2, HE2⟩ : ∃ y, Hid (en ++ [-1] = y) := ⟨_, Lib.hid rfl⟩
    by_cases hlt : j < nl
    · have s1 : decide ((j : Int) < (nl : Int)) = true := decide_eq_true (by omega)
      have s2 : decide (j < nl) = true := decide_eq_true hlt
      have s3 : (j : Int) < (nl : Int) := by omega
      have s4 : (0 : Int) ≤ (j : Int) := by omega
      have s5 : wrap64 ((j : Int) + 1) = (j : Int) + 1 := by have := HL.out; unfold wrap64; omega
      have HJL := Lib.hid (show j < l.length by have := HNL.out; omega)
      obtain ⟨⟨op, ag, vv⟩, hop⟩ : ∃ x, xn l j = x := ⟨_, rfl⟩
      have HOP := Lib.hid hop
      have HST := Lib.hid (show runBk l (j + 1) = stepBk l ⟨ins, opn, wg⟩ j by rw [← HR.out]; rfl)
      obtain ⟨cl, HCL⟩ : ∃ y, Hid (closesI op = y) := ⟨_, Lib.hid rfl⟩
      obtain ⟨ba, HBA⟩ : ∃ y, Hid (badA l opn op = y) := ⟨_, Lib.hid rfl⟩
      obtain ⟨bd, HBD⟩ : ∃ y, Hid ((badA l opn op || badC l opn op) = y) := ⟨_, Lib.hid rfl⟩
      obtain ⟨oc, HOC⟩ : ∃ y, Hid (opnC l opn op = y) := ⟨_, Lib.hid rfl⟩
      obtain ⟨wc', HWC⟩ : ∃ y, Hid (wgC l opn op wg j = y) := ⟨_, Lib.hid rfl⟩
      have HIN := Lib.hid HIL.out
      have HEN := Lib.hid HEL.out
      clear HR hop hj hlt
      go_upto_if 25 with fail
      go_cut [13] (fun s13 wx => wr = wx ∧ s13 = .int .i64 t)
      case first =>
        rcases HTC.out with ⟨ho, ht, hn⟩ | ⟨m, a, ho, ht, hn, h0, h1⟩
        · have HT := Lib.hid ht
          subst hn
          clear ho ht
          go_wp2_with fail
          go_meet
          exact ⟨rfl, by rw [HT.out]⟩
        · obtain ⟨go, eo, xo, _, lo⟩ := irow_head HX.out.ro (i := m.length) (by rw [ho]; simp)
          have hva : ivAt opn m.length = a := by rw [ho]; unfold ivAt; simp
          rw [hva] at xo
          obtain ⟨k, hk⟩ : ∃ k, m.length = k := ⟨_, rfl⟩
          rw [hk] at xo hn
          have hk1 : k ≤ 100 := by have := HL.out; have := HOJ.out; omega
          have e4 : wrap64 (((k + 1 : Nat) : Int) - 1) = (k : Int) := by unfold wrap64; omega
          have e5 : wrap64 ((k : Int) + 1 - 1) = (k : Int) := by unfold wrap64; omega
          have e6 : (0 : Int) ≤ (k : Int) := by omega
          have e7 : wrap64 (k : Int) = (k : Int) := by unfold wrap64; omega
          subst eo
          subst hn
          have HT := Lib.hid ht
          clear ho ht h0 h1 hva hk hk1
          go_wp2_with fail
          go_meet
          exact ⟨rfl, by rw [HT.out]⟩
      obtain ⟨rfl, rfl⟩ := hcut
      obtain ⟨ad, rfl, _⟩ := xn_at (inss_below HSh.out HX.out.bl) HJL.out
      have hx3 := xn_some (inss_below HSh.out HX.out.bl) HJL.out
      rw [HOP.out] at hx3
      obtain ⟨_, xa, _, _⟩ := hx3
      dsimp only at xa
      have la := World.block_lt_of_cell? wr _ xa
      go_upto_region 11 with (go_loud (first | (at_builtin; refine append_ints' (ok := fun _ => True) rfl (.tmp 37) (.tmp 39) rfl W.heap.size Ai ci ins rfl (HX.out.alloc (.cells #[.int .i64 t] 3)).ri (some ⟨_, 0, none⟩) 1 [t] rfl (fun h => by cases h) (ints_lit' _ _ HT64.out _ rfl) (by have := HIL.out; have := HL.out; simp; omega) (HX.out.alloc (.cells #[.int .i64 t] 3)).bl.size i2 HI2.out ?_; intro A2 c2 w2 hr2 hg2 hat2; have X2 := Lib.hid ((HX.out.alloc (.cells #[.int .i64 t] 3)).pushI hr2 hg2 hat2); clear hr2 hg2 hat2) | (at_builtin; refine append_ints' (ok := fun _ => True) rfl (.tmp 41) (.tmp 42) rfl W.heap.size Ae ce en rfl (X2.out.alloc (.cells #[.int .i64 (-1)] 3)).re (some ⟨_, 0, none⟩) 1 [-1] rfl (fun h => by cases h) (ints_lit' _ _ ⟨by decide, by decide⟩ _ rfl) (by have := HEL.out; have := HL.out; simp; omega) (X2.out.alloc (.cells #[.int .i64 (-1)] 3)).bl.size e2 HE2.out ?_; intro A3 c3 w3 hr3 hg3 hat3; have X3 := Lib.hid ((X2.out.alloc (.cells #[.int .i64 (-1)] 3)).pushE hr3 hg3 hat3); clear hr3 hg3 hat3)))
      clear xa la
      have HE2L := Lib.hid (show e2.length = j + 1 by rw [← HE2.out, List.length_append, HEL.out]; rfl)
      have HADL := Lib.hid (show ∀ w : World, Below W.heap.size W w → ad.block < w.heap.size from fun w hb => by
        have h := xn_some (inss_below HSh.out hb) HJL.out
        have h2 := inAt_lt h
        have e : (ad.add (j * 3)).block = ad.block := by unfold Addr.add; split <;> rfl
        omega)
      go_cut [15] (fun s15 wx => w3 = wx ∧ s15 = .bool ba)
      case first =>
        cases k21 : (op == 21)
        · cases k23 : (op == 23)
          · have e : ba = false := by rw [← HBA.out]; unfold badA; rw [k21, k23]; rfl
            have E := Lib.hid e
            clear e
            go_wp2_with fail
            go_meet
            exact ⟨rfl, by rw [E.out]⟩
          · by_cases ht : t < 0
            · have f1 : decide (t < 0) = true := decide_eq_true ht
              have e : ba = true := by rw [← HBA.out]; unfold badA; rw [HTT.out, k21, k23, f1]; rfl
              have E := Lib.hid e
              clear e ht
              go_wp2_with fail
              go_meet
              exact ⟨rfl, by rw [E.out]⟩
            · have f1 : decide (t < 0) = false := decide_eq_false ht
              have e : ba = decide ((armsI l opn : Int) ≥ 4) := by rw [← HBA.out]; unfold badA; rw [HTT.out, k21, k23, f1]; rfl
              have E := Lib.hid e
              clear e ht
              obtain ⟨n4, hn4⟩ : ∃ n, armsI l opn = n := ⟨_, rfl⟩
              have HA := Lib.hid (show ∀ w : World, Below W.heap.size W w → IntsAt okAny w Ao opn → Calls Try.prog 82 #[.slice (some ad) nl c, .slice Ao no co] w fun e w' => e = .returned (.int .i64 (n4 : Int)) ∧ w = w' from fun w hb hi => by rw [← hn4, ← HNL.out, ← HNO.out]; exact arms_any l (some ad) c opn Ao co (fun x hx => by have := HRB.out x hx; have := HJL.out; omega) (by have := HL.out; have := HNO.out; have := HOJ.out; have := HJL.out; have := HNL.out; omega) w (inss_below HSh.out hb) hi)
              rw [hn4] at E
              clear hn4
              by_cases h4 : (n4 : Int) ≥ 4
              · have g1 : decide ((n4 : Int) ≥ 4) = true := decide_eq_true h4
                have g2 : decide ((4 : Int) ≤ (n4 : Int)) = true := g1
                have g3 : decide (4 ≤ n4) = true := decide_eq_true (by omega)
                have E2 := Lib.hid (E.out.trans g1)
                clear h4
                go_wp2_with (go_at_call 82; refine (HA.out _ X3.out.bl (irow_ints X3.out.ro)).mono ?_; rintro e w' ⟨rfl, rfl⟩)
                go_meet
                exact ⟨rfl, by rw [E2.out]⟩
              · have g1 : decide ((n4 : Int) ≥ 4) = false := decide_eq_false h4
                have g2 : decide ((4 : Int) ≤ (n4 : Int)) = false := g1
                have g3 : decide (4 ≤ n4) = false := decide_eq_false (by omega)
                have E2 := Lib.hid (E.out.trans g1)
                clear h4
                go_wp2_with (go_at_call 82; refine (HA.out _ X3.out.bl (irow_ints X3.out.ro)).mono ?_; rintro e w' ⟨rfl, rfl⟩)
                go_meet
                exact ⟨rfl, by rw [E2.out]⟩
        · have h21 : op = 21 := by simpa using k21
          by_cases ht : t ≥ 0
          · have f1 : decide (t ≥ 0) = true := decide_eq_true ht
            have f2 : decide ((0 : Int) ≤ t) = true := f1
            have e : ba = true := by rw [← HBA.out]; unfold badA; rw [HTT.out, k21, f1]; rfl
            have E := Lib.hid e
            clear e ht h21
            go_wp2_with fail
            go_meet
            exact ⟨rfl, by rw [E.out]⟩
          · have f1 : decide (t ≥ 0) = false := decide_eq_false ht
            have f2 : decide ((0 : Int) ≤ t) = false := f1
            have e : ba = false := by rw [← HBA.out]; unfold badA; rw [HTT.out, h21, f1]; rfl
            have k23 : (op == 23) = false := by rw [h21]; rfl
            have E := Lib.hid e
            clear e ht h21
            go_wp2_with fail
            go_meet
            exact ⟨rfl, by rw [E.out]⟩
      obtain ⟨rfl, rfl⟩ := hcut
      go_upto_if 67 with (go_at_call 83; refine (closes_any _ _).mono ?_; rintro e w' ⟨rfl, rfl⟩; rw [HCL.out])
      go_cut [10, 11, 15] (fun s10 s11 s15 wx => ∃ (A5 : Option Addr) (c5 : Nat) (en5 : List Int), Hid (en5.length = j + 1) ∧ s10 = .slice A5 oc.length c5 ∧ s11 = .int .i64 wc' ∧ s15 = .bool bd ∧ Hid (BrX W wx A2 c2 A3 c3 A5 c5 i2 en5 oc))
      case first =>
        by_cases hc : cl = 0
        · have q1 : (cl != 0) = false := by rw [hc]; rfl
          have q2 : (cl == 0) = true := by rw [hc]; rfl
          have f0 : fitC l opn op = false := by unfold fitC; rw [HCL.out, q1]; rfl
          have E1 := Lib.hid (show oc = opn by rw [← HOC.out]; unfold opnC; rw [f0]; rfl)
          have E2 := Lib.hid (show wc' = wg by rw [← HWC.out]; unfold wgC; rw [f0]; rfl)
          have E3 := Lib.hid (show bd = ba by rw [← HBD.out]; unfold badC; rw [HCL.out, q1, HBA.out]; simp)
          clear f0 hc
          go_wp2_with fail
          go_meet
          exact ⟨Ao, co, e2, HE2L, by rw [E1.out, HNO.out], by rw [E2.out], by rw [E3.out], Lib.hid (by rw [E1.out]; exact X3.out)⟩
        · have q1 : (cl != 0) = true := by simpa using hc
          have q2 : (cl == 0) = false := by simpa using hc
          rcases HTC.out with ⟨ho, ht, hn⟩ | ⟨m, a, ho, ht, hn, h0, h1⟩
          · have p1 : decide (t < 0) = true := decide_eq_true (by omega)
            have f0 : fitC l opn op = false := by unfold fitC; rw [HTT.out, p1]; simp
            have E1 := Lib.hid (show oc = opn by rw [← HOC.out]; unfold opnC; rw [f0]; rfl)
            have E2 := Lib.hid (show wc' = wg by rw [← HWC.out]; unfold wgC; rw [f0]; rfl)
            have E3 := Lib.hid (show bd = true by rw [← HBD.out]; unfold badC; rw [HCL.out, q1, f0]; simp)
            clear f0 hc ho ht hn
            go_wp2_with fail
            go_meet
            exact ⟨Ao, co, e2, HE2L, by rw [E1.out, HNO.out], by rw [E2.out], by rw [E3.out], Lib.hid (by rw [E1.out]; exact X3.out)⟩
          · have p1 : decide (t < 0) = false := decide_eq_false (by omega)
            obtain ⟨k, hk⟩ : ∃ k : Nat, t = (k : Int) := ⟨t.toNat, by omega⟩
            have hkl : k < l.length := by have := HJL.out; omega
            have hkj : k < j := by omega
            have hy3 := xn_some (inss_below HSh.out X3.out.bl) hkl
            obtain ⟨⟨oq, aq, vq⟩, hxq⟩ : ∃ x, xn l k = x := ⟨_, rfl⟩
            rw [hxq] at hy3
            obtain ⟨_, ya, yb, _⟩ := hy3
            dsimp only at ya yb
            have ly := World.block_lt_of_cell? w3 _ ya
            have lad := HADL.out _ X3.out.bl
            have r1 : (k : Int) < (nl : Int) := by have := HNL.out; omega
            have r2 : (0 : Int) ≤ (k : Int) := by omega
            have HXQ := Lib.hid hxq
            have HKJ := Lib.hid hkj
            have HTK := Lib.hid (show topB opn = (k : Int) by rw [HTT.out, hk])
            have HMN := Lib.hid hn
            have HMO := Lib.hid ho
            clear hxq hkj hkl h0 h1 hn ho ht
            subst hk
            cases hoq : (oq == cl)
            · have q5 : (oq != cl) = true := by simp [bne, hoq]
              have f0 : fitC l opn op = false := by unfold fitC; rw [HTK.out, HCL.out, Int.toNat_natCast, HXQ.out, hoq]; simp
              have E1 := Lib.hid (show oc = opn by rw [← HOC.out]; unfold opnC; rw [f0]; rfl)
              have E2 := Lib.hid (show wc' = wg by rw [← HWC.out]; unfold wgC; rw [f0]; rfl)
              have E3 := Lib.hid (show bd = true by rw [← HBD.out]; unfold badC; rw [HCL.out, q1, f0]; simp)
              clear f0 hc
              go_wp2_with fail
              go_meet
              exact ⟨Ao, co, e2, HE2L, by rw [E1.out, HNO.out], by rw [E2.out], by rw [E3.out], Lib.hid (by rw [E1.out]; exact X3.out)⟩
            · have q5 : (oq != cl) = false := by simp [bne, hoq]
              have f0 : fitC l opn op = true := by unfold fitC; rw [HTK.out, HCL.out, Int.toNat_natCast, HXQ.out, hoq, q1, p1]; rfl
              have E1 := Lib.hid (show oc = m by rw [← HOC.out]; unfold opnC; rw [f0, if_pos rfl, HMO.out, List.dropLast_concat])
              have EW := Lib.hid (show wc' = if (aq != (j : Int) && lessW (k : Int) wg) = true then (k : Int) else wg by rw [← HWC.out]; unfold wgC; rw [f0, HTK.out, Int.toNat_natCast, HXQ.out]; simp)
              have E3 := Lib.hid (show bd = ba by rw [← HBD.out]; unfold badC; rw [f0, HBA.out]; simp)
              obtain ⟨ge, eE, xe, xf, le⟩ := irow_head X3.out.re (i := k) (by have := HE2L.out; have := HKJ.out; omega)
              subst eE
              obtain ⟨go, eO, _, _, lo⟩ := irow_head X3.out.ro (i := m.length) (by rw [HMO.out]; simp)
              subst eO
              have s1 : (k : Int) < (e2.length : Int) := by have := HE2L.out; have := HKJ.out; omega
              clear f0 hc
              go_upto_region 17 with fail
              have X4 := Lib.hid (X3.out.setE (i := k) (v := (j : Int)) (by have := HE2L.out; have := HKJ.out; omega) ⟨by omega, by have := HJL.out; have := HL.out; have := HNL.out; omega⟩)
              clear xe xf le lo ya yb ly lad
              generalize w3.setCell _ _ = w4 at X4 ⊢
              have HM4 := Lib.hid (show IRowAt w4 W.heap.size (some ⟨go, 0, none⟩) co m from by have := X4.out.ro; rw [HMO.out] at this; exact irow_pop1 this)
              obtain ⟨mk, HK⟩ : ∃ x, Hid (m.length = x) := ⟨_, Lib.hid rfl⟩
              have HM1 := Lib.hid (show m.length ≤ 100 by have := HMN.out; have := HL.out; have := HOJ.out; have := HJL.out; have := HNL.out; omega)
              rw [HK.out] at HMN
              have t1 : wrap64 ((no : Int) - 1) = (mk : Int) := by have := HMN.out; have := HL.out; have := HOJ.out; have := HJL.out; have := HNL.out; unfold wrap64; omega
              have t2 : mk ≤ no := by have := HMN.out; omega
              have t3 : mk ≤ co := by have := (irow_cp X4.out.ro).1; have := HMN.out; have := HNO.out; omega
              have t4 : (mk : Int) ≤ (co : Int) := by omega
              have t5 : (0 : Int) ≤ (mk : Int) := by omega
              go_upto_region 18 with (go_loud (at_builtin; refine append_ints' (ok := okAny) rfl (.tmp 83) (.tmp 88) rfl W.heap.size (some ⟨w4.heap.size, 0, none⟩) 0 [] rfl (irow_at0 (heap_alloc_new w4 _) X4.out.bl.size) (some ⟨go, 0, none⟩) co m (by rw [HK.out]; rfl) (fun h => by cases h) (irow_ints (irow_below HM4.out ((Below.refl _ _).alloc (Nat.le_refl _) _))) (by have := HM1.out; simp; omega) (Nat.le_trans X4.out.bl.size (by simp)) m rfl ?_; intro A5 c5 w5 hr5 hg5 hat5; have X5 := Lib.hid (X4.out.newO ((Below.refl _ _).alloc (Nat.le_refl _) _) hr5 hg5 (fun k hk => by simp [iblk] at hk; omega) (fun k hk => by rcases hat5 with e | e <;> (rw [e] at hk; simp [iblk] at hk; omega))); clear hr5 hg5 hat5))
              clear t1 t2 t3 t4 t5
              have hz3 := xn_some (inss_below HSh.out X5.out.bl) (j := k) (by have := HKJ.out; have := HJL.out; omega)
              rw [HXQ.out] at hz3
              obtain ⟨_, _, zb, _⟩ := hz3
              dsimp only at zb
              have lz := World.block_lt_of_cell? w5 _ zb
              have lzd := HADL.out _ X5.out.bl
              cases ha : (aq != (j : Int))
              · have v0 := ha
                have ha' : (aq == (j : Int)) = true := by simpa [bne] using ha
                have E2 := Lib.hid (show wc' = wg by rw [EW.out, ha]; rfl)
                go_wp2_with fail
                go_meet
                exact ⟨A5, c5, e2.set k (j : Int), Lib.hid (by rw [List.length_set]; exact HE2L.out), by rw [E1.out, HK.out], by rw [E2.out], by rw [E3.out], Lib.hid (by rw [E1.out]; exact X5.out)⟩
              · have ha' : (aq == (j : Int)) = false := by simpa [bne] using ha
                by_cases hw : wg < 0
                · have y1 : decide (wg < 0) = true := decide_eq_true hw
                  have E2 := Lib.hid (show wc' = (k : Int) by rw [EW.out, ha]; unfold lessW; rw [y1]; rfl)
                  clear hw
                  go_wp2_with fail
                  go_meet
                  exact ⟨A5, c5, e2.set k (j : Int), Lib.hid (by rw [List.length_set]; exact HE2L.out), by rw [E1.out, HK.out], by rw [E2.out], by rw [E3.out], Lib.hid (by rw [E1.out]; exact X5.out)⟩
                · have y1 : decide (wg < 0) = false := decide_eq_false hw
                  by_cases hk2 : (k : Int) < wg
                  · have y2 : decide ((k : Int) < wg) = true := decide_eq_true hk2
                    have E2 := Lib.hid (show wc' = (k : Int) by rw [EW.out, ha]; unfold lessW; rw [y1, y2]; rfl)
                    clear hw hk2
                    go_wp2_with fail
                    go_meet
                    exact ⟨A5, c5, e2.set k (j : Int), Lib.hid (by rw [List.length_set]; exact HE2L.out), by rw [E1.out, HK.out], by rw [E2.out], by rw [E3.out], Lib.hid (by rw [E1.out]; exact X5.out)⟩
                  · have y2 : decide ((k : Int) < wg) = false := decide_eq_false hk2
                    have E2 := Lib.hid (show wc' = wg by rw [EW.out, ha]; unfold lessW; rw [y1, y2]; rfl)
                    clear hw hk2
                    go_wp2_with fail
                    go_meet
                    exact ⟨A5, c5, e2.set k (j : Int), Lib.hid (by rw [List.length_set]; exact HE2L.out), by rw [E1.out, HK.out], by rw [E2.out], by rw [E3.out], Lib.hid (by rw [E1.out]; exact X5.out)⟩
      obtain ⟨A5, c5, en5, HE5, rfl, rfl, rfl, X5⟩ := hcut
      generalize wc = w5 at X5 ⊢
      obtain ⟨wn, HWN⟩ : ∃ y, Hid ((bd && lessW (j : Int) wc') = y) := ⟨_, Lib.hid rfl⟩
      obtain ⟨wf, HWF⟩ : ∃ y, Hid (wgB bd wc' (j : Int) = y) := ⟨_, Lib.hid rfl⟩
      go_upto_region 20 with fail
      go_cut [15, 119] (fun s15 s119 wx => w5 = wx ∧ s15 = .bool bd ∧ s119 = .bool wn)
      case first =>
        cases hbd : bd
        · have E := Lib.hid (show wn = false by rw [← HWN.out, hbd]; rfl)
          go_wp2_with fail
          go_meet
          exact ⟨rfl, by rw [hbd], by rw [E.out]⟩
        · by_cases hw : wc' < 0
          · have y1 : decide (wc' < 0) = true := decide_eq_true hw
            have E := Lib.hid (show wn = true by rw [← HWN.out, hbd]; unfold lessW; rw [y1]; rfl)
            clear hw
            go_wp2_with fail
            go_meet
            exact ⟨rfl, by rw [hbd], by rw [E.out]⟩
          · have y1 : decide (wc' < 0) = false := decide_eq_false hw
            by_cases hk2 : (j : Int) < wc'
            · have y2 : decide ((j : Int) < wc') = true := decide_eq_true hk2
              have E := Lib.hid (show wn = true by rw [← HWN.out, hbd]; unfold lessW; rw [y1, y2]; rfl)
              clear hw hk2
              go_wp2_with fail
              go_meet
              exact ⟨rfl, by rw [hbd], by rw [E.out]⟩
            · have y2 : decide ((j : Int) < wc') = false := decide_eq_false hk2
              have E := Lib.hid (show wn = false by rw [← HWN.out, hbd]; unfold lessW; rw [y1, y2]; rfl)
              clear hw hk2
              go_wp2_with fail
              go_meet
              exact ⟨rfl, by rw [hbd], by rw [E.out]⟩
      obtain ⟨rfl, rfl, rfl⟩ := hcut
      go_upto_if 119 with fail
      go_cut [11] (fun s11 wx => w5 = wx ∧ s11 = .int .i64 wf)
      case first =>
        cases hwn : wn
        · have E := Lib.hid (show wf = wc' by rw [← HWF.out]; unfold wgB; rw [HWN.out, hwn]; rfl)
          go_wp2_with fail
          go_meet
          exact ⟨rfl, by rw [E.out]⟩
        · have E := Lib.hid (show wf = (j : Int) by rw [← HWF.out]; unfold wgB; rw [HWN.out, hwn]; rfl)
          go_wp2_with fail
          go_meet
          exact ⟨rfl, by rw [E.out]⟩
      obtain ⟨rfl, rfl⟩ := hcut
      obtain ⟨bo, HBO⟩ : ∃ y, Hid (opensB op = y) := ⟨_, Lib.hid rfl⟩
      obtain ⟨o6, HO6⟩ : ∃ y, Hid (opnO op oc (j : Int) = y) := ⟨_, Lib.hid rfl⟩
      go_upto_if 122 with (go_at_call 84; refine (opens_any _ _).mono ?_; rintro e w' ⟨rfl, rfl⟩; rw [HBO.out])
      have HS1 := Lib.hid (show (runBk l (j + 1)).ins = i2 by rw [HST.out, ← HI2.out, ← HTT.out]; rfl)
      have HS2 := Lib.hid (show (runBk l (j + 1)).opn = o6 by rw [HST.out, ← HO6.out, ← HOC.out]; unfold stepBk; rw [HOP.out])
      have HS3 := Lib.hid (show (runBk l (j + 1)).wg = wf by rw [HST.out, ← HWF.out, ← HBD.out, ← HWC.out]; unfold stepBk; rw [HOP.out])
      have HNJ := Lib.hid (show nl - (j + 1) < nl - j by have := HJL.out; have := HNL.out; omega)
      have HJ1 := Lib.hid (show j + 1 ≤ nl by have := HJL.out; have := HNL.out; omega)
      cases hbo : bo
      · have E := Lib.hid (show o6 = oc by rw [← HO6.out]; unfold opnO; rw [HBO.out, hbo]; rfl)
        go_wp2_with fail
        go_roundg (nl - (j + 1))
        case measure => exact HNJ.out
        case rel => exact ⟨j + 1, A2, c2, A3, c3, A5, c5, en5, HJ1.out, rfl, by rw [HS1.out], by rw [HE2L.out, HE5.out], by rw [HS2.out, E.out], by rw [HS3.out], by first | rfl | (rw [s5]; rfl), HE5, Lib.hid (by rw [HS1.out, HS2.out, E.out]; exact X5.out)⟩
      · have E := Lib.hid (show oc ++ [(j : Int)] = o6 by rw [← HO6.out]; unfold opnO; rw [HBO.out, hbo]; rfl)
        have HC1 := Lib.hid (show oc.length ≤ 100 by have := (opnC_in (l := l) (o := op) HRB.out).2; rw [HOC.out] at this; have := HOJ.out; have := HNO.out; have := HL.out; have := HJL.out; have := HNL.out; omega)
        go_wp2_with (go_loud (first | (at_builtin; refine append_ints' (ok := okAny) rfl (.tmp 123) (.tmp 124) rfl W.heap.size (some ⟨w5.heap.size, 0, none⟩) 0 [] rfl (irow_at0 (heap_alloc_new w5 _) X5.out.bl.size) A5 c5 oc rfl (irow_cp (X5.out.alloc (.cells #[] 3)).ro).2 (irow_ints (X5.out.alloc (.cells #[] 3)).ro) (by have := HC1.out; simp; omega) (Nat.le_trans X5.out.bl.size (by simp)) oc rfl ?_; intro A7 c7 w7 hr7 hg7 hat7; have X7 := Lib.hid (X5.out.newO ((Below.refl _ _).alloc (Nat.le_refl _) _) hr7 hg7 (fun k hk => by simp [iblk] at hk; omega) (fun k hk => by rcases hat7 with e | e <;> (rw [e] at hk; simp [iblk] at hk; omega))); clear hr7 hg7 hat7) | (at_builtin; refine append_ints' (ok := fun _ => True) rfl (.tmp 125) (.tmp 127) rfl W.heap.size A7 c7 oc rfl (X7.out.alloc (.cells #[.int .i64 (j : Int)] 3)).ro (some ⟨_, 0, none⟩) 1 [(j : Int)] rfl (fun h => by cases h) (ints_lit' _ _ ⟨by omega, by have := HJL.out; have := HL.out; have := HNL.out; omega⟩ _ rfl) (by have := HC1.out; simp; omega) (X7.out.alloc (.cells #[.int .i64 (j : Int)] 3)).bl.size o6 E.out ?_; intro A8 c8 w8 hr8 hg8 hat8; have X8 := Lib.hid (BrX.pushO (X7.out.alloc (.cells #[.int .i64 (j : Int)] 3)) hr8 hg8 hat8); clear hr8 hg8 hat8)))
        go_roundg (nl - (j + 1))
        case measure => exact HNJ.out
        case rel => exact ⟨j + 1, A2, c2, A3, c3, A8, c8, en5, HJ1.out, rfl, by rw [HS1.out], by rw [HE2L.out, HE5.out], by rw [HS2.out], by rw [HS3.out], by first | rfl | (rw [s5]; rfl), HE5, Lib.hid (by rw [HS1.out, HS2.out]; exact X8.out)⟩
    · clear i2 HI2 e2 HE2
      obtain rfl : j = nl := by omega
      have s1 : decide ((j : Int) < (j : Int)) = false := decide_eq_false (by omega)
      have s2 : decide (j < j) = false := decide_eq_false (by omega)
      have HE := Lib.hid (show endW (runBk l l.length) = if (decide (wg < 0) && decide ((no : Int) > 0)) = true then t else wg by rw [HNL.out, HR.out]; unfold endW; rw [HTT.out, HNO.out])
      have HI := Lib.hid (show (runBk l l.length).ins = ins by rw [HNL.out, HR.out])
      by_cases hw : wg < 0
      · have y1 : decide (wg < 0) = true := decide_eq_true hw
        rcases HTC.out with ⟨ho, ht, hn⟩ | ⟨m, a, ho, ht, hn, h0, h1⟩
        · subst hn
          have HF := Lib.hid (show rg15 l = (ins, 0, 0) by unfold rg15; rw [HE.out, y1, HI.out]; simp; omega)
          have y2 : decide (wg ≥ 0) = false := decide_eq_false (by omega)
          have y3 : decide ((0 : Int) ≤ wg) = false := y2
          clear ho ht hw hlt hj
          go_wp2_with fail
          refine bodyPost_ret (by simp [results, Try.results66, go_sem]; try rfl) rfl ?_
          exact ⟨Ai, ci, Ae, en.length, ce, by rw [HF.out], by rw [HF.out]; exact HX.out.ri, HX.out.bl⟩
        · obtain ⟨go, eo, xo, _, lo⟩ := irow_head HX.out.ro (i := m.length) (by rw [ho]; simp)
          have hva : ivAt opn m.length = a := by rw [ho]; unfold ivAt; simp
          rw [hva] at xo
          obtain ⟨k, hk⟩ : ∃ k, m.length = k := ⟨_, rfl⟩
          rw [hk] at xo hn
          have hk1 : k ≤ 100 := by have := HL.out; have := HOJ.out; omega
          have e4 : wrap64 (((k + 1 : Nat) : Int) - 1) = (k : Int) := by unfold wrap64; omega
          have e5 : wrap64 ((k : Int) + 1 - 1) = (k : Int) := by unfold wrap64; omega
          have e6 : (0 : Int) ≤ (k : Int) := by omega
          have e7 : wrap64 (k : Int) = (k : Int) := by unfold wrap64; omega
          subst eo
          subst hn
          have HF := Lib.hid (show rg15 l = ([], a, 8) by unfold rg15; rw [HE.out, y1, ht]; simp; omega)
          have y2 : decide (a ≥ 0) = true := decide_eq_true (by omega)
          have y3 : decide ((0 : Int) ≤ a) = true := y2
          clear ho ht h0 h1 hva hk hk1 hw hlt hj
          go_wp2_with fail
          refine bodyPost_ret (by simp [results, Try.results66, go_sem]; try rfl) rfl ?_
          exact ⟨none, 0, none, 0, 0, by rw [HF.out]; rfl, by rw [HF.out]; exact irow_nil _ _, HX.out.bl⟩
      · have y1 : decide (wg < 0) = false := decide_eq_false hw
        have HF := Lib.hid (show rg15 l = ([], wg, 8) by unfold rg15; rw [HE.out, y1]; simp; omega)
        have y2 : decide (wg ≥ 0) = true := decide_eq_true (by omega)
        have y3 : decide ((0 : Int) ≤ wg) = true := y2
        clear hw hlt hj
        go_wp2_with fail
        refine bodyPost_ret (by simp [results, Try.results66, go_sem]; try rfl) rfl ?_
        exact ⟨none, 0, none, 0, 0, by rw [HF.out]; rfl, by rw [HF.out]; exact irow_nil _ _, HX.out.bl⟩
end Go.Proofs.Ytcjkpeojjonpiaa
