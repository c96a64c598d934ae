
/-
  rowlocklaw21.LinearFound: for every kind and size, and spans, it returns true.
-/
import Derived.Test.YtbanfaboimachaaLinR5
import Derived.Test.YtbanfaboimachaaLin7
namespace Go.Proofs.Ytbanfaboimachaa
open Go.RowKit
set_option linter.unusedSimpArgs false
set_option linter.unusedVariables false

theorem scan_yes {l : List Spn} {st : St} {t : Nat} {o : List Int} (ht : t < 4000) (h : okRow l st o = true) : refScan l st (4000 - t) o = some o := by
  rw [show 4000 - t = (4000 - (t + 1)) + 1 by omega]
  show (bif okRow l st o then some o else _) = _
  rw [h]; rfl
theorem scan_no {l : List Spn} {st : St} {t : Nat} {o : List Int} (ht : t < 4000) (h : okRow l st o = false) : refScan l st (4000 - t) o = contOf (refScan l st (4000 - (t + 1))) (afterF l.length o) := by
  rw [show 4000 - t = (4000 - (t + 1)) + 1 by omega]
  show (bif okRow l st o then some o else contOf (refScan l st (4000 - (t + 1))) (afterF l.length o)) = _
  rw [h]; rfl
set_option maxHeartbeats 16000000 in
set_option maxRecDepth 100000 in
theorem rfound_any (k size : Int) (A : Option Addr) (c : Nat) (l : List Spn) (hl : l.length ≤ 24) (w : World) (H : SpansAt w A l) :
    Calls Try.prog 10 #[.int .u8 k, .int .i64 size, .slice A l.length c] w (FoundPost k size l w) := by
  have HS := Lib.hid H
  clear H
  cases hg : goodB k size
  · have HG := Lib.hid hg
    have HF : Hid (foundF k size l (goodB k size && rightL l) = ([], 3)) := Lib.hid (by unfold foundF; rw [hg]; rfl)
    clear hg
    go_enter Try.func10, Try.ntmps10
    go_wp2_with (go_at_call 22; refine (rNew0 k size HG.out _).mono ?_; rintro e w1 ⟨rfl, hb⟩; have HB := Lib.hid hb; clear hb)
    go_ret2
    unfold FoundPost
    rw [HF.out]
    exact ⟨none, 0, rfl, ⟨ints_nil0 _, Nat.le_refl _, fun _ => rfl⟩, HB.out⟩
  · have HG := Lib.hid hg
    cases hr : rightL l
    · have HF : Hid (foundF k size l (goodB k size && rightL l) = ([], 3)) := Lib.hid (by unfold foundF; rw [hg, hr]; rfl)
      go_enter Try.func10, Try.ntmps10
      go_wp2_with (first | (go_at_call 22; refine (rNewGood k size HG.out _).mono ?_; rintro e w1 ⟨a, rfl, ho, hb⟩; have HB := Lib.hid hb; clear hb ho) | (go_at_call 23; refine (rright_lin A c l (by omega) _ (spans_below HS.out HB.out)).mono ?_; rintro e w2 ⟨rfl, hb⟩; have HB2 := Lib.hid (HB.out.trans ((below_of_drewN hb).mono HB.out.size)); clear hb))
      go_ret2
      unfold FoundPost
      rw [HF.out]
      exact ⟨none, 0, rfl, ⟨ints_nil0 _, Nat.le_refl _, fun _ => rfl⟩, HB2.out⟩
    · cases h6 : decide (6 < l.length)
      · have h6' : decide (6 < (l.length : Int)) = false := decide_eq_false (by have := of_decide_eq_false h6; omega)
        have hl6 : l.length ≤ 6 := by have := of_decide_eq_false h6; omega
        have HF : Hid (foundF k size l (goodB k size && rightL l) = resF (refScan l (stNew k size) 4000 [])) := Lib.hid (by unfold foundF; rw [hg, hr, h6, refScan_search l (stNew k size) hl6]; rfl)
        clear hg
        go_enter Try.func10, Try.ntmps10
        go_wp2_with (first | (go_at_call 22; refine (rNewGood k size HG.out _).mono ?_; rintro e w1 ⟨a, rfl, ho, hb⟩; have HB := Lib.hid hb; clear hb ho) | (go_at_call 23; refine (rright_lin A c l (by omega) _ (spans_below HS.out HB.out)).mono ?_; rintro e w2 ⟨rfl, hb⟩; have HB2 := Lib.hid (HB.out.trans ((below_of_drewN hb).mono HB.out.size)); clear hb))
        clear hr h6 h6'
        go_loopw [9, 8] (fun i s wr => ∃ (t : Nat) (o : List Int) (A' : Option Addr) (c' : Nat), t ≤ 4000 ∧ i = .int .i64 t ∧ s = .slice A' o.length c' ∧ Hid (GoodRow l.length o) ∧ Hid (IntsAt okAll wr A' o ∧ o.length ≤ c' ∧ (A' = none → c' = 0)) ∧ Hid (refScan l (stNew k size) 4000 [] = refScan l (stNew k size) (4000 - t) o) ∧ Hid (Below w.heap.size w wr)) (fun i _ _ => 4000 - (intOf i).toNat)
        case atStart => exact ⟨0, [], _, 0, by omega, rfl, rfl, Lib.hid (fun i hi => absurd hi (Nat.not_lt_zero _)), Lib.hid (by obtain ⟨u1, u2, u3⟩ := irow_ok (irow_empty w2); exact ⟨u3, u1, u2⟩), Lib.hid rfl, Lib.hid (HB2.out.alloc HB2.out.size _)⟩
        case round =>
          obtain ⟨t, o, A', c', ht, rfl, rfl, HGO, HIO, HRS, HBR⟩ := hrel
          clear HB HB2
          have HO6 := Lib.hid (goodRow_short HGO.out)
          have ho24 : o.length ≤ 24 := by have := HO6.out; omega
          have S1 := Lib.hid (spans_below HS.out HBR.out)
          by_cases hlt : t < 4000
          · have t1 : decide ((t : Int) < 4000) = true := decide_eq_true (by omega)
            have HRO := Lib.hid (runE_ok l (stNew k size) o 0)
            obtain ⟨q, hq⟩ : ∃ q, q = afterF l.length o := ⟨_, rfl⟩
            have HQ := Lib.hid hq.symm
            have HGQ : Hid (GoodRow l.length q) := Lib.hid (by rw [hq]; exact after_good HGO.out)
            have HAF := Lib.hid (fun wx (hb : Below wr.heap.size wr wx) => after_any l.length (by omega) A' c' o HO6.out HGO.out HIO.out.2.1 HIO.out.2.2 wx (ints_below HIO.out.1 hb))
            have HRUN := Lib.hid (run_lin k size A c l A' c' o hl HG.out HGO.out wr S1.out HIO.out.1)
            have HWH := Lib.hid (whole_lin A c l A' c' o (by omega) (by omega) wr S1.out HIO.out.1)
            clear hq
            cases hrb : restB l o
            · have HNO : Hid (refScan l (stNew k size) 4000 [] = contOf (refScan l (stNew k size) (4000 - (t + 1))) q) := Lib.hid (by rw [HRS.out, scan_no hlt (by unfold okRow; rw [hrb]; rfl), HQ.out])
              have HRB := Lib.hid hrb
              clear hrb
              cases q with
              | nil =>
                go_wp2_with (first | (go_at_call 24; refine HWH.out.mono ?_; rintro e w' ⟨he, rfl⟩; rw [HRB.out] at he; subst he) | (go_at_call 26; refine (HAF.out _ (Below.refl _ _)).mono ?_; rintro e w5 ⟨A5, c5, he, hk, hb⟩; rw [HQ.out] at he hk; subst he; have B5 := Lib.hid (HBR.out.trans (hb.mono HBR.out.size)); clear hk hb))
                go_ret2
                unfold FoundPost
                rw [HF.out, HNO.out]
                exact ⟨none, 0, rfl, ⟨ints_nil0 _, Nat.le_refl _, fun _ => rfl⟩, B5.out⟩
              | cons x s =>
                obtain ⟨q, hqq⟩ : ∃ q, q = x :: s := ⟨_, rfl⟩
                have hqp : ((q.length : Int) == 0) = false := by
                  rw [hqq]
                  exact beq_eq_false_iff_ne.mpr (by simp; omega)
                have HNO2 : Hid (refScan l (stNew k size) 4000 [] = refScan l (stNew k size) (4000 - (t + 1)) q) := Lib.hid (by rw [HNO.out, hqq]; rfl)
                rw [← hqq] at HQ HGQ
                clear hqq HNO
                go_wp2_with (first | (go_at_call 24; refine HWH.out.mono ?_; rintro e w' ⟨he, rfl⟩; rw [HRB.out] at he; subst he) | (go_at_call 26; refine (HAF.out _ (Below.refl _ _)).mono ?_; rintro e w5 ⟨A5, c5, he, hk, hb⟩; rw [HQ.out] at he hk; subst he; have B5 := Lib.hid (HBR.out.trans (hb.mono HBR.out.size)); have K5 := Lib.hid hk; clear hk hb))
                go_roundw
                case rel => exact ⟨t + 1, q, A5, c5, by omega, by go_num, rfl, HGQ, K5, HNO2, B5⟩
                case measure => simp [intOf]; omega
            · cases hro : runOK l (stNew k size) o
              · have HNO : Hid (refScan l (stNew k size) 4000 [] = contOf (refScan l (stNew k size) (4000 - (t + 1))) q) := Lib.hid (by rw [HRS.out, scan_no hlt (by unfold okRow; rw [hrb, hro]; rfl), HQ.out])
                have HRB := Lib.hid hrb
                have hre : ((runE l (stNew k size) o 0).2 == 0) = false := by rw [HRO.out, hro]
                generalize runE l (stNew k size) o 0 = re at *
                clear hrb hro
                cases q with
                | nil =>
                  go_wp2_with (first | (go_at_call 24; refine HWH.out.mono ?_; rintro e w' ⟨he, rfl⟩; rw [HRB.out] at he; subst he) | (go_at_call 25; refine HRUN.out.mono ?_; rintro e w4 ⟨rfl, hb⟩; have B4 := Lib.hid hb; clear hb) | (go_at_call 26; refine (HAF.out _ B4.out).mono ?_; rintro e w5 ⟨A5, c5, he, hk, hb⟩; rw [HQ.out] at he hk; subst he; have B5 := Lib.hid ((HBR.out.trans (B4.out.mono HBR.out.size)).trans (hb.mono (Nat.le_trans HBR.out.size B4.out.size))); clear hk hb))
                  go_ret2
                  unfold FoundPost
                  rw [HF.out, HNO.out]
                  exact ⟨none, 0, rfl, ⟨ints_nil0 _, Nat.le_refl _, fun _ => rfl⟩, B5.out⟩
                | cons x s =>
                  obtain ⟨q, hqq⟩ : ∃ q, q = x :: s := ⟨_, rfl⟩
                  have hqp : ((q.length : Int) == 0) = false := by
                    rw [hqq]
                    exact beq_eq_false_iff_ne.mpr (by simp; omega)
                  have HNO2 : Hid (refScan l (stNew k size) 4000 [] = refScan l (stNew k size) (4000 - (t + 1)) q) := Lib.hid (by rw [HNO.out, hqq]; rfl)
                  rw [← hqq] at HQ HGQ
                  clear hqq HNO
                  go_wp2_with (first | (go_at_call 24; refine HWH.out.mono ?_; rintro e w' ⟨he, rfl⟩; rw [HRB.out] at he; subst he) | (go_at_call 25; refine HRUN.out.mono ?_; rintro e w4 ⟨rfl, hb⟩; have B4 := Lib.hid hb; clear hb) | (go_at_call 26; refine (HAF.out _ B4.out).mono ?_; rintro e w5 ⟨A5, c5, he, hk, hb⟩; rw [HQ.out] at he hk; subst he; have B5 := Lib.hid ((HBR.out.trans (B4.out.mono HBR.out.size)).trans (hb.mono (Nat.le_trans HBR.out.size B4.out.size))); have K5 := Lib.hid hk; clear hk hb))
                  go_roundw
                  case rel => exact ⟨t + 1, q, A5, c5, by omega, by go_num, rfl, HGQ, K5, HNO2, B5⟩
                  case measure => simp [intOf]; omega
              · have HYES : Hid (refScan l (stNew k size) 4000 [] = some o) := Lib.hid (by rw [HRS.out, scan_yes hlt (by unfold okRow; rw [hrb, hro]; rfl)])
                have HRB := Lib.hid hrb
                have hre : ((runE l (stNew k size) o 0).2 == 0) = true := by rw [HRO.out, hro]
                generalize runE l (stNew k size) o 0 = re at *
                clear hrb hro
                go_wp2_with (first | (go_at_call 24; refine HWH.out.mono ?_; rintro e w' ⟨he, rfl⟩; rw [HRB.out] at he; subst he) | (go_at_call 25; refine HRUN.out.mono ?_; rintro e w4 ⟨rfl, hb⟩; have B4 := Lib.hid hb; clear hb))
                go_ret2
                unfold FoundPost
                rw [HF.out, HYES.out]
                exact ⟨A', c', rfl, ⟨ints_below HIO.out.1 B4.out, HIO.out.2⟩, HBR.out.trans (B4.out.mono HBR.out.size)⟩
          · have t1 : decide ((t : Int) < 4000) = false := decide_eq_false (by omega)
            have HEND : Hid (refScan l (stNew k size) 4000 [] = none) := Lib.hid (by rw [HRS.out, show 4000 - t = 0 by omega]; rfl)
            go_wp2_with fail
            go_ret2
            unfold FoundPost
            rw [HF.out, HEND.out]
            exact ⟨none, 0, rfl, ⟨ints_nil0 _, Nat.le_refl _, fun _ => rfl⟩, HBR.out⟩
      · have h6' : decide (6 < (l.length : Int)) = true := decide_eq_true (by have := of_decide_eq_true h6; omega)
        have HF : Hid (foundF k size l (goodB k size && rightL l) = ([], 4)) := Lib.hid (by unfold foundF; rw [hg, hr, h6]; rfl)
        clear hg
        go_enter Try.func10, Try.ntmps10
        go_wp2_with (first | (go_at_call 22; refine (rNewGood k size HG.out _).mono ?_; rintro e w1 ⟨a, rfl, ho, hb⟩; have HB := Lib.hid hb; clear hb ho) | (go_at_call 23; refine (rright_lin A c l (by omega) _ (spans_below HS.out HB.out)).mono ?_; rintro e w2 ⟨rfl, hb⟩; have HB2 := Lib.hid (HB.out.trans ((below_of_drewN hb).mono HB.out.size)); clear hb))
        go_ret2
        unfold FoundPost
        rw [HF.out]
        exact ⟨none, 0, rfl, ⟨ints_nil0 _, Nat.le_refl _, fun _ => rfl⟩, HB2.out⟩
theorem rfound_full (k size : Int) (A : Option Addr) (c : Nat) (l : List Spn) (n : Nat) (hn : l.length = n) (hl : n ≤ 24) (w : World) (H : SpansAt w A l) :
    Calls Try.prog 10 #[.int .u8 k, .int .i64 size, .slice A n c] w (FoundPost k size l w) := by
  subst hn
  exact rfound_any k size A c l hl w H
theorem found_short (k size : Int) (l : List Spn) : (foundF k size l (goodB k size && rightL l)).1.length ≤ l.length := by
  unfold foundF
  cases (goodB k size && rightL l)
  · simp
  · cases decide (6 < l.length)
    · cases hs : searchF l (left l []) (stNew k size) [] with
      | none => simp [resF]
      | some o => exact good_short (searchF_good hs).1
    · simp
set_option maxHeartbeats 4000000 in
set_option maxRecDepth 100000 in
theorem linearFound_walk0 (W : World) (k : Int) (k0 : 0 ≤ k) (k1 : k ≤ 255) (A : Option Addr) (len cap : Nat) (hC : SpansIn W A len cap) :
    Calls Try.prog 4 #[.int .u8 k, .slice A len cap] W fun e w' => e = .returned (.bool true) ∧ Below W.heap.size W w' := by
  obtain ⟨l, hl, hS, hc, hA⟩ := hC
  have hlm : len ≤ 9223372036854775807 := by have := hS.1; unfold maxLen at this; omega
  have key : ∃ (l' : List Spn) (n : Nat), l'.length = n ∧ n ≤ 7 ∧ SpansAt W A l' ∧ ((decide (7 < len) = true ∧ n = 7) ∨ (decide (7 < len) = false ∧ n = len)) := by
    by_cases h : 7 < len
    · exact ⟨l.take 7, 7, by simp; omega, Nat.le_refl _, spans_take hS 7, .inl ⟨decide_eq_true h, rfl⟩⟩
    · exact ⟨l, len, hl, by omega, hS, .inr ⟨decide_eq_false h, rfl⟩⟩
  obtain ⟨l', n, hn, hn7, hS', hway⟩ := key
  have HS := Lib.hid hS'
  have HF := Lib.hid (fun w (H : SpansAt w A l') => found_full (1 + k % 4) (k / 4 % 4) A cap l' n hn (by omega) w H)
  have HG := Lib.hid (fun w (H : SpansAt w A l') => rfound_full (1 + k % 4) (k / 4 % 4) A cap l' n hn (by omega) w H)
  have hsh := found_short (1 + k % 4) (k / 4 % 4) l'
  obtain ⟨r, hr⟩ : ∃ r, foundF (1 + k % 4) (k / 4 % 4) l' (goodB (1 + k % 4) (k / 4 % 4) && rightL l') = r := ⟨_, rfl⟩
  rw [hr] at hsh
  obtain ⟨ro, re⟩ := r
  have HR := Lib.hid hr
  have HRL : Hid (ro.length ≤ 1000) := Lib.hid (by have : ro.length ≤ l'.length := hsh; omega)
  have s1 : 7 < len → ∀ w, (Instr.slice 22 (.slice A len cap) none (some (.int .i64 7)) none).run Try.prog w = .ok (.slice A 7 cap) w := fun h w => lslice_to 7 A len cap (by omega) hA w
  have HS1 := Lib.hid s1
  clear hl hS hA hn hS' s1 hr hsh
  have hw2 : (decide (7 < len) = true ∧ decide (7 < (len : Int)) = true ∧ n = 7) ∨ (decide (7 < len) = false ∧ decide (7 < (len : Int)) = false ∧ n = len) := by
    rcases hway with ⟨h, e⟩ | ⟨h, e⟩
    · exact .inl ⟨h, decide_eq_true (by have := of_decide_eq_true h; omega), e⟩
    · exact .inr ⟨h, decide_eq_false (by have := of_decide_eq_false h; omega), e⟩
  clear hway
  rcases hw2 with ⟨t1, t2, rfl⟩ | ⟨t1, t2, rfl⟩
  · have s1 := HS1.out (of_decide_eq_true t1)
    go_enter Try.func4, Try.ntmps4
    go_wp2_with (first | (go_at_call 6; refine (lkind_any k k0 k1 _).mono ?_; rintro e w' ⟨rfl, rfl⟩) | (go_at_call 7; refine (HF.out _ HS.out).mono ?_; rintro e w1 ⟨A1, c1, he, hk, hb⟩; rw [HR.out] at he hk; subst he; have B1 := Lib.hid hb; have K1 := Lib.hid hk; clear hk hb) | (go_at_call 10; refine (HG.out _ (spans_below HS.out B1.out)).mono ?_; rintro e w2 ⟨A2, c2, he, hk, hb⟩; rw [HR.out] at he hk; subst he; have B2 := Lib.hid (B1.out.trans (hb.mono B1.out.size)); have K2 := Lib.hid hk; have I1 := Lib.hid (ints_below K1.out.1 hb); clear hk hb) | (go_at_call 8; refine (linLive _).mono ?_; rintro e w3 ⟨rfl, hb⟩; have B3 := Lib.hid (B2.out.trans (hb.mono B2.out.size)); have J1 := Lib.hid (ints_below I1.out hb); have J2 := Lib.hid (ints_below K2.out.1 hb); clear hb) | (go_at_call 11; refine (sameInts_eq A1 A2 c1 c2 ro HRL.out _ J1.out J2.out).mono ?_; rintro e w4 ⟨rfl, hd⟩; have B4 := Lib.hid (B3.out.trans ((below_of_drewN hd).mono B3.out.size)); clear hd))
    go_ret
    exact ⟨by first | rfl | simp, B4.out⟩
  · go_enter Try.func4, Try.ntmps4
    go_wp2_with (first | (go_at_call 6; refine (lkind_any k k0 k1 _).mono ?_; rintro e w' ⟨rfl, rfl⟩) | (go_at_call 7; refine (HF.out _ HS.out).mono ?_; rintro e w1 ⟨A1, c1, he, hk, hb⟩; rw [HR.out] at he hk; subst he; have B1 := Lib.hid hb; have K1 := Lib.hid hk; clear hk hb) | (go_at_call 10; refine (HG.out _ (spans_below HS.out B1.out)).mono ?_; rintro e w2 ⟨A2, c2, he, hk, hb⟩; rw [HR.out] at he hk; subst he; have B2 := Lib.hid (B1.out.trans (hb.mono B1.out.size)); have K2 := Lib.hid hk; have I1 := Lib.hid (ints_below K1.out.1 hb); clear hk hb) | (go_at_call 8; refine (linLive _).mono ?_; rintro e w3 ⟨rfl, hb⟩; have B3 := Lib.hid (B2.out.trans (hb.mono B2.out.size)); have J1 := Lib.hid (ints_below I1.out hb); have J2 := Lib.hid (ints_below K2.out.1 hb); clear hb) | (go_at_call 11; refine (sameInts_eq A1 A2 c1 c2 ro HRL.out _ J1.out J2.out).mono ?_; rintro e w4 ⟨rfl, hd⟩; have B4 := Lib.hid (B3.out.trans ((below_of_drewN hd).mono B3.out.size)); clear hd))
    go_ret
    exact ⟨by first | rfl | simp, B4.out⟩
theorem linearFound_walk (W : World) (k : Int) (hk : (Lit.int .u8 k).wf = true) (A : Option Addr) (len cap : Nat) (hC : SpansIn W A len cap) :
    Calls Try.prog 4 #[.int .u8 k, .slice A len cap] W fun e w' => e = .returned (.bool true) ∧ Below W.heap.size W w' :=
  linearFound_walk0 W k (bounds_u8 hk).1 (bounds_u8 hk).2 A len cap hC
end Go.Proofs.Ytbanfaboimachaa
