
/-
  rowlockref15.Check: the walk.
-/
import Derived.Test.YtcjkpeojjonpiaaCk7
namespace Go.Proofs.Ytcjkpeojjonpiaa
open Go.RowKit Go.ChangeShapes Go.WideShapes
set_option linter.unusedSimpArgs false
set_option linter.unusedVariables false

theorem scan_go {f : Nat → Int} {i n : Nat} (h : f i = 0) : scanE f i (n + 1) = scanE f (i + 1) n := by conv => lhs; unfold scanE; rw [if_pos h]
theorem scan_hit {f : Nat → Int} {i n : Nat} (h : f i ≠ 0) : scanE f i (n + 1) = ((i : Int), f i) := by conv => lhs; unfold scanE; rw [if_neg h]
theorem rg15_len {l : List Ins3} (h : (rg15 l).2.2 = 0) : (rg15 l).1.length = l.length := by
  unfold rg15 at h ⊢
  split at h
  · cases h
  · rename_i h1
    rw [if_neg h1]
    exact (runBk_inv l l.length).2.2.1
theorem var_not {op : Int} (h : varB op = true) : (op == 27) = false ∧ (op == 28) = false ∧ (op == 19) = false ∧ (op == 20) = false := by
  unfold varB at h
  simp only [Bool.or_eq_true, beq_iff_eq] at h
  rcases h with ((rfl | rfl) | rfl) | rfl <;> decide
set_option maxRecDepth 100000 in
set_option maxHeartbeats 16000000 in
theorem check15 (l : List Ins3) (hl : l.length ≤ 100) (tv : Int) (A : Option Addr) (c : Nat) (W : World) (hs : InssAt W A l) : Calls Try.prog 10 #[.slice A l.length c, .int .i64 tv] W fun e w' => e = .returned (.tuple #[.int .i64 (ck15 l tv).1, .int .i64 (ck15 l tv).2]) ∧ Below W.heap.size W w' := by
  obtain ⟨C, hC⟩ : ∃ C, ck15 l tv = C := ⟨_, rfl⟩
  rw [hC]
  unfold ck15 at hC
  have HRG := Lib.hid (fun w h => regions15 l hl A c w h)
  have HDP := Lib.hid (fun (h1 : 1 ≤ l.length) (hrt : ∀ i, i < l.length → rightI (xn l i) = true) w h => depths15 l h1 hl hrt A c w h)
  have HS := Lib.hid hs
  have HRL0 := Lib.hid (rg15_len (l := l))
  have HRI0 := Lib.hid (fun (h : (scanE (f1E l) 0 l.length).2 = 0) i (hi : i < l.length) => (show rightI (xn l i) = true by
    have := scanE_ok h i (Nat.zero_le _) (by omega)
    unfold f1E at this
    split at this
    · assumption
    · cases this))
  unfold RgPost at HRG
  unfold DpPost at HDP
  obtain ⟨⟨r1, r2, r3⟩, hr⟩ : ∃ r, rg15 l = r := ⟨_, rfl⟩
  obtain ⟨⟨p1, p2, p3⟩, hp⟩ : ∃ p, dp15 l = p := ⟨_, rfl⟩
  rw [hr] at HRG hC HRL0
  rw [hp] at HDP hC
  obtain ⟨S1, hS1⟩ : ∃ s, scanE (f1E l) 0 l.length = s := ⟨_, rfl⟩
  obtain ⟨S2, hS2⟩ : ∃ s, scanE (f2E l r1) 0 l.length = s := ⟨_, rfl⟩
  obtain ⟨S3, hS3⟩ : ∃ s, scanE (f3E l r1 tv) 0 l.length = s := ⟨_, rfl⟩
  dsimp only at hC HRL0 HRG HDP
  rw [hS1, hS2, hS3] at hC
  rw [hS1] at HRI0
  obtain ⟨nl, hnl⟩ : ∃ n, l.length = n := ⟨_, rfl⟩
  have HNL := Lib.hid hnl
  rw [hnl] at hC hS1 hS2 hS3 HRG HDP HRL0 hl HRI0 ⊢
  have HC0 := Lib.hid hC
  have H1 := Lib.hid hS1
  have H2 := Lib.hid hS2
  have H3 := Lib.hid hS3
  clear hs hr hp hC hS1 hS2 hS3 hnl
  by_cases hn1 : nl < 1
  · have a1 : decide ((nl : Int) < 1) = true := decide_eq_true (by omega)
    have a2 : decide (nl < 1) = true := decide_eq_true hn1
    have HF := Lib.hid (show C = (0, 3) by rw [← HC0.out, if_pos (.inl hn1)])
    obtain rfl : nl = 0 := by omega
    clear hn1 HC0 a1 a2
    go_enter Try.func10, Try.ntmps10
    go_wp2_with fail
    go_ret2
    exact ⟨by rw [HF.out]; rfl, Below.refl _ _⟩
  by_cases hn2 : nl > 64
  · have a1 : decide ((nl : Int) < 1) = false := decide_eq_false (by omega)
    have a2 : decide ((nl : Int) > 64) = true := decide_eq_true (by omega)
    have a3 : decide ((64 : Int) < (nl : Int)) = true := a2
    have a4 : decide (64 < nl) = true := decide_eq_true hn2
    have a5 : decide (nl < 1) = false := decide_eq_false hn1
    have HF := Lib.hid (show C = (0, 3) by rw [← HC0.out, if_pos (.inr hn2)])
    have a6 : nl ≠ 0 := by omega
    clear hn1 hn2 HC0
    go_enter Try.func10, Try.ntmps10
    go_wp2_with fail
    go_ret2
    exact ⟨by rw [HF.out]; rfl, Below.refl _ _⟩
  have a1 : decide ((nl : Int) < 1) = false := decide_eq_false (by omega)
  have a2 : decide ((nl : Int) > 64) = false := decide_eq_false (by omega)
  have a3 : decide ((64 : Int) < (nl : Int)) = false := a2
  have a4 : decide (64 < nl) = false := decide_eq_false hn2
  have a5 : decide (nl < 1) = false := decide_eq_false hn1
  have a6 : nl ≠ 0 := by omega
  have HN := Lib.hid (show 1 ≤ nl ∧ nl ≤ 64 by omega)
  have HC1 := Lib.hid (show (if S1.2 ≠ 0 then S1 else if r3 ≠ 0 then (r2, r3) else if S2.2 ≠ 0 then S2 else if S3.2 ≠ 0 then S3 else (p2, p3)) = C by rw [← HC0.out]; conv => rhs; rw [if_neg (by omega)])
  clear hn1 hn2 hl
  go_enter Try.func10, Try.ntmps10
  go_wp2_with fail
  go_loopg [6] nl (fun gm s6 wx => ∃ i : Nat, i ≤ nl ∧ gm = nl - i ∧ s6 = .int .i64 i ∧ Hid (scanE (f1E l) i (nl - i) = S1) ∧ Hid (Below W.heap.size W wx))
  case atStart => exact ⟨0, Nat.zero_le _, rfl, rfl, H1, Lib.hid (Below.refl _ _)⟩
  case round =>
    clear a1 a2 a3 a4 a5 a6 H1
    obtain ⟨i, hi, rfl, rfl, H1, HB⟩ := hrel
    by_cases hil : i < nl
    · have s1 : decide ((i : Int) < (nl : Int)) = true := decide_eq_true (by omega)
      have s2 : decide (i < nl) = true := decide_eq_true hil
      have s3 : (i : Int) < (nl : Int) := by omega
      have s4 : (0 : Int) ≤ (i : Int) := by omega
      have s5 : wrap64 ((i : Int) + 1) = (i : Int) + 1 := by have := HN.out; unfold wrap64; omega
      obtain ⟨ad, rfl, hin, lad, la⟩ := inss_in HS.out HB.out (i := i) (by have := HNL.out; omega)
      obtain ⟨⟨op, ag, vv⟩, hop⟩ : ∃ x, xn l i = x := ⟨_, rfl⟩
      rw [hop] at hin
      obtain ⟨hok, b0, b1, b2⟩ := hin
      have HRT := Lib.hid (show ∀ w : World, Calls Try.prog 34 #[.agg #[.int .u8 op, .int .i64 ag, .int .u64 vv]] w fun e w' => e = .returned (.bool (rightI ⟨op, ag, vv⟩)) ∧ Below w.heap.size w w' from fun w => refRight14_any ⟨op, ag, vv⟩ hok w)
      dsimp only at b0 b1 b2
      have HI := Lib.hid (show i < nl ∧ nl - i = (nl - (i + 1)) + 1 by omega)
      have H1' := Lib.hid (show scanE (f1E l) i ((nl - (i + 1)) + 1) = S1 by rw [← HI.out.2]; exact H1.out)
      have HF := Lib.hid (show f1E l i = if rightI ⟨op, ag, vv⟩ = true then 0 else 3 by unfold f1E; rw [hop])
      obtain ⟨rt, hrt⟩ : ∃ b, rightI ⟨op, ag, vv⟩ = b := ⟨_, rfl⟩
      rw [hrt] at HRT HF
      clear hi hil hop hrt H1 hok
      cases hrb : rt
      · rw [hrb] at HRT HF
        have HS1 := Lib.hid (show S1 = ((i : Int), 3) by rw [← H1'.out, scan_hit (by rw [HF.out]; decide), HF.out]; rfl)
        have HCC := Lib.hid (show C = ((i : Int), 3) by rw [← HC1.out, HS1.out]; rfl)
        go_wp2_with (go_at_call 34; refine (HRT.out _).mono ?_; rintro e w2 ⟨rfl, hb2⟩; have B2 := Lib.hid (HB.out.trans (hb2.mono HB.out.size)); clear hb2)
        go_ret2
        exact ⟨by rw [HCC.out]; rfl, B2.out⟩
      · rw [hrb] at HRT HF
        have HK := Lib.hid (show scanE (f1E l) (i + 1) (nl - (i + 1)) = S1 by rw [← H1'.out, scan_go (by rw [HF.out]; rfl)])
        go_wp2_with (go_at_call 34; refine (HRT.out _).mono ?_; rintro e w2 ⟨rfl, hb2⟩; have B2 := Lib.hid (HB.out.trans (hb2.mono HB.out.size)); clear hb2)
        go_roundg (nl - (i + 1))
        case measure => have := HI.out; omega
        case rel => exact ⟨i + 1, HI.out.1, rfl, by first | rfl | (rw [s5]; rfl), HK, B2⟩
    · obtain rfl : i = nl := by omega
      have s1 : decide ((i : Int) < (i : Int)) = false := decide_eq_false (by omega)
      have s2 : decide (i < i) = false := decide_eq_false (by omega)
      have HS1 := Lib.hid (show S1 = (0, 0) by rw [← H1.out, Nat.sub_self]; rfl)
      have HC2 := Lib.hid (show (if r3 ≠ 0 then (r2, r3) else if S2.2 ≠ 0 then S2 else if S3.2 ≠ 0 then S3 else (p2, p3)) = C by rw [← HC1.out, HS1.out, if_neg (show ¬ ((0 : Int), (0 : Int)).2 ≠ 0 by simp)])
      have HRI := Lib.hid (HRI0.out (by rw [HS1.out]))
      clear hil hi
      by_cases h0 : r3 = 0
      case neg =>
        have q1 : (r3 != 0) = true := by simpa using h0
        have q2 : (r3 == 0) = false := by simpa using h0
        have HF := Lib.hid (show C = (r2, r3) by rw [← HC2.out, if_pos h0])
        clear h0
        go_wp2_with (go_at_call 35; refine (HRG.out _ (inss_below HS.out HB.out)).mono ?_; rintro e w1 ⟨A1, c1, rfl, hr1, hb1⟩; have B1 := Lib.hid (HB.out.trans (hb1.mono HB.out.size)); clear hr1 hb1)
        go_ret2
        exact ⟨by rw [HF.out]; rfl, B1.out⟩
      subst h0
      have HC3 := Lib.hid (show (if S2.2 ≠ 0 then S2 else if S3.2 ≠ 0 then S3 else (p2, p3)) = C by rw [← HC2.out, if_neg (show ¬ (0 : Int) ≠ 0 by simp)])
      have HRL := Lib.hid (HRL0.out rfl)
      go_wp2_with (go_at_call 35; refine (HRG.out _ (inss_below HS.out HB.out)).mono ?_; rintro e w1 ⟨A1, c1, rfl, hr1, hb1⟩; have B1 := Lib.hid (HB.out.trans (hb1.mono HB.out.size)); have R1 := Lib.hid (irow_ints hr1); clear hr1 hb1)
      clear s1 s2
      go_loopg [10, 11] i (fun gm s10 s11 wx => w1 = wx ∧ ∃ k : Nat, k ≤ i ∧ gm = i - k ∧ s10 = .int .i64 k ∧ Hid (scanE (f2E l r1) k (i - k) = S2))
      case atStart => exact ⟨rfl, 0, Nat.zero_le _, rfl, rfl, H2⟩
      case round =>
        clear H2
        obtain ⟨rfl, k, hk, rfl, rfl, H2⟩ := hrel
        by_cases hkl : k < i
        · have s1 : decide ((k : Int) < (i : Int)) = true := decide_eq_true (by omega)
          have s2 : decide (k < i) = true := decide_eq_true hkl
          have s3 : (k : Int) < (i : Int) := by omega
          have s4 : (0 : Int) ≤ (k : Int) := by omega
          have s5 : wrap64 ((k : Int) + 1) = (k : Int) + 1 := by have := HN.out; unfold wrap64; omega
          have s6 : (k : Int) < (r1.length : Int) := by rw [HRL.out]; exact s3
          obtain ⟨ad, rfl, hin, lad, la⟩ := inss_in HS.out B1.out (i := k) (by have := HNL.out; omega)
          obtain ⟨⟨op, ag, vv⟩, hop⟩ : ∃ x, xn l k = x := ⟨_, rfl⟩
          rw [hop] at hin
          obtain ⟨hok, b0, _, _⟩ := hin
          dsimp only at b0
          obtain ⟨an, rfl, xk⟩ := ints_head R1.out (i := k) (by rw [HRL.out]; exact hkl)
          have lk := World.block_lt_of_cell? w1 _ xk
          have HI := Lib.hid (show k < i ∧ i - k = (i - (k + 1)) + 1 by omega)
          have H2' := Lib.hid (show scanE (f2E l r1) k ((i - (k + 1)) + 1) = S2 by rw [← HI.out.2]; exact H2.out)
          have HF := Lib.hid (show f2E l r1 k = if ((varB op || op == 26) && decide (ivAt r1 k < 0)) = true then 8 else if ((op == 27 || op == 28) && decide (ivAt r1 k ≥ 0)) = true then 8 else 0 by unfold f2E; rw [hop])
          obtain ⟨x, hx⟩ : ∃ x, ivAt r1 k = x := ⟨_, rfl⟩
          rw [hx] at xk HF
          have HV := Lib.hid (fun w => var15_any op w)
          clear hk hkl hop H2 hok hx
          obtain ⟨vb, HVB⟩ : ∃ y, Hid (varB op = y) := ⟨_, Lib.hid rfl⟩
          have HF := Lib.hid (show f2E l r1 k = if ((vb || op == 26) && decide (x < 0)) = true then 8 else if ((op == 27 || op == 28) && decide (x ≥ 0)) = true then 8 else 0 by rw [HF.out, HVB.out])
          cases hvb : vb
          · cases h26 : (op == 26)
            · cases h27 : (op == 27)
              · cases h28 : (op == 28)
                · have HF2 := Lib.hid (show f2E l r1 k = 0 by rw [HF.out, hvb, h26, h27, h28]; rfl)
                  have HK := Lib.hid (show scanE (f2E l r1) (k + 1) (i - (k + 1)) = S2 by rw [← H2'.out, scan_go HF2.out])
                  go_wp2_with (go_at_call 36; refine (HV.out _).mono ?_; rintro e w' ⟨rfl, rfl⟩; rw [HVB.out])
                  go_roundg (i - (k + 1))
                  case measure => have := HI.out; omega
                  case rel => exact ⟨rfl, k + 1, HI.out.1, rfl, by first | rfl | (rw [s5]; rfl), HK⟩
                · by_cases hx0 : x < 0
                  · have c1 : decide (x < 0) = true := decide_eq_true hx0
                    have c2 : decide (x ≥ 0) = false := decide_eq_false (by omega)
                    have c3 : decide ((0 : Int) ≤ x) = false := c2
                    have HF2 := Lib.hid (show f2E l r1 k = 0 by rw [HF.out, hvb, h26, h27, h28, c1, c2]; rfl)
                    clear hx0
                    have HK := Lib.hid (show scanE (f2E l r1) (k + 1) (i - (k + 1)) = S2 by rw [← H2'.out, scan_go HF2.out])
                    go_wp2_with (go_at_call 36; refine (HV.out _).mono ?_; rintro e w' ⟨rfl, rfl⟩; rw [HVB.out])
                    go_roundg (i - (k + 1))
                    case measure => have := HI.out; omega
                    case rel => exact ⟨rfl, k + 1, HI.out.1, rfl, by first | rfl | (rw [s5]; rfl), HK⟩
                  · have c1 : decide (x < 0) = false := decide_eq_false hx0
                    have c2 : decide (x ≥ 0) = true := decide_eq_true (by omega)
                    have c3 : decide ((0 : Int) ≤ x) = true := c2
                    have HF2 := Lib.hid (show f2E l r1 k = 8 by rw [HF.out, hvb, h26, h27, h28, c1, c2]; rfl)
                    clear hx0
                    have HS2 := Lib.hid (show S2 = ((k : Int), 8) by rw [← H2'.out, scan_hit (by rw [HF2.out]; decide), HF2.out])
                    have HCC := Lib.hid (show C = ((k : Int), 8) by rw [← HC3.out, HS2.out]; rfl)
                    go_wp2_with (go_at_call 36; refine (HV.out _).mono ?_; rintro e w' ⟨rfl, rfl⟩; rw [HVB.out])
                    go_ret2
                    exact ⟨by rw [HCC.out]; rfl, B1.out⟩
              · by_cases hx0 : x < 0
                · have c1 : decide (x < 0) = true := decide_eq_true hx0
                  have c2 : decide (x ≥ 0) = false := decide_eq_false (by omega)
                  have c3 : decide ((0 : Int) ≤ x) = false := c2
                  have HF2 := Lib.hid (show f2E l r1 k = 0 by rw [HF.out, hvb, h26, h27, c1, c2]; rfl)
                  clear hx0
                  have HK := Lib.hid (show scanE (f2E l r1) (k + 1) (i - (k + 1)) = S2 by rw [← H2'.out, scan_go HF2.out])
                  go_wp2_with (go_at_call 36; refine (HV.out _).mono ?_; rintro e w' ⟨rfl, rfl⟩; rw [HVB.out])
                  go_roundg (i - (k + 1))
                  case measure => have := HI.out; omega
                  case rel => exact ⟨rfl, k + 1, HI.out.1, rfl, by first | rfl | (rw [s5]; rfl), HK⟩
                · have c1 : decide (x < 0) = false := decide_eq_false hx0
                  have c2 : decide (x ≥ 0) = true := decide_eq_true (by omega)
                  have c3 : decide ((0 : Int) ≤ x) = true := c2
                  have HF2 := Lib.hid (show f2E l r1 k = 8 by rw [HF.out, hvb, h26, h27, c1, c2]; rfl)
                  clear hx0
                  have HS2 := Lib.hid (show S2 = ((k : Int), 8) by rw [← H2'.out, scan_hit (by rw [HF2.out]; decide), HF2.out])
                  have HCC := Lib.hid (show C = ((k : Int), 8) by rw [← HC3.out, HS2.out]; rfl)
                  go_wp2_with (go_at_call 36; refine (HV.out _).mono ?_; rintro e w' ⟨rfl, rfl⟩; rw [HVB.out])
                  go_ret2
                  exact ⟨by rw [HCC.out]; rfl, B1.out⟩
            · have e26 : op = 26 := by simpa using h26
              have h27 : (op == 27) = false := by rw [e26]; rfl
              have h28 : (op == 28) = false := by rw [e26]; rfl
              clear e26
              by_cases hx0 : x < 0
              · have c1 : decide (x < 0) = true := decide_eq_true hx0
                have c2 : decide (x ≥ 0) = false := decide_eq_false (by omega)
                have c3 : decide ((0 : Int) ≤ x) = false := c2
                have HF2 := Lib.hid (show f2E l r1 k = 8 by rw [HF.out, hvb, h26, c1]; rfl)
                clear hx0
                have HS2 := Lib.hid (show S2 = ((k : Int), 8) by rw [← H2'.out, scan_hit (by rw [HF2.out]; decide), HF2.out])
                have HCC := Lib.hid (show C = ((k : Int), 8) by rw [← HC3.out, HS2.out]; rfl)
                go_wp2_with (go_at_call 36; refine (HV.out _).mono ?_; rintro e w' ⟨rfl, rfl⟩; rw [HVB.out])
                go_ret2
                exact ⟨by rw [HCC.out]; rfl, B1.out⟩
              · have c1 : decide (x < 0) = false := decide_eq_false hx0
                have c2 : decide (x ≥ 0) = true := decide_eq_true (by omega)
                have c3 : decide ((0 : Int) ≤ x) = true := c2
                have HF2 := Lib.hid (show f2E l r1 k = 0 by rw [HF.out, hvb, h26, h27, h28, c1]; rfl)
                clear hx0
                have HK := Lib.hid (show scanE (f2E l r1) (k + 1) (i - (k + 1)) = S2 by rw [← H2'.out, scan_go HF2.out])
                go_wp2_with (go_at_call 36; refine (HV.out _).mono ?_; rintro e w' ⟨rfl, rfl⟩; rw [HVB.out])
                go_roundg (i - (k + 1))
                case measure => have := HI.out; omega
                case rel => exact ⟨rfl, k + 1, HI.out.1, rfl, by first | rfl | (rw [s5]; rfl), HK⟩
          · have hvn := var_not (by rw [HVB.out]; exact hvb : varB op = true)
            have h27 := hvn.1
            have h28 := hvn.2.1
            clear hvn
            by_cases hx0 : x < 0
            · have c1 : decide (x < 0) = true := decide_eq_true hx0
              have c2 : decide (x ≥ 0) = false := decide_eq_false (by omega)
              have c3 : decide ((0 : Int) ≤ x) = false := c2
              have HF2 := Lib.hid (show f2E l r1 k = 8 by rw [HF.out, hvb, c1]; rfl)
              clear hx0
              have HS2 := Lib.hid (show S2 = ((k : Int), 8) by rw [← H2'.out, scan_hit (by rw [HF2.out]; decide), HF2.out])
              have HCC := Lib.hid (show C = ((k : Int), 8) by rw [← HC3.out, HS2.out]; rfl)
              go_wp2_with (go_at_call 36; refine (HV.out _).mono ?_; rintro e w' ⟨rfl, rfl⟩; rw [HVB.out])
              go_ret2
              exact ⟨by rw [HCC.out]; rfl, B1.out⟩
            · have c1 : decide (x < 0) = false := decide_eq_false hx0
              have c2 : decide (x ≥ 0) = true := decide_eq_true (by omega)
              have c3 : decide ((0 : Int) ≤ x) = true := c2
              have HF2 := Lib.hid (show f2E l r1 k = 0 by rw [HF.out, hvb, h27, h28, c1]; rfl)
              clear hx0
              have HK := Lib.hid (show scanE (f2E l r1) (k + 1) (i - (k + 1)) = S2 by rw [← H2'.out, scan_go HF2.out])
              go_wp2_with (go_at_call 36; refine (HV.out _).mono ?_; rintro e w' ⟨rfl, rfl⟩; rw [HVB.out])
              go_roundg (i - (k + 1))
              case measure => have := HI.out; omega
              case rel => exact ⟨rfl, k + 1, HI.out.1, rfl, by first | rfl | (rw [s5]; rfl), HK⟩
        · obtain rfl : k = i := by omega
          have s1 : decide ((k : Int) < (k : Int)) = false := decide_eq_false (by omega)
          have s2 : decide (k < k) = false := decide_eq_false (by omega)
          have HS2 := Lib.hid (show S2 = (0, 0) by rw [← H2.out, Nat.sub_self]; rfl)
          have HC4 := Lib.hid (show (if S3.2 ≠ 0 then S3 else (p2, p3)) = C by rw [← HC3.out, HS2.out, if_neg (show ¬ ((0 : Int), (0 : Int)).2 ≠ 0 by simp)])
          clear hkl hk
          go_wp2_with fail
          clear s1 s2
          go_loopg [12] k (fun gm s12 wx => ∃ m : Nat, m ≤ k ∧ gm = k - m ∧ s12 = .int .i64 m ∧ Hid (scanE (f3E l r1 tv) m (k - m) = S3) ∧ Hid (Below w1.heap.size w1 wx))
          case atStart => exact ⟨0, Nat.zero_le _, rfl, rfl, H3, Lib.hid (Below.refl _ _)⟩
          case round =>
            clear H3
            obtain ⟨m, hm, rfl, rfl, H3, HBX⟩ := hrel
            have BX := Lib.hid (B1.out.trans (HBX.out.mono B1.out.size))
            by_cases hml : m < k
            · have s1 : decide ((m : Int) < (k : Int)) = true := decide_eq_true (by omega)
              have s2 : decide (m < k) = true := decide_eq_true hml
              have s3 : (m : Int) < (k : Int) := by omega
              have s4 : (0 : Int) ≤ (m : Int) := by omega
              have s5 : wrap64 ((m : Int) + 1) = (m : Int) + 1 := by have := HN.out; unfold wrap64; omega
              have s6 : (m : Int) < (r1.length : Int) := by rw [HRL.out]; exact s3
              obtain ⟨ad, rfl, hin, lad, la⟩ := inss_in HS.out BX.out (i := m) (by have := HNL.out; omega)
              obtain ⟨⟨op, ag, vv⟩, hop⟩ : ∃ x, xn l m = x := ⟨_, rfl⟩
              rw [hop] at hin
              obtain ⟨hok, b0, b1, b2⟩ := hin
              dsimp only at b0 b1 b2
              have HI := Lib.hid (show m < k ∧ k - m = (k - (m + 1)) + 1 by omega)
              have H3' := Lib.hid (show scanE (f3E l r1 tv) m ((k - (m + 1)) + 1) = S3 by rw [← HI.out.2]; exact H3.out)
              have HAG := Lib.hid (show 0 ≤ ag ∧ ag < 64 by
                have h := right_pts (HRI.out m hml)
                have h2 := lim_le (xn l m).op
                rw [hop] at h h2
                dsimp only at h h2
                omega)
              have HF := Lib.hid (show f3E l r1 tv m = if (varB op && decide (ag ≥ tv)) = true then 2 else if ((op == 19 || op == 20) && (decide (ag ≥ (k : Int)) || ivAt r1 ag.toNat != ivAt r1 m)) = true then 2 else 0 by unfold f3E; rw [hop, HNL.out])
              have HV := Lib.hid (fun w => var15_any op w)
              have HML := Lib.hid hml
              clear hm hml hop H3 hok
              go_upto_region 24 with fail
              have X3 := Lib.hid (heap_alloc_new wr (.cells #[.int .u8 op, .int .i64 ag, .int .u64 vv] 35))
              have B3 := Lib.hid (HBX.out.alloc HBX.out.size (.cells #[.int .u8 op, .int .i64 ag, .int .u64 vv] 35))
              clear b0 b1 b2 lad la BX
              generalize World.alloc _ _ = w3 at X3 B3 ⊢
              generalize wr.heap.size = xi at X3 ⊢
              have b0 : w3.cell? ⟨xi, 0, none⟩ = some (.int .u8 op) := hp_cell X3.out 0
              have b1 : w3.cell? ⟨xi, 1, none⟩ = some (.int .i64 ag) := hp_cell X3.out 1
              have lx := hp_lt X3.out
              obtain ⟨vb, HVB⟩ : ∃ y, Hid (varB op = y) := ⟨_, Lib.hid rfl⟩
              have HF := Lib.hid (show f3E l r1 tv m = if (vb && decide (ag ≥ tv)) = true then 2 else if ((op == 19 || op == 20) && (decide (ag ≥ (k : Int)) || ivAt r1 ag.toNat != ivAt r1 m)) = true then 2 else 0 by rw [HF.out, HVB.out])
              cases hvb : vb
              · cases h19 : (op == 19)
                · cases h20 : (op == 20)
                  · have HF2 := Lib.hid (show f3E l r1 tv m = 0 by rw [HF.out, hvb, h19, h20]; rfl)
                    have HK := Lib.hid (show scanE (f3E l r1 tv) (m + 1) (k - (m + 1)) = S3 by rw [← H3'.out, scan_go HF2.out])
                    go_wp2_with (go_at_call 36; refine (HV.out _).mono ?_; rintro e w' ⟨rfl, rfl⟩; rw [HVB.out])
                    go_quiet (fail)
                    go_wp2_with fail
                    go_roundg (k - (m + 1))
                    case measure => have := HI.out; omega
                    case rel => exact ⟨m + 1, HI.out.1, rfl, by first | rfl | (rw [s5]; rfl), HK, Lib.hid (bl_drewN B3.out nq)⟩
                  · by_cases ha : ag ≥ (k : Int)
                    · have d1 : decide (ag ≥ (k : Int)) = true := decide_eq_true ha
                      have d2 : decide ((k : Int) ≤ ag) = true := d1
                      have HF2 := Lib.hid (show f3E l r1 tv m = 2 by rw [HF.out, hvb, h19, h20, d1]; rfl)
                      clear ha
                      have HS3 := Lib.hid (show S3 = ((m : Int), 2) by rw [← H3'.out, scan_hit (by rw [HF2.out]; decide), HF2.out])
                      have HCC := Lib.hid (show C = ((m : Int), 2) by rw [← HC4.out, HS3.out]; rfl)
                      go_wp2_with (go_at_call 36; refine (HV.out _).mono ?_; rintro e w' ⟨rfl, rfl⟩; rw [HVB.out])
                      go_quiet (fail)
                      go_wp2_with fail
                      go_ret2
                      exact ⟨by rw [HCC.out]; rfl, (bl_drewN (B1.out.trans (B3.out.mono B1.out.size)) nq)⟩
                    · have d1 : decide (ag ≥ (k : Int)) = false := decide_eq_false ha
                      have d2 : decide ((k : Int) ≤ ag) = false := d1
                      obtain ⟨a, hga⟩ : ∃ a : Nat, ag = (a : Int) := ⟨ag.toNat, by have := HAG.out; omega⟩
                      have hak : a < k := by omega
                      subst hga
                      have d3 : decide (k ≤ a) = false := decide_eq_false (by omega)
                      rw [Int.toNat_natCast] at HF
                      obtain ⟨an, e1, ya⟩ := ints_head R1.out (i := a) (by rw [HRL.out]; exact hak)
                      subst e1
                      obtain ⟨an', e1, ym⟩ := ints_head R1.out (i := m) (by rw [HRL.out]; exact HML.out)
                      obtain rfl : an = an' := Option.some.inj e1
                      obtain ⟨x, hx⟩ : ∃ x, ivAt r1 a = x := ⟨_, rfl⟩
                      obtain ⟨y, hy⟩ : ∃ y, ivAt r1 m = y := ⟨_, rfl⟩
                      rw [hx] at ya HF
                      rw [hy] at ym HF
                      have la0 := World.block_lt_of_cell? w1 _ ya
                      have lm0 := World.block_lt_of_cell? w1 _ ym
                      have za := (World.cell?_of_block (B3.out.block _ la0)).trans ya
                      have zm := (World.cell?_of_block (B3.out.block _ lm0)).trans ym
                      have la1 := World.block_lt_of_cell? w3 _ za
                      have lm1 := World.block_lt_of_cell? w3 _ zm
                      have g1 : (a : Int) < (r1.length : Int) := by rw [HRL.out]; omega
                      have g2 : (0 : Int) ≤ (a : Int) := by omega
                      clear ya ym la0 lm0 e1 hx hy ha hak
                      cases hxy : (x != y)
                      · have hxy' : (x == y) = true := by simpa [bne] using hxy
                        have HF2 := Lib.hid (show f3E l r1 tv m = 0 by rw [HF.out, hvb, h19, h20, d1, hxy]; rfl)
                        have HK := Lib.hid (show scanE (f3E l r1 tv) (m + 1) (k - (m + 1)) = S3 by rw [← H3'.out, scan_go HF2.out])
                        go_wp2_with (go_at_call 36; refine (HV.out _).mono ?_; rintro e w' ⟨rfl, rfl⟩; rw [HVB.out])
                        go_quiet (fail)
                        go_wp2_with fail
                        go_roundg (k - (m + 1))
                        case measure => have := HI.out; omega
                        case rel => exact ⟨m + 1, HI.out.1, rfl, by first | rfl | (rw [s5]; rfl), HK, Lib.hid (bl_drewN B3.out nq)⟩
                      · have hxy' : (x == y) = false := by simpa [bne] using hxy
                        have HF2 := Lib.hid (show f3E l r1 tv m = 2 by rw [HF.out, hvb, h19, h20, d1, hxy]; rfl)
                        have HS3 := Lib.hid (show S3 = ((m : Int), 2) by rw [← H3'.out, scan_hit (by rw [HF2.out]; decide), HF2.out])
                        have HCC := Lib.hid (show C = ((m : Int), 2) by rw [← HC4.out, HS3.out]; rfl)
                        go_wp2_with (go_at_call 36; refine (HV.out _).mono ?_; rintro e w' ⟨rfl, rfl⟩; rw [HVB.out])
                        go_quiet (fail)
                        go_wp2_with fail
                        go_ret2
                        exact ⟨by rw [HCC.out]; rfl, (bl_drewN (B1.out.trans (B3.out.mono B1.out.size)) nq)⟩
                · by_cases ha : ag ≥ (k : Int)
                  · have d1 : decide (ag ≥ (k : Int)) = true := decide_eq_true ha
                    have d2 : decide ((k : Int) ≤ ag) = true := d1
                    have HF2 := Lib.hid (show f3E l r1 tv m = 2 by rw [HF.out, hvb, h19, d1]; rfl)
                    clear ha
                    have HS3 := Lib.hid (show S3 = ((m : Int), 2) by rw [← H3'.out, scan_hit (by rw [HF2.out]; decide), HF2.out])
                    have HCC := Lib.hid (show C = ((m : Int), 2) by rw [← HC4.out, HS3.out]; rfl)
                    go_wp2_with (go_at_call 36; refine (HV.out _).mono ?_; rintro e w' ⟨rfl, rfl⟩; rw [HVB.out])
                    go_quiet (fail)
                    go_wp2_with fail
                    go_ret2
                    exact ⟨by rw [HCC.out]; rfl, (bl_drewN (B1.out.trans (B3.out.mono B1.out.size)) nq)⟩
                  · have d1 : decide (ag ≥ (k : Int)) = false := decide_eq_false ha
                    have d2 : decide ((k : Int) ≤ ag) = false := d1
                    obtain ⟨a, hga⟩ : ∃ a : Nat, ag = (a : Int) := ⟨ag.toNat, by have := HAG.out; omega⟩
                    have hak : a < k := by omega
                    subst hga
                    have d3 : decide (k ≤ a) = false := decide_eq_false (by omega)
                    rw [Int.toNat_natCast] at HF
                    obtain ⟨an, e1, ya⟩ := ints_head R1.out (i := a) (by rw [HRL.out]; exact hak)
                    subst e1
                    obtain ⟨an', e1, ym⟩ := ints_head R1.out (i := m) (by rw [HRL.out]; exact HML.out)
                    obtain rfl : an = an' := Option.some.inj e1
                    obtain ⟨x, hx⟩ : ∃ x, ivAt r1 a = x := ⟨_, rfl⟩
                    obtain ⟨y, hy⟩ : ∃ y, ivAt r1 m = y := ⟨_, rfl⟩
                    rw [hx] at ya HF
                    rw [hy] at ym HF
                    have la0 := World.block_lt_of_cell? w1 _ ya
                    have lm0 := World.block_lt_of_cell? w1 _ ym
                    have za := (World.cell?_of_block (B3.out.block _ la0)).trans ya
                    have zm := (World.cell?_of_block (B3.out.block _ lm0)).trans ym
                    have la1 := World.block_lt_of_cell? w3 _ za
                    have lm1 := World.block_lt_of_cell? w3 _ zm
                    have g1 : (a : Int) < (r1.length : Int) := by rw [HRL.out]; omega
                    have g2 : (0 : Int) ≤ (a : Int) := by omega
                    clear ya ym la0 lm0 e1 hx hy ha hak
                    cases hxy : (x != y)
                    · have hxy' : (x == y) = true := by simpa [bne] using hxy
                      have HF2 := Lib.hid (show f3E l r1 tv m = 0 by rw [HF.out, hvb, h19, d1, hxy]; rfl)
                      have HK := Lib.hid (show scanE (f3E l r1 tv) (m + 1) (k - (m + 1)) = S3 by rw [← H3'.out, scan_go HF2.out])
                      go_wp2_with (go_at_call 36; refine (HV.out _).mono ?_; rintro e w' ⟨rfl, rfl⟩; rw [HVB.out])
                      go_quiet (fail)
                      go_wp2_with fail
                      go_roundg (k - (m + 1))
                      case measure => have := HI.out; omega
                      case rel => exact ⟨m + 1, HI.out.1, rfl, by first | rfl | (rw [s5]; rfl), HK, Lib.hid (bl_drewN B3.out nq)⟩
                    · have hxy' : (x == y) = false := by simpa [bne] using hxy
                      have HF2 := Lib.hid (show f3E l r1 tv m = 2 by rw [HF.out, hvb, h19, d1, hxy]; rfl)
                      have HS3 := Lib.hid (show S3 = ((m : Int), 2) by rw [← H3'.out, scan_hit (by rw [HF2.out]; decide), HF2.out])
                      have HCC := Lib.hid (show C = ((m : Int), 2) by rw [← HC4.out, HS3.out]; rfl)
                      go_wp2_with (go_at_call 36; refine (HV.out _).mono ?_; rintro e w' ⟨rfl, rfl⟩; rw [HVB.out])
                      go_quiet (fail)
                      go_wp2_with fail
                      go_ret2
                      exact ⟨by rw [HCC.out]; rfl, (bl_drewN (B1.out.trans (B3.out.mono B1.out.size)) nq)⟩
              · have hvn := var_not (by rw [HVB.out]; exact hvb : varB op = true)
                have h19 := hvn.2.2.1
                have h20 := hvn.2.2.2
                clear hvn
                by_cases ht : ag ≥ tv
                · have c1 : decide (ag ≥ tv) = true := decide_eq_true ht
                  have c2 : decide (tv ≤ ag) = true := c1
                  have HF2 := Lib.hid (show f3E l r1 tv m = 2 by rw [HF.out, hvb, c1]; rfl)
                  clear ht
                  have HS3 := Lib.hid (show S3 = ((m : Int), 2) by rw [← H3'.out, scan_hit (by rw [HF2.out]; decide), HF2.out])
                  have HCC := Lib.hid (show C = ((m : Int), 2) by rw [← HC4.out, HS3.out]; rfl)
                  go_wp2_with (go_at_call 36; refine (HV.out _).mono ?_; rintro e w' ⟨rfl, rfl⟩; rw [HVB.out])
                  go_ret2
                  exact ⟨by rw [HCC.out]; rfl, (B1.out.trans (B3.out.mono B1.out.size))⟩
                · have c1 : decide (ag ≥ tv) = false := decide_eq_false ht
                  have c2 : decide (tv ≤ ag) = false := c1
                  have HF2 := Lib.hid (show f3E l r1 tv m = 0 by rw [HF.out, hvb, c1, h19, h20]; rfl)
                  clear ht
                  have HK := Lib.hid (show scanE (f3E l r1 tv) (m + 1) (k - (m + 1)) = S3 by rw [← H3'.out, scan_go HF2.out])
                  go_wp2_with (go_at_call 36; refine (HV.out _).mono ?_; rintro e w' ⟨rfl, rfl⟩; rw [HVB.out])
                  go_quiet (fail)
                  go_wp2_with fail
                  go_roundg (k - (m + 1))
                  case measure => have := HI.out; omega
                  case rel => exact ⟨m + 1, HI.out.1, rfl, by first | rfl | (rw [s5]; rfl), HK, Lib.hid (bl_drewN B3.out nq)⟩
            · obtain rfl : m = k := by omega
              have s1 : decide ((m : Int) < (m : Int)) = false := decide_eq_false (by omega)
              have s2 : decide (m < m) = false := decide_eq_false (by omega)
              have HS3 := Lib.hid (show S3 = (0, 0) by rw [← H3.out, Nat.sub_self]; rfl)
              have HCC := Lib.hid (show C = (p2, p3) by rw [← HC4.out, HS3.out, if_neg (show ¬ ((0 : Int), (0 : Int)).2 ≠ 0 by simp)])
              clear hml hm
              go_wp2_with (go_at_call 37; refine (HDP.out HN.out.1 (fun i hi => HRI.out i hi) _ (inss_below HS.out BX.out)).mono ?_; rintro e w4 ⟨A4, c4, rfl, hr4, hb4⟩; have B4 := Lib.hid (BX.out.trans (hb4.mono BX.out.size)); clear hr4 hb4)
              go_ret2
              exact ⟨by rw [HCC.out]; rfl, B4.out⟩
end Go.Proofs.Ytcjkpeojjonpiaa
