
/-
  linear.why, linear.search: what they come to.
-/
import Derived.Test.YtbanfaboimachaaLin2
import Derived.WalkMore
namespace Go.Proofs.Ytbanfaboimachaa
open Go.RowKit
set_option linter.unusedSimpArgs false
set_option linter.unusedVariables false

set_option maxHeartbeats 2000000 in
set_option maxRecDepth 100000 in
theorem why_any (W : World) (x : Value) (st : St) (s : Spn) (hs : s.ok) (w : World) (H : OAt W.heap.size w x st) (hb : Below W.heap.size W w) :
    Calls Try.prog 21 #[x, spV s] w fun e w' => e = .returned (.int .i64 (whyF st s).1) ∧ OAt W.heap.size w' x (whyF st s).2 ∧ Below W.heap.size W w' := by
  obtain ⟨⟨⟨av, ab, ae⟩, st'⟩, hm⟩ : ∃ r, stDo s.k s.who s.v st = r := ⟨_, rfl⟩
  have HW : Hid (whyF st s = (bif ab then 7 else bif ae != 0 then 3 else bif (s.en != -1 && s.ans != av) then 9 else 0, st')) := Lib.hid (by unfold whyF; rw [hm])
  have HM := Lib.hid hm
  have hv : W64 s.v := hs.2.2.1
  clear hm hs
  have HO := Lib.hid (OAt_below H ((Below.refl w.heap.size w).alloc (Nat.le_refl _) (.cells #[.int .u8 s.k, .int .i64 s.who, .int .u64 s.v, .int .u64 s.ans, .int .i64 s.fr, .int .i64 s.en] 41)))
  have HB := Lib.hid (hb.alloc hb.size (.cells #[.int .u8 s.k, .int .i64 s.who, .int .u64 s.v, .int .u64 s.ans, .int .i64 s.fr, .int .i64 s.en] 41))
  have HX := Lib.hid (heap_alloc_new w (.cells #[.int .u8 s.k, .int .i64 s.who, .int .u64 s.v, .int .u64 s.ans, .int .i64 s.fr, .int .i64 s.en] 41))
  clear H hb
  unfold spV
  have hc : ab = true ∨ (ab = false ∧ (ae != 0) = true) ∨ (ab = false ∧ (ae != 0) = false ∧ (s.en != -1) = false) ∨ (ab = false ∧ (ae != 0) = false ∧ (s.en != -1) = true ∧ ((s.ans != av) = false ∨ (s.ans != av) = true)) := by
    cases ab <;> cases (ae != 0) <;> cases (s.en != -1) <;> cases (s.ans != av) <;> simp
  rcases hc with rfl | ⟨rfl, h1⟩ | ⟨rfl, h1, h2⟩ | ⟨rfl, h1, h2, h3 | h3⟩
  all_goals
    go_enter Try.func21, Try.ntmps21
    go_wp2_with (go_at_call 34; refine (oDo_as hv HM.out HO.out).mono ?_; rintro e w1 ⟨rfl, ho, ht⟩; have O1 := Lib.hid ho; have B1 := Lib.hid (Touch.below ht HB.out); have hx1 := ht.cells HX.out (by unfold tO; decide); have lx := hp_lt hx1; have x3 : w1.cell? ⟨w.heap.size, 3, none⟩ = some (.int .u64 s.ans) := hp_cell hx1 3; have x5 : w1.cell? ⟨w.heap.size, 5, none⟩ = some (.int .i64 s.en) := hp_cell hx1 5; clear ho ht hx1)
    go_ret
    exact ⟨by rw [HW.out]; first | rfl | simp [*], by rw [HW.out]; exact OAt_below O1.out ((Below.refl _ _).alloc (Nat.le_refl _) _), B1.out.alloc B1.out.size _⟩
def IRowPost (l : List Int) (w : World) (e : Ending) (w' : World) : Prop := ∃ A' c', e = .returned (.slice A' l.length c') ∧ IRowAt w' w.heap.size A' c' l ∧ Below w.heap.size w w'
theorem iclone_row (A : Option Addr) (c : Nat) (l : List Int) (h : l.length ≤ c) (h4 : l.length ≤ 1000) (hA : A = none → c = 0) (w : World) (hv : IntsAt okAll w A l) : Calls Try.prog 28 #[.slice A l.length c] w (IRowPost l w) := by
  have qT : ∀ (w : World) (a : Option Addr) (n c n' c' : Nat), (binOp .eql 26 (.slice a n c) (.slice none n' c')).run Try.prog w = .ok (.bool a.isNone) w := fun w a n c n' c' => Lib.run_eql_slice_nil w _ _ a n c n' c' Try.underlying26
  cases A with
  | none =>
    obtain rfl := ints_none hv
    obtain rfl := hA rfl
    go_enter Try.func28, Try.ntmps28
    go_wp2
    go_ret
    exact ⟨none, 0, rfl, irow_nil _ _, Below.refl _ _⟩
  | some b =>
    obtain ⟨i0, hi, hz0, hz1, hz2⟩ := info_parts Int_info
    have HI := Lib.hid hi
    have HZ0 := Lib.hid hz0
    have HZ1 := Lib.hid hz1
    have HZ2 := Lib.hid hz2
    have HV := Lib.hid hv
    clear hi hz0 hz1 hz2 hv hA
    go_enter Try.func28, Try.ntmps28
    go_wp2_with (at_builtin; refine wpList_append_own _ rfl (.tmp 5) (.tmp 6) 26 rfl w.heap.size 3 i0 (.int .i64 0) 1 8 Try.underlying26 HI.out HZ0.out HZ1.out HZ2.out rfl (by decide) (.slice (some ⟨w.heap.size, 0, none⟩) 0 0) 0 [] rfl (World.ownsRow_made w #[] 0 (Nat.le_refl _) (Nat.zero_le _) rfl) b l.length c (intsC l) rfl (by rw [intsC_len, Nat.mul_one]) (fun j u hj => ints_cell (ints_below HV.out ((Below.refl _ _).alloc (Nat.le_refl _) _)) j u hj) (intsC_one l) (by unfold maxLen; omega) (by omega) (by simp) ?_; intro v' w1 hown hgrow hnil; have HO := Lib.hid hown; have HG := Lib.hid hgrow; clear hown hgrow hnil)
    go_ret
    have hown := HO.out
    rw [Nat.zero_add, List.nil_append] at hown
    obtain ⟨A, c1, rfl, k1⟩ := irow_of hown HV.out.1
    exact ⟨A, c1, rfl, k1, ((Below.refl _ _).alloc (Nat.le_refl _) _).grown HG.out (by simp) (fun k hk => by simp [Value.ownBlock] at hk; omega)⟩
def SearchRes (l : List Spn) (r : Option (List Int)) (e : Ending) (w' : World) : Prop := match r with
  | none => e = .returned (.tuple #[.slice none 0 0, .bool false])
  | some o => ∃ A' c', e = .returned (.tuple #[.slice A' o.length c', .bool true]) ∧ IntsAt okAll w' A' o ∧ o.length ≤ c' ∧ (A' = none → c' = 0)
def SearchPost (l : List Spn) (fuel : Nat) (st : St) (o : List Int) (w : World) (e : Ending) (w' : World) : Prop := SearchRes l (searchF l fuel st o) e w' ∧ Below w.heap.size w w'
theorem scan_next {f : Nat → Option (List Int)} {n j : Nat} (hj : j < n) (hf : f j = none) (h : scanF f 0 n = scanF f j (n - j)) : scanF f 0 n = scanF f (j + 1) (n - (j + 1)) := by
  rw [h, show n - j = (n - (j + 1)) + 1 by omega]
  show (match f j with | some r => some r | none => scanF f (j + 1) (n - (j + 1))) = _
  rw [hf]
theorem scan_hit {f : Nat → Option (List Int)} {n j : Nat} {r : List Int} (hj : j < n) (hf : f j = some r) (h : scanF f 0 n = scanF f j (n - j)) : scanF f 0 n = some r := by
  rw [h, show n - j = (n - (j + 1)) + 1 by omega]
  show (match f j with | some r => some r | none => scanF f (j + 1) (n - (j + 1))) = _
  rw [hf]
theorem scan_end {f : Nat → Option (List Int)} {n : Nat} (h : scanF f 0 n = scanF f n (n - n)) : scanF f 0 n = none := by
  rw [h, Nat.sub_self]; rfl
theorem try_no {l : List Spn} {st : St} {o : List Int} {rec : St → List Int → Option (List Int)} {n : Nat} (h : okNext l o n = false) : tryF l st o rec n = none := by unfold tryF; rw [h]; rfl
theorem ok_contains {l : List Spn} {o : List Int} {n : Nat} (h : hasB o (n : Int) = true) : okNext l o n = false := by unfold okNext; rw [h]; rfl
theorem sp_some {w : World} {ad : Addr} {l : List Spn} (h : SpansAt w (some ad) l) {j : Nat} (hj : j < l.length) : SpAt w (ad.add (j * 6)) (sp l j) := by
  obtain ⟨ad', e, h⟩ := sp_at h hj
  obtain rfl := Option.some.inj e
  exact h
theorem irow_ok {w : World} {base c : Nat} {A : Option Addr} {l : List Int} (h : IRowAt w base A c l) : l.length ≤ c ∧ (A = none → c = 0) ∧ IntsAt okAll w A l := by
  obtain ⟨A', c', hv, h2, _, h3, h4, _⟩ := ints_own (ok := okAll) h.1 h.2 (fun _ _ => trivial)
  simp only [Value.slice.injEq, true_and] at hv
  obtain ⟨rfl, rfl⟩ := hv
  exact ⟨h2, h4, h3⟩
set_option maxHeartbeats 16000000 in
set_option maxRecDepth 100000 in
theorem search_any (l : List Spn) (A : Option Addr) (c : Nat) (hl : l.length ≤ 24) (N : Nat) : ∀ (fuel : Nat) (x : Value) (st : St) (B : Nat) (o : List Int) (A2 : Option Addr) (c2 : Nat) (w : World) (H : OAt B w x st) (HS : SpansAt w A l) (HI : IntsAt okAll w A2 o) (hc : o.length ≤ c2) (hA : A2 = none → c2 = 0) (ho : o.length + left l o ≤ 24) (hf : left l o ≤ fuel) (hN : left l o < N),
    Calls Try.prog 13 #[x, .slice A l.length c, .slice A2 o.length c2] w (SearchPost l fuel st o w) := by
  induction N with
  | zero => intro _ _ _ _ _ _ _ _ _ _ _ _ _ _ _ hN; exact absurd hN (Nat.not_lt_zero _)
  | succ N ih =>
    intro fuel x st B o A2 c2 w H HS HI hc hA ho hf hN
    have IH := Lib.hid ih
    have HO := Lib.hid H
    have HS0 := Lib.hid HS
    have HI0 := Lib.hid HI
    have HA := Lib.hid hA
    have HL := Lib.hid (show o.length + left l o ≤ 24 ∧ left l o ≤ fuel ∧ left l o < N + 1 from ⟨ho, hf, hN⟩)
    have ho24 : o.length ≤ 24 := by omega
    clear ih H HS HI hA ho hf hN
    cases hr : restB l o
    · have HSTEP := Lib.hid (searchF_step l fuel st o HL.out.2.1 hr)
      go_enter Try.func13, Try.ntmps13
      go_wp2_with fail
      go_step3
      go_wp2_with (go_at_call 18; refine (rest_any A c l A2 c2 o (by omega) (by omega) _ HS0.out HI0.out).mono ?_; rintro e w1 ⟨rfl, hb1⟩; have B1 := Lib.hid hb1; clear hb1)
      go_step3
      go_wp2_with fail
      clear hr
      go_loopw [19] (fun i wr => ∃ j : Nat, j ≤ l.length ∧ i = .int .i64 j ∧ Hid (scanF (tryF l st o (searchF l (fuel - 1))) 0 l.length = scanF (tryF l st o (searchF l (fuel - 1))) j (l.length - j)) ∧ Hid (Below w.heap.size w wr)) (fun i _ => l.length - (intOf i).toNat)
      case atStart => exact ⟨0, by omega, rfl, Lib.hid rfl, B1⟩
      case round =>
        obtain ⟨j, hj, rfl, HN, HB⟩ := hrel
        clear B1
        by_cases hlt : j < l.length
        · have t1 : decide (j < l.length) = true := decide_eq_true hlt
          have t1' : decide ((j : Int) < (l.length : Int)) = true := decide_eq_true (by omega)
          have t3 : (j : Int) < (l.length : Int) := by omega
          have t4 : (0 : Int) ≤ (j : Int) := by omega
          have O1 := Lib.hid (OAt_below HO.out HB.out)
          have S1 := Lib.hid (spans_below HS0.out HB.out)
          have I1 := Lib.hid (ints_below HI0.out HB.out)
          cases hcj : hasB o (j : Int)
          · go_wp2_with (go_at_call 17; refine (contains_any A2 c2 o (j : Int) (by omega) _ I1.out).mono ?_; rintro e w' ⟨rfl, rfl⟩)
            have HCJ := Lib.hid hcj
            clear hcj
            go_loopw [27] (fun i wq => ∃ m : Nat, m ≤ l.length ∧ i = .int .i64 m ∧ Hid (∀ i, i < m → aheadAt l o j i = true) ∧ Hid (Below wr.heap.size wr wq)) (fun i _ => l.length - (intOf i).toNat)
            case atStart => exact ⟨0, by omega, rfl, Lib.hid (fun i hi => absurd hi (Nat.not_lt_zero _)), Lib.hid (Below.refl _ _)⟩
            case round =>
              obtain ⟨m, hm, rfl, HM, HQ⟩ := hrel
              clear t1 t1' t3 t4
              by_cases hlm : m < l.length
              · have S2 := Lib.hid (spans_below S1.out HQ.out)
                have I2 := Lib.hid (ints_below I1.out HQ.out)
                have t1 : decide (m < l.length) = true := decide_eq_true hlm
                have t1' : decide ((m : Int) < (l.length : Int)) = true := decide_eq_true (by omega)
                have HAH : Hid (aheadAt l o j m = !(((m : Int) != (j : Int) && !hasB o (m : Int)) && bef (sp l m) (sp l j))) := Lib.hid rfl
                have HNX := Lib.hid (fun (h : aheadAt l o j m = true) (i : Nat) (hi : i < m + 1) => show aheadAt l o j i = true from by
                  by_cases e : i = m
                  · rw [e]; exact h
                  · exact HM.out i (by omega))
                cases q1 : ((m : Int) != (j : Int))
                · have HA1 : Hid (aheadAt l o j m = true) := Lib.hid (by rw [HAH.out, q1]; rfl)
                  clear HAH
                  go_wp2_with fail
                  go_roundw
                  case rel => exact ⟨m + 1, by omega, by go_num, Lib.hid (HNX.out HA1.out), HQ⟩
                  case measure => simp [intOf]; omega
                · cases q2 : hasB o (m : Int)
                  · have HBE := Lib.hid (bef_any l A c m j hlm hlt (by omega) wr S2.out)
                    cases q3 : bef (sp l m) (sp l j)
                    · have HA1 : Hid (aheadAt l o j m = true) := Lib.hid (by rw [HAH.out, q1, q2, q3]; rfl)
                      clear HAH
                      go_wp2_with (first | (go_at_call 17; refine (contains_any A2 c2 o (m : Int) (by omega) _ I2.out).mono ?_; rintro e w' ⟨rfl, rfl⟩) | (go_at_call 16; refine HBE.out.mono ?_; rintro e w' ⟨rfl, nq, rfl⟩))
                      go_roundw
                      case rel => exact ⟨m + 1, by omega, by go_num, Lib.hid (HNX.out HA1.out), Lib.hid (bl_drewN HQ.out nq)⟩
                      case measure => simp [intOf]; omega
                    · have HA1 : Hid (okNext l o j = false) := Lib.hid (by unfold okNext; rw [allB_false hlm (by rw [HAH.out, q1, q2, q3]; rfl), Bool.and_false])
                      clear HAH
                      go_wp2_with (first | (go_at_call 17; refine (contains_any A2 c2 o (m : Int) (by omega) _ I2.out).mono ?_; rintro e w' ⟨rfl, rfl⟩) | (go_at_call 16; refine HBE.out.mono ?_; rintro e w' ⟨rfl, nq, rfl⟩))
                      go_roundw
                      case rel => exact ⟨j + 1, by omega, by go_num, Lib.hid (scan_next hlt (try_no HA1.out) HN.out), Lib.hid (bl_drewN (HB.out.trans (HQ.out.mono HB.out.size)) nq)⟩
                      case measure => simp [intOf]; omega
                  · have HA1 : Hid (aheadAt l o j m = true) := Lib.hid (by rw [HAH.out, q1, q2]; rfl)
                    clear HAH
                    go_wp2_with (go_at_call 17; refine (contains_any A2 c2 o (m : Int) (by omega) _ I2.out).mono ?_; rintro e w' ⟨rfl, rfl⟩)
                    go_roundw
                    case rel => exact ⟨m + 1, by omega, by go_num, Lib.hid (HNX.out HA1.out), HQ⟩
                    case measure => simp [intOf]; omega
              · have HOK : Hid (okNext l o j = true) := Lib.hid (by unfold okNext; rw [HCJ.out, allB_iff.mpr (fun i hi => HM.out i (by omega))]; rfl)
                have t1 : decide (m < l.length) = false := decide_eq_false hlm
                have t1' : decide ((m : Int) < (l.length : Int)) = false := decide_eq_false (by omega)
                have t3 : (j : Int) < (l.length : Int) := by omega
                have t4 : (0 : Int) ≤ (j : Int) := by omega
                have O2 := Lib.hid (OAt_below O1.out HQ.out)
                have S2 := Lib.hid (spans_below S1.out HQ.out)
                have I2 := Lib.hid (ints_below I1.out HQ.out)
                clear HM hlm
                have HTRY : Hid (tryF l st o (searchF l (fuel - 1)) j = bif ((whyF st (sp l j)).1 == 0) then searchF l (fuel - 1) (whyF st (sp l j)).2 (o ++ [(j : Int)]) else none) := Lib.hid (by unfold tryF; rw [HOK.out, Bool.true_and])
                obtain ⟨oj, hoj⟩ : ∃ y, y = o ++ [(j : Int)] := ⟨_, rfl⟩
                have HOJ := Lib.hid hoj.symm
                have HIH : Hid (oj.length + left l oj ≤ 24 ∧ left l oj ≤ fuel - 1 ∧ left l oj < N) := Lib.hid (by
                  have h1 := left_lt hlt HCJ.out
                  rw [← hoj] at h1
                  have h2 : oj.length = o.length + 1 := by rw [hoj]; simp
                  have h3 := HL.out
                  omega)
                rw [← hoj] at HTRY
                clear hoj
                obtain ⟨ad, rfl, _⟩ := sp_at S2.out hlt
                cases hq : ((whyF st (sp l j)).1 != 0)
                · have HT1 : Hid (tryF l st o (searchF l (fuel - 1)) j = searchF l (fuel - 1) (whyF st (sp l j)).2 oj) := Lib.hid (by rw [HTRY.out, show ((whyF st (sp l j)).1 == 0) = true by simpa using hq]; rfl)
                  obtain ⟨r, hr⟩ : ∃ r, searchF l (fuel - 1) (whyF st (sp l j)).2 oj = r := ⟨_, rfl⟩
                  have HSR := Lib.hid hr
                  clear hr HTRY
                  cases r with
                  | none =>
                    go_wp2_with (first | (go_at_call 27; refine (oFork_any O2.out).mono ?_; rintro e w3 ⟨x', rfl, ho, hb3⟩; have O3 := Lib.hid ho; have B3 := Lib.hid hb3; obtain ⟨hok, a0, a1, a2, a3, a4, a5⟩ := sp_some (spans_below S2.out hb3) hlt; clear ho hb3) | (go_at_call 21; refine (why_any wr x' st (sp l j) hok w3 O3.out B3.out).mono ?_; rintro e w4 ⟨rfl, ho4, hb4⟩; have O4 := Lib.hid ho4; have B4 := Lib.hid hb4; clear ho4 hb4 a0 a1 a2 a3 a4 a5) | (go_at_call 28; refine (iclone_row A2 c2 o hc (by omega) HA.out w4 (ints_below I2.out B4.out)).mono ?_; rintro e w5 ⟨A5, c5, rfl, hr5, hb5⟩; have R5 := Lib.hid hr5; have B5 := Lib.hid hb5; clear hr5 hb5) | (at_builtin; refine append_ints' rfl (.tmp 59) (.tmp 61) rfl w4.heap.size A5 c5 o rfl (irow_below R5.out ((Below.refl _ _).alloc (Nat.le_refl _) _)) (some ⟨_, 0, none⟩) 1 [(j : Int)] rfl (fun h => by cases h) (ints_lit' _ (j : Int) ⟨by omega, by omega⟩ _ rfl) (by simp; omega) (by have := B5.out.size; simp; omega) oj HOJ.out ?_; intro A6 c6 w6 hr6 hg6 hat6; have B6 := Lib.hid (show Below w4.heap.size w4 w6 from Below.grown (B5.out.alloc B5.out.size _) hg6 (by have := B5.out.size; simp; omega) (fun k hk => (irow_lt R5.out k hk).1)); have R6 := Lib.hid (irow_ok hr6); clear hr6 hg6 hat6) | (go_at_call 13; refine (IH.out (fuel - 1) x' (whyF st (sp l j)).2 wr.heap.size oj A6 c6 w6 (OAt_below O4.out B6.out) (spans_below S2.out (B4.out.trans (B6.out.mono B4.out.size))) R6.out.2.2 R6.out.1 R6.out.2.1 HIH.out.1 HIH.out.2.1 HIH.out.2.2).mono ?_; rintro e w7 ⟨hres, hb7⟩; have B7 := Lib.hid (show Below wr.heap.size wr w7 from (B4.out.trans (B6.out.mono B4.out.size)).trans (hb7.mono (Nat.le_trans B4.out.size B6.out.size))); rw [HSR.out] at hres; obtain rfl := hres; clear hb7))
                    go_roundw
                    case rel => exact ⟨j + 1, by omega, by go_num, Lib.hid (scan_next hlt (by rw [HT1.out, HSR.out]) HN.out), Lib.hid ((HB.out.trans (HQ.out.mono HB.out.size)).trans (B7.out.mono (Nat.le_trans HB.out.size HQ.out.size)))⟩
                    case measure => simp [intOf]; omega
                  | some r =>
                    go_wp2_with (first | (go_at_call 27; refine (oFork_any O2.out).mono ?_; rintro e w3 ⟨x', rfl, ho, hb3⟩; have O3 := Lib.hid ho; have B3 := Lib.hid hb3; obtain ⟨hok, a0, a1, a2, a3, a4, a5⟩ := sp_some (spans_below S2.out hb3) hlt; clear ho hb3) | (go_at_call 21; refine (why_any wr x' st (sp l j) hok w3 O3.out B3.out).mono ?_; rintro e w4 ⟨rfl, ho4, hb4⟩; have O4 := Lib.hid ho4; have B4 := Lib.hid hb4; clear ho4 hb4 a0 a1 a2 a3 a4 a5) | (go_at_call 28; refine (iclone_row A2 c2 o hc (by omega) HA.out w4 (ints_below I2.out B4.out)).mono ?_; rintro e w5 ⟨A5, c5, rfl, hr5, hb5⟩; have R5 := Lib.hid hr5; have B5 := Lib.hid hb5; clear hr5 hb5) | (at_builtin; refine append_ints' rfl (.tmp 59) (.tmp 61) rfl w4.heap.size A5 c5 o rfl (irow_below R5.out ((Below.refl _ _).alloc (Nat.le_refl _) _)) (some ⟨_, 0, none⟩) 1 [(j : Int)] rfl (fun h => by cases h) (ints_lit' _ (j : Int) ⟨by omega, by omega⟩ _ rfl) (by simp; omega) (by have := B5.out.size; simp; omega) oj HOJ.out ?_; intro A6 c6 w6 hr6 hg6 hat6; have B6 := Lib.hid (show Below w4.heap.size w4 w6 from Below.grown (B5.out.alloc B5.out.size _) hg6 (by have := B5.out.size; simp; omega) (fun k hk => (irow_lt R5.out k hk).1)); have R6 := Lib.hid (irow_ok hr6); clear hr6 hg6 hat6) | (go_at_call 13; refine (IH.out (fuel - 1) x' (whyF st (sp l j)).2 wr.heap.size oj A6 c6 w6 (OAt_below O4.out B6.out) (spans_below S2.out (B4.out.trans (B6.out.mono B4.out.size))) R6.out.2.2 R6.out.1 R6.out.2.1 HIH.out.1 HIH.out.2.1 HIH.out.2.2).mono ?_; rintro e w7 ⟨hres, hb7⟩; have B7 := Lib.hid (show Below wr.heap.size wr w7 from (B4.out.trans (B6.out.mono B4.out.size)).trans (hb7.mono (Nat.le_trans B4.out.size B6.out.size))); rw [HSR.out] at hres; obtain ⟨A7, c7, rfl, hk7⟩ := hres; have K7 := Lib.hid hk7; clear hk7 hb7))
                    try rw [Exit.noGoto_ret]
                    go_ret2
                    refine ⟨?_, (HB.out.trans (HQ.out.mono HB.out.size)).trans (B7.out.mono (Nat.le_trans HB.out.size HQ.out.size))⟩
                    rw [HSTEP.out, scan_hit hlt (by rw [HT1.out, HSR.out]) HN.out]
                    exact ⟨A7, c7, rfl, K7.out⟩
                · have HT1 : Hid (tryF l st o (searchF l (fuel - 1)) j = none) := Lib.hid (by rw [HTRY.out, show ((whyF st (sp l j)).1 == 0) = false by simpa using hq]; rfl)
                  clear HTRY
                  go_wp2_with (first | (go_at_call 27; refine (oFork_any O2.out).mono ?_; rintro e w3 ⟨x', rfl, ho, hb3⟩; have O3 := Lib.hid ho; have B3 := Lib.hid hb3; obtain ⟨hok, a0, a1, a2, a3, a4, a5⟩ := sp_some (spans_below S2.out hb3) hlt; clear ho hb3) | (go_at_call 21; refine (why_any wr x' st (sp l j) hok w3 O3.out B3.out).mono ?_; rintro e w4 ⟨rfl, ho4, hb4⟩; have O4 := Lib.hid ho4; have B4 := Lib.hid hb4; clear ho4 hb4 a0 a1 a2 a3 a4 a5))
                  go_roundw
                  case rel => exact ⟨j + 1, by omega, by go_num, Lib.hid (scan_next hlt HT1.out HN.out), Lib.hid ((HB.out.trans (HQ.out.mono HB.out.size)).trans (B4.out.mono (Nat.le_trans HB.out.size HQ.out.size)))⟩
                  case measure => simp [intOf]; omega
          · go_wp2_with (go_at_call 17; refine (contains_any A2 c2 o (j : Int) (by omega) _ I1.out).mono ?_; rintro e w' ⟨rfl, rfl⟩)
            go_roundw
            case rel => exact ⟨j + 1, by omega, by go_num, Lib.hid (scan_next hlt (try_no (ok_contains hcj)) HN.out), HB⟩
            case measure => simp [intOf]; omega
        · have t1 : decide (j < l.length) = false := decide_eq_false hlt
          have t1' : decide ((j : Int) < (l.length : Int)) = false := decide_eq_false (by omega)
          have HJ := Lib.hid (show j = l.length by omega)
          go_wp2_with fail
          try rw [Exit.noGoto_ret]
          go_ret2
          refine ⟨?_, HB.out⟩
          rw [HSTEP.out]
          have hn := HN.out
          rw [HJ.out] at hn
          rw [scan_end hn]
          rfl
    · have HRES : Hid (searchF l fuel st o = some o) := Lib.hid (by cases fuel <;> (unfold searchF; rw [hr]; rfl))
      go_enter Try.func13, Try.ntmps13
      go_wp2_with fail
      go_step3
      go_wp2_with (go_at_call 18; refine (rest_any A c l A2 c2 o (by omega) (by omega) _ HS0.out HI0.out).mono ?_; rintro e w1 ⟨rfl, hb1⟩; have B1 := Lib.hid hb1; clear hb1)
      try rw [Exit.noGoto_ret]
      go_ret2
      refine ⟨?_, B1.out⟩
      rw [HRES.out]
      exact ⟨A2, c2, rfl, ints_below HI0.out B1.out, hc, HA.out⟩
end Go.Proofs.Ytbanfaboimachaa
