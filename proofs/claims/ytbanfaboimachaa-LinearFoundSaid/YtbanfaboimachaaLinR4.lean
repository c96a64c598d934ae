
/-
  rowlockref21.run.
-/
import Derived.Test.YtbanfaboimachaaLinR3
import Derived.Test.YtbanfaboimachaaLinR2
import Derived.Test.YtbanfaboimachaaLin6
namespace Go.Proofs.Ytbanfaboimachaa
open Go.RowKit
set_option linter.unusedSimpArgs false
set_option linter.unusedVariables false

def runE (l : List Spn) : St → List Int → Nat → Int × Int
  | _, [], _ => (0, 0)
  | st, n :: s, i => bif !noneAhead l s n then ((i : Int), 8) else bif (whyF st (sp l n.toNat)).1 != 0 then ((i : Int), (whyF st (sp l n.toNat)).1) else runE l (whyF st (sp l n.toNat)).2 s (i + 1)
theorem runE_ok (l : List Spn) (st : St) (s : List Int) (i : Nat) : ((runE l st s i).2 == 0) = runOK l st s := by
  induction s generalizing st i with
  | nil => rfl
  | cons n s ih =>
    show ((bif !noneAhead l s n then ((i : Int), (8 : Int)) else bif (whyF st (sp l n.toNat)).1 != 0 then ((i : Int), (whyF st (sp l n.toNat)).1) else runE l (whyF st (sp l n.toNat)).2 s (i + 1)).2 == 0) = (noneAhead l s n && ((whyF st (sp l n.toNat)).1 == 0) && runOK l (whyF st (sp l n.toNat)).2 s)
    cases h1 : noneAhead l s n
    · rfl
    · cases h2 : ((whyF st (sp l n.toNat)).1 == 0)
      · have h3 : ((whyF st (sp l n.toNat)).1 != 0) = true := by simp only [bne, h2, Bool.not_false]
        rw [h3]
        simp only [Bool.not_true, cond_false, cond_true, Bool.and_false, Bool.false_and]
        exact h2
      · have h3 : ((whyF st (sp l n.toNat)).1 != 0) = false := by simp only [bne, h2, Bool.not_true]
        rw [h3]
        simp only [Bool.not_true, cond_false, Bool.and_true, Bool.true_and]
        exact ih _ _
/-- Places, each once. -/
def GoodRow (n : Nat) (o : List Int) : Prop := ∀ i, i < o.length → ∃ m : Nat, o[i]? = some (m : Int) ∧ m < n ∧ hasB (o.take i) (m : Int) = false
theorem goodRow_short {l : List Spn} {o : List Int} (h : GoodRow l.length o) : o.length ≤ l.length := by
  have key : ∀ i, i ≤ o.length → i + left l (o.take i) ≤ l.length := by
    intro i
    induction i with
    | zero => intro _; have := cnt_le (fun n => !hasB (o.take 0) ((n : Nat) : Int)) l.length; unfold left; omega
    | succ i ih =>
      intro hi
      obtain ⟨n, h1, h2, h3⟩ := h i (by omega)
      have e : o.take (i + 1) = o.take i ++ [(n : Int)] := by rw [List.take_add_one, h1]; rfl
      have := left_lt h2 h3
      rw [← e] at this
      have := ih (by omega)
      omega
  have := key o.length (Nat.le_refl _)
  omega
def RNewGood (k size : Int) (w : World) (e : Ending) (w' : World) : Prop := ∃ a, e = .returned (.pointer (some a)) ∧ RAt w.heap.size w' (.pointer (some a)) (stNew k size) ∧ Below w.heap.size w w'
theorem rNewGood (k size : Int) (h : goodB k size = true) (w : World) : Calls Try.prog 22 #[.int .u8 k, .int .i64 size] w (RNewGood k size w) := by
  refine (rNewSt k size w).mono fun e w' ⟨x, h1, h2, h3⟩ => ?_
  have hs : ∃ a, x = .pointer (some a) := by
    unfold stNew at h2
    rw [h] at h2
    simp only [cond_true] at h2
    cases q1 : (k == 1)
    · cases q2 : (k == 2)
      · cases q3 : (k == 3)
        · rw [q1, q2, q3] at h2; obtain ⟨a, e, _⟩ := h2; exact ⟨_, e⟩
        · rw [q1, q2, q3] at h2; obtain ⟨a, e, _⟩ := h2; exact ⟨_, e⟩
      · rw [q1, q2] at h2; obtain ⟨a, s, e, _⟩ := h2; exact ⟨_, e⟩
    · rw [q1] at h2; obtain ⟨a, e, _⟩ := h2; exact ⟨_, e⟩
  obtain ⟨a, rfl⟩ := hs
  exact ⟨a, h1, h2, h3⟩
theorem ahead_all {l : List Spn} {o : List Int} {i : Nat} {n : Int} (h : ∀ q, i < q → q < o.length → bef (sp l (nthI o q).toNat) (sp l n.toNat) = false) : noneAhead l (o.drop (i + 1)) n = true := by
  unfold noneAhead
  rw [List.all_eq_true]
  intro m hm
  obtain ⟨q, hq⟩ := List.mem_iff_getElem?.mp hm
  rw [List.getElem?_drop] at hq
  have hql : i + 1 + q < o.length := (List.getElem?_eq_some_iff.mp hq).1
  have := h (i + 1 + q) (by omega) hql
  unfold nthI at this
  rw [hq] at this
  rw [show (some m).getD 0 = m from rfl] at this
  rw [this]; rfl
theorem ahead_not {l : List Spn} {o : List Int} {i q : Nat} {n : Int} (h1 : i < q) (h2 : q < o.length) (h : bef (sp l (nthI o q).toNat) (sp l n.toNat) = true) : noneAhead l (o.drop (i + 1)) n = false := by
  cases hc : noneAhead l (o.drop (i + 1)) n
  · rfl
  · unfold noneAhead at hc
    rw [List.all_eq_true] at hc
    have hm : nthI o q ∈ o.drop (i + 1) := by
      refine List.mem_iff_getElem?.mpr ⟨q - (i + 1), ?_⟩
      rw [List.getElem?_drop, show i + 1 + (q - (i + 1)) = q by omega]
      unfold nthI
      rw [List.getElem?_eq_getElem h2]; rfl
    have := hc _ hm
    rw [h] at this
    cases this
set_option maxHeartbeats 16000000 in
set_option maxRecDepth 100000 in
theorem run_lin (k size : Int) (A : Option Addr) (c : Nat) (l : List Spn) (A2 : Option Addr) (c2 : Nat) (o : List Int) (hl : l.length ≤ 24) (hg : goodB k size = true) (hG : GoodRow l.length o) (w : World) (H : SpansAt w A l) (HI : IntsAt okAll w A2 o) :
    Calls Try.prog 25 #[.int .u8 k, .int .i64 size, .slice A l.length c, .slice A2 o.length c2] w (LegalPost (runE l (stNew k size) o 0) w) := by
  have ho24 : o.length ≤ 24 := by have := goodRow_short hG; omega
  have HGB := Lib.hid hg
  have HGO := Lib.hid hG
  have HS0 := Lib.hid H
  have HI0 := Lib.hid HI
  clear hg hG H HI
  go_enter Try.func25, Try.ntmps25
  go_wp2_with (go_at_call 22; refine (rNewGood k size HGB.out _).mono ?_; rintro e w1 ⟨a, rfl, ho, hb⟩; have O1 := Lib.hid ho; have B1 := Lib.hid hb; clear ho hb)
  go_loopw [11] (fun i wr => ∃ (j : Nat) (st' : St), j ≤ o.length ∧ i = .int .i64 j ∧ Hid (RAt w.heap.size wr (.pointer (some a)) st') ∧ Hid (runE l (stNew k size) o 0 = runE l st' (o.drop j) j) ∧ Hid (Below w.heap.size w wr)) (fun i _ => o.length - (intOf i).toNat)
  case atStart => exact ⟨0, _, by omega, rfl, O1, Lib.hid rfl, B1⟩
  case round =>
    obtain ⟨j, st', hj, rfl, HO, HRF, HB⟩ := hrel
    clear O1 B1
    by_cases hlt : j < o.length
    · obtain ⟨n, n1, n2, _⟩ := HGO.out j hlt
      have S1 := Lib.hid (spans_below HS0.out HB.out)
      have I1 := Lib.hid (ints_below HI0.out HB.out)
      have HRN : Hid (runE l st' (o.drop j) j = bif !noneAhead l (o.drop (j + 1)) n then ((j : Int), 8) else bif (whyF st' (sp l n)).1 != 0 then ((j : Int), (whyF st' (sp l n)).1) else runE l (whyF st' (sp l n)).2 (o.drop (j + 1)) (j + 1)) := Lib.hid (by
        rw [List.drop_eq_getElem_cons hlt, show o[j] = (n : Int) by rw [List.getElem?_eq_getElem hlt] at n1; exact Option.some.inj n1]
        show (bif !noneAhead l (o.drop (j + 1)) (n : Int) then ((j : Int), (8 : Int)) else bif (whyF st' (sp l (n : Int).toNat)).1 != 0 then ((j : Int), (whyF st' (sp l (n : Int).toNat)).1) else runE l (whyF st' (sp l (n : Int).toNat)).2 (o.drop (j + 1)) (j + 1)) = _
        rw [Int.toNat_natCast])
      obtain ⟨ad2, hA2e, hcn⟩ := ints_at I1.out hlt
      have hmv : nthI o j = (n : Int) := by unfold nthI; rw [n1]; rfl
      rw [hmv] at hcn
      subst hA2e
      have t1 : decide (j < o.length) = true := decide_eq_true hlt
      have t1' : decide ((j : Int) < (o.length : Int)) = true := decide_eq_true (by omega)
      have t3 : (j : Int) < (o.length : Int) := by omega
      have t4 : (0 : Int) ≤ (j : Int) := by omega
      clear hmv n1
      go_wp2_with fail
      go_loopw [12] (fun i wq => ∃ m : Nat, j + 1 ≤ m ∧ m ≤ o.length ∧ i = .int .i64 m ∧ Hid (∀ q, j < q → q < m → bef (sp l (nthI o q).toNat) (sp l (n : Int).toNat) = false) ∧ Hid (DrewN wr wq)) (fun i _ => o.length - (intOf i).toNat)
      case atStart => exact ⟨j + 1, by omega, by omega, by go_num, Lib.hid (fun q h1 h2 => by omega), Lib.hid (DrewN.refl _)⟩
      case round =>
        obtain ⟨m, hm1, hm2, rfl, HM, HD⟩ := hrel
        have HBW := Lib.hid (below_of_drewN HD.out)
        have S2 := Lib.hid (spans_below S1.out HBW.out)
        have I2 := Lib.hid (ints_below I1.out HBW.out)
        obtain ⟨ad2', hA2e, hcn2⟩ := ints_at I2.out hlt
        obtain rfl := Option.some.inj hA2e
        obtain ⟨n', n1', n2', _⟩ := HGO.out j hlt
        have hmv : nthI o j = (n : Int) := by
          obtain ⟨ad3, e3, hc3⟩ := ints_at I1.out hlt
          obtain rfl := Option.some.inj e3
          rw [hcn] at hc3
          simpa using hc3.symm
        rw [hmv] at hcn2
        clear hcn hmv n1' n2'
        by_cases hlm : m < o.length
        · obtain ⟨p, p1, p2, _⟩ := HGO.out m hlm
          obtain ⟨ad3, hA3, hcp⟩ := ints_at I2.out hlm
          obtain rfl := Option.some.inj hA3
          have hmp : nthI o m = (p : Int) := by unfold nthI; rw [p1]; rfl
          have HMP := Lib.hid hmp
          rw [hmp] at hcp
          have u1 : decide (m < o.length) = true := decide_eq_true hlm
          have u1' : decide ((m : Int) < (o.length : Int)) = true := decide_eq_true (by omega)
          have u3 : (m : Int) < (o.length : Int) := by omega
          have u4 : (0 : Int) ≤ (m : Int) := by omega
          clear hmp p1
          cases hq : bef (sp l p) (sp l n)
          · have HQ := Lib.hid hq
            clear hq
            go_wp2_with fail
            go_quiet ((go_at_call 36; exact Calls.quiet_of ((rbef_any l A c p n p2 n2 (by omega) _ (spans_below S2.out (bl_drewN (Below.refl _ _) _))).mono (fun _ _ h => ⟨by rw [h.1, HQ.out], h.2⟩))))
            go_wp2_with fail
            go_roundw
            case rel => exact ⟨m + 1, by omega, by omega, by go_num, Lib.hid (fun q h1 h2 => by
              by_cases e : q = m
              · rw [e, HMP.out, Int.toNat_natCast, Int.toNat_natCast]; exact HQ.out
              · exact HM.out q h1 (by omega)), Lib.hid (drewN_trans HD.out ⟨_, rfl⟩)⟩
            case measure => simp [intOf]; omega
          · have HQ := Lib.hid hq
            clear hq
            go_wp2_with fail
            go_quiet ((go_at_call 36; exact Calls.quiet_of ((rbef_any l A c p n p2 n2 (by omega) _ (spans_below S2.out (bl_drewN (Below.refl _ _) _))).mono (fun _ _ h => ⟨by rw [h.1, HQ.out], h.2⟩))))
            go_wp2_with fail
            go_ret2
            refine ⟨?_, bl_drewN (HB.out.trans (HBW.out.mono HB.out.size)) _⟩
            rw [HRF.out, HRN.out, ahead_not (show j < m by omega) hlm (by rw [HMP.out, Int.toNat_natCast, Int.toNat_natCast]; exact HQ.out)]
            rfl
        · have u1 : decide (m < o.length) = false := decide_eq_false hlm
          have u1' : decide ((m : Int) < (o.length : Int)) = false := decide_eq_false (by omega)
          have HNA : Hid (noneAhead l (o.drop (j + 1)) n = true) := Lib.hid (ahead_all (fun q h1 h2 => HM.out q h1 (by omega)))
          have O2 := Lib.hid (RAt_below HO.out HBW.out)
          have B2 := Lib.hid (HB.out.trans (HBW.out.mono HB.out.size))
          clear HM hm1 hm2
          have u3 : (n : Int) < (l.length : Int) := by omega
          have u4 : (0 : Int) ≤ (n : Int) := by omega
          obtain ⟨ad, hAe, hok, a0, a1, a2, a3, a4, a5⟩ := sp_at S2.out n2
          subst hAe
          have hv : W64 (sp l n).v := hok.2.2.1
          obtain ⟨⟨⟨av, ab, ae⟩, st''⟩, hmm⟩ : ∃ r, stDo (sp l n).k (sp l n).who (sp l n).v st' = r := ⟨_, rfl⟩
          have HW : Hid (whyF st' (sp l n) = (bif ab then 7 else bif ae != 0 then 3 else bif ((sp l n).en != -1 && (sp l n).ans != av) then 9 else 0, st'')) := Lib.hid (by unfold whyF; rw [hmm])
          have HM := Lib.hid hmm
          clear hmm hok
          have OX := Lib.hid (show RAt w.heap.size (wr.alloc (.cells #[.int .u8 (sp l n).k, .int .i64 (sp l n).who, .int .u64 (sp l n).v, .int .u64 (sp l n).ans, .int .i64 (sp l n).fr, .int .i64 (sp l n).en] 41)) (.pointer (some a)) st' ∧ Below w.heap.size w (wr.alloc (.cells #[.int .u8 (sp l n).k, .int .i64 (sp l n).who, .int .u64 (sp l n).v, .int .u64 (sp l n).ans, .int .i64 (sp l n).fr, .int .i64 (sp l n).en] 41)) ∧ (wr.alloc (.cells #[.int .u8 (sp l n).k, .int .i64 (sp l n).who, .int .u64 (sp l n).v, .int .u64 (sp l n).ans, .int .i64 (sp l n).fr, .int .i64 (sp l n).en] 41)).heap[wr.heap.size]? = some (.cells #[.int .u8 (sp l n).k, .int .i64 (sp l n).who, .int .u64 (sp l n).v, .int .u64 (sp l n).ans, .int .i64 (sp l n).fr, .int .i64 (sp l n).en] 41 (0, 0)) from ⟨RAt_below O2.out ((Below.refl _ _).alloc (Nat.le_refl _) _), B2.out.alloc B2.out.size _, heap_alloc_new wr _⟩)
          have hc : ab = true ∨ (ab = false ∧ (ae != 0) = true) ∨ (ab = false ∧ (ae != 0) = false ∧ ((sp l n).en != -1) = false) ∨ (ab = false ∧ (ae != 0) = false ∧ ((sp l n).en != -1) = true ∧ (((sp l n).ans != av) = false ∨ ((sp l n).ans != av) = true)) := by
            cases ab <;> cases (ae != 0) <;> cases ((sp l n).en != -1) <;> cases ((sp l n).ans != av) <;> simp
          have HFIN : Hid (∀ r, whyF st' (sp l n) = r → runE l (stNew k size) o 0 = bif r.1 != 0 then ((j : Int), r.1) else runE l r.2 (o.drop (j + 1)) (j + 1)) := Lib.hid (fun r hr => by rw [HRF.out, HRN.out, HNA.out, hr]; rfl)
          clear HRF HRN HNA
          rcases hc with rfl | ⟨rfl, h1⟩ | ⟨rfl, h1, h2⟩ | ⟨rfl, h1, h2, h3 | h3⟩
          · go_wp2_with (go_at_call 37; refine (rDo_as hv HM.out OX.out.1).mono ?_; rintro e w5 ⟨rfl, ho, ht⟩; have O5 := Lib.hid ho; have B5 := Lib.hid (Touch.below ht OX.out.2.1); have hx1 := ht.cells OX.out.2.2 (by unfold tR; decide); have lx := hp_lt hx1; have x3 : w5.cell? ⟨wr.heap.size, 3, none⟩ = some (.int .u64 (sp l n).ans) := hp_cell hx1 3; have x5 : w5.cell? ⟨wr.heap.size, 5, none⟩ = some (.int .i64 (sp l n).en) := hp_cell hx1 5; clear ho ht hx1)
            go_ret2
            exact ⟨by rw [HFIN.out _ HW.out]; rfl, B5.out.alloc B5.out.size _⟩
          · go_wp2_with (go_at_call 37; refine (rDo_as hv HM.out OX.out.1).mono ?_; rintro e w5 ⟨rfl, ho, ht⟩; have O5 := Lib.hid ho; have B5 := Lib.hid (Touch.below ht OX.out.2.1); have hx1 := ht.cells OX.out.2.2 (by unfold tR; decide); have lx := hp_lt hx1; have x3 : w5.cell? ⟨wr.heap.size, 3, none⟩ = some (.int .u64 (sp l n).ans) := hp_cell hx1 3; have x5 : w5.cell? ⟨wr.heap.size, 5, none⟩ = some (.int .i64 (sp l n).en) := hp_cell hx1 5; clear ho ht hx1)
            go_ret2
            exact ⟨by rw [HFIN.out _ (HW.out.trans (by rw [h1]))]; rfl, B5.out.alloc B5.out.size _⟩
          · go_wp2_with (go_at_call 37; refine (rDo_as hv HM.out OX.out.1).mono ?_; rintro e w5 ⟨rfl, ho, ht⟩; have O5 := Lib.hid ho; have B5 := Lib.hid (Touch.below ht OX.out.2.1); have hx1 := ht.cells OX.out.2.2 (by unfold tR; decide); have lx := hp_lt hx1; have x3 : w5.cell? ⟨wr.heap.size, 3, none⟩ = some (.int .u64 (sp l n).ans) := hp_cell hx1 3; have x5 : w5.cell? ⟨wr.heap.size, 5, none⟩ = some (.int .i64 (sp l n).en) := hp_cell hx1 5; clear ho ht hx1)
            go_roundw
            case rel => exact ⟨j + 1, st'', by omega, by go_num, Lib.hid (RAt_below O5.out ((Below.refl _ _).alloc (Nat.le_refl _) _)), Lib.hid (by rw [HFIN.out _ (HW.out.trans (by rw [h1, h2]))]; rfl), Lib.hid (B5.out.alloc B5.out.size _)⟩
            case measure => simp [intOf]; omega
          · have h3' : (av != (sp l n).ans) = false := by rw [bne_comm]; exact h3
            go_wp2_with (go_at_call 37; refine (rDo_as hv HM.out OX.out.1).mono ?_; rintro e w5 ⟨rfl, ho, ht⟩; have O5 := Lib.hid ho; have B5 := Lib.hid (Touch.below ht OX.out.2.1); have hx1 := ht.cells OX.out.2.2 (by unfold tR; decide); have lx := hp_lt hx1; have x3 : w5.cell? ⟨wr.heap.size, 3, none⟩ = some (.int .u64 (sp l n).ans) := hp_cell hx1 3; have x5 : w5.cell? ⟨wr.heap.size, 5, none⟩ = some (.int .i64 (sp l n).en) := hp_cell hx1 5; clear ho ht hx1)
            go_roundw
            case rel => exact ⟨j + 1, st'', by omega, by go_num, Lib.hid (RAt_below O5.out ((Below.refl _ _).alloc (Nat.le_refl _) _)), Lib.hid (by rw [HFIN.out _ (HW.out.trans (by rw [h1, h2, h3]))]; rfl), Lib.hid (B5.out.alloc B5.out.size _)⟩
            case measure => simp [intOf]; omega
          · have h3' : (av != (sp l n).ans) = true := by rw [bne_comm]; exact h3
            go_wp2_with (go_at_call 37; refine (rDo_as hv HM.out OX.out.1).mono ?_; rintro e w5 ⟨rfl, ho, ht⟩; have O5 := Lib.hid ho; have B5 := Lib.hid (Touch.below ht OX.out.2.1); have hx1 := ht.cells OX.out.2.2 (by unfold tR; decide); have lx := hp_lt hx1; have x3 : w5.cell? ⟨wr.heap.size, 3, none⟩ = some (.int .u64 (sp l n).ans) := hp_cell hx1 3; have x5 : w5.cell? ⟨wr.heap.size, 5, none⟩ = some (.int .i64 (sp l n).en) := hp_cell hx1 5; clear ho ht hx1)
            go_ret2
            exact ⟨by rw [HFIN.out _ (HW.out.trans (by rw [h1, h2, h3]))]; rfl, B5.out.alloc B5.out.size _⟩
    · have t1 : decide (j < o.length) = false := decide_eq_false hlt
      have t1' : decide ((j : Int) < (o.length : Int)) = false := decide_eq_false (by omega)
      have HE : Hid (runE l (stNew k size) o 0 = (0, 0)) := Lib.hid (by rw [HRF.out, List.drop_eq_nil_of_le (by omega)]; rfl)
      go_wp2_with fail
      go_ret2
      exact ⟨by rw [HE.out]; rfl, HB.out⟩
end Go.Proofs.Ytbanfaboimachaa
