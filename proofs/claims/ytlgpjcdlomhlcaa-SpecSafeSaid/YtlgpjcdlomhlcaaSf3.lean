
/-
  SpecSafe: the walk.
-/
import Derived.Test.YtlgpjcdlomhlcaaSf2
import Derived.Test.YtlgpjcdlomhlcaaSp36
import Derived.Test.YtlgpjcdlomhlcaaSp22
import Derived.Test.YtlgpjcdlomhlcaaSp17
namespace Go.Proofs.Ytlgpjcdlomhlcaa
open Go.RowKit Go.ChangeShapes Go.WideShapes
set_option linter.unusedSimpArgs false
set_option linter.unusedVariables false

theorem vcells_take {w : World} {A : Option Addr} {l : List Int} (h : VCells w A l) (n : Nat) : VCells w A (l.take n) :=
  ⟨fun v hv => h.1 v (List.mem_of_mem_take hv), fun e => by rw [h.2.1 e]; simp, fun b e j u hj => h.2.2 b e j u (by
    rw [valsC_get] at hj ⊢
    rw [List.getElem?_take] at hj
    split at hj
    · exact hj
    · simp at hj)⟩
set_option maxRecDepth 100000 in
set_option maxHeartbeats 16000000 in
theorem specSafe_walk (W : World) (a0 : Option Addr) (n0 c0 : Nat) (h0 : InsIn W a0 n0 c0) (a1 : Option Addr) (n1 c1 : Nat) (h1 : VIn W a1 n1 c1) : Calls Try.prog 6 #[.slice a0 n0 c0, .slice a1 n1 c1] W fun e w' => e = .returned (.bool true) ∧ Below W.heap.size W w' := by
  obtain ⟨l0, rfl, hil, hc0, _⟩ := h0
  obtain ⟨hp1, hn1, hv1, hc1, ha1⟩ := h1
  have hfl : (fewL l0).length ≤ 64 := by unfold fewL; rw [List.length_take]; omega
  have hflc : (fewL l0).length ≤ c0 := by unfold fewL; rw [List.length_take]; omega
  have hI : InssAt W a0 (fewL l0) := inss_take hil 64
  have HFW := Lib.hid (show ∀ w : World, Calls Try.prog 11 #[.slice a0 l0.length c0] w fun e w' => e = .returned (.slice a0 (fewL l0).length c0) ∧ w = w' from fun w => few17 a0 c0 l0 hc0 w)
  obtain ⟨l, hl⟩ : ∃ l, fewL l0 = l := ⟨_, rfl⟩
  rw [hl] at HFW hfl hflc hI
  obtain ⟨n0, hn0⟩ : ∃ n, l0.length = n := ⟨_, rfl⟩
  rw [hn0] at HFW
  rw [hn0]
  clear hl hn0 hil hc0
  obtain ⟨hp, hhp⟩ : ∃ x, hp1.take 12 = x := ⟨_, rfl⟩
  have hvh : VCells W a1 hp := by rw [← hhp]; exact vcells_take hv1 12
  have hlen : hp.length = if n1 > 12 then 12 else n1 := by rw [← hhp, List.length_take, hn1]; split <;> omega
  have hl12 : hp.length ≤ 12 := by rw [hlen]; split <;> omega
  have hlc : hp.length ≤ c1 := by rw [hlen]; split <;> omega
  obtain ⟨n, hn⟩ : ∃ n, hp.length = n := ⟨_, rfl⟩
  have HI := Lib.hid hI
  have HSR := Lib.hid (show Src W a1 c1 hp from ⟨hvh, hlc, ha1, by omega⟩)
  have HCK := Lib.hid (show ∀ w : World, Below W.heap.size W w → Calls Try.prog 19 #[.slice a0 l.length c0, .int .i64 (n : Int)] w fun e w' => e = .returned (.tuple #[.int .i64 (ck15 l n).1, .int .i64 (ck15 l n).2]) ∧ Below w.heap.size w w' from fun w hb => check15 l (by omega) n a0 c0 w (inss_below hI hb))
  have HRU := Lib.hid (show ∀ w : World, Below W.heap.size W w → Calls Try.prog 17 #[.slice a0 l.length c0, .slice a1 hp.length c1, .int .i64 300] w (OcPost (runF l (fuelF 300).toNat 20 St.zero hp []) w) from fun w hb => run_all l c0 a0 (by omega) (by omega) hp 300 (by omega) a1 c1 w (HSR.out.below hb) (inss_below hI hb))
  have HPG := Lib.hid (pgood_of (tv := (n : Int)) hI)
  obtain ⟨⟨p, er⟩, hck⟩ : ∃ c, ck15 l n = c := ⟨_, rfl⟩
  rw [hck] at HCK HPG
  have HSF0 := Lib.hid (show er = 0 → (runF l (fuelF 300).toNat 20 St.zero hp []).kind ≠ 3 ∨ ErrOk (runF l (fuelF 300).toNat 20 St.zero hp []).err from fun he => by
    obtain ⟨g1, g2, g3, g4⟩ := HPG.out he
    exact run_safe hI g1 _ _ _ _ _ ⟨⟨by decide, by show (0 : Int) < _; omega, by rw [show (St.zero.pc.toNat) = 0 from rfl, g4]; rfl⟩, rfl⟩)
  obtain ⟨⟨ok, os, oh, oa, oe⟩, ho⟩ : ∃ o, runF l (fuelF 300).toNat 20 St.zero hp [] = o := ⟨_, rfl⟩
  rw [ho] at HRU HSF0
  unfold OcPost ocC at HRU
  dsimp only at HRU HSF0
  obtain ⟨nl, hnl⟩ : ∃ n, l.length = n := ⟨_, rfl⟩
  rw [hnl] at HCK HFW HRU hfl hflc
  rw [hn] at HRU hlen
  have HLN := Lib.hid hlen
  have HC1 := Lib.hid hc1
  dsimp only at HCK
  clear hck ho hI hvh hlen hl12 hlc hn hv1 hn1 hc1 ha1 hhp hnl hfl hflc HPG
  go_enter Try.func6, Try.ntmps6
  go_upto_if 10 with fail
  go_cut [1] (fun s1 wx => W = wx ∧ s1 = .slice a1 n c1)
  case first =>
    by_cases hg : n1 > 12
    · have q1 : 12 ≤ n1 := by omega
      have q2 : 12 ≤ c1 := by have := HC1.out; omega
      have q3 : (12 : Int) < (n1 : Int) := by omega
      have q4 : 12 < n1 := hg
      have HE := Lib.hid (show n = 12 by rw [HLN.out, if_pos hg])
      go_wp2_with fail
      go_meet
      exact ⟨rfl, by rw [HE.out]⟩
    · have q3 : ¬ (12 : Int) < (n1 : Int) := by omega
      have q4 : ¬ 12 < n1 := hg
      have HE := Lib.hid (show n = n1 by rw [HLN.out, if_neg hg])
      go_wp2_with fail
      go_meet
      exact ⟨rfl, by rw [HE.out]⟩
  obtain ⟨rfl, rfl⟩ := hcut
  by_cases he : er = 0
  case neg =>
    have y1 : (er != 0) = true := by simpa using he
    have y2 : (er == 0) = false := by simpa using he
    clear he
    go_wp2_with (first | (go_at_call 11; refine (HFW.out _).mono ?_; rintro e w' ⟨rfl, rfl⟩) | (go_at_call 19; refine (HCK.out _ (Below.refl _ _)).mono ?_; rintro e w1 ⟨rfl, hb1⟩; have B1 := Lib.hid hb1; clear hb1) | (go_at_call 14; refine (live_any _).mono ?_; rintro e w8 ⟨rfl, hb8⟩; have B8 := Lib.hid (B1.out.trans (hb8.mono B1.out.size)); clear hb8))
    go_ret
    exact ⟨rfl, B8.out⟩
  subst he
  have HSF := Lib.hid (HSF0.out rfl)
  go_upto_region 7 with (first | (go_at_call 11; refine (HFW.out _).mono ?_; rintro e w' ⟨rfl, rfl⟩) | (go_at_call 19; refine (HCK.out _ (Below.refl _ _)).mono ?_; rintro e w1 ⟨rfl, hb1⟩; have B1 := Lib.hid hb1; clear hb1) | (go_at_call 17; refine (HRU.out _ B1.out).mono ?_; rintro e w6 ⟨hb6, A1, c1', A2, c2', A3, c3', Aa, ca', rfl, _⟩; have B6 := Lib.hid (B1.out.trans (hb6.mono B1.out.size)); clear hb6))
  have X7 := Lib.hid (heap_alloc_new w6 (.cells #[.int .u8 ok, .int .i64 os.pc, .slice A1 os.stk.length c1', .int .u64 os.la, .int .u64 os.lb, .int .u64 os.lc, .int .u64 os.ld, .slice A2 os.out.length c2', .slice A3 oh.length c3', .slice Aa oa.length ca', .int .i64 oe] 46))
  have B7 := Lib.hid (B6.out.alloc B6.out.size (.cells #[.int .u8 ok, .int .i64 os.pc, .slice A1 os.stk.length c1', .int .u64 os.la, .int .u64 os.lb, .int .u64 os.lc, .int .u64 os.ld, .slice A2 os.out.length c2', .slice A3 oh.length c3', .slice Aa oa.length ca', .int .i64 oe] 46))
  generalize World.alloc _ _ = w7 at X7 B7 ⊢
  generalize w6.heap.size = xo at X7 ⊢
  have HQ := HSF.out
  rcases Decidable.em (ok = 3) with rfl | hk
  · rcases HQ with q | q
    · exact absurd rfl q
    · unfold ErrOk at q
      rcases q with rfl | rfl | rfl
      · clear HSF
        go_wp2_with (go_at_call 14; refine (live_any _).mono ?_; rintro e w8 ⟨rfl, hb8⟩; have B8 := Lib.hid (B7.out.trans (hb8.mono B7.out.size)); have X8 := Lib.hid (hp_below X7.out hb8); have x0 : w8.cell? ⟨xo, 0, none⟩ = some (.int .u8 3) := hp_cell X8.out 0; have x10 : w8.cell? ⟨xo, 10, none⟩ = some (.int .i64 2) := hp_cell X8.out 10; have xl := hp_lt X8.out; clear hb8)
        go_ret
        exact ⟨rfl, B8.out⟩
      · clear HSF
        go_wp2_with (go_at_call 14; refine (live_any _).mono ?_; rintro e w8 ⟨rfl, hb8⟩; have B8 := Lib.hid (B7.out.trans (hb8.mono B7.out.size)); have X8 := Lib.hid (hp_below X7.out hb8); have x0 : w8.cell? ⟨xo, 0, none⟩ = some (.int .u8 3) := hp_cell X8.out 0; have x10 : w8.cell? ⟨xo, 10, none⟩ = some (.int .i64 4) := hp_cell X8.out 10; have xl := hp_lt X8.out; clear hb8)
        go_ret
        exact ⟨rfl, B8.out⟩
      · clear HSF
        go_wp2_with (go_at_call 14; refine (live_any _).mono ?_; rintro e w8 ⟨rfl, hb8⟩; have B8 := Lib.hid (B7.out.trans (hb8.mono B7.out.size)); have X8 := Lib.hid (hp_below X7.out hb8); have x0 : w8.cell? ⟨xo, 0, none⟩ = some (.int .u8 3) := hp_cell X8.out 0; have x10 : w8.cell? ⟨xo, 10, none⟩ = some (.int .i64 11) := hp_cell X8.out 10; have xl := hp_lt X8.out; clear hb8)
        go_ret
        exact ⟨rfl, B8.out⟩
  · have k1 : (ok != 3) = true := by simpa using hk
    have k2 : (ok == 3) = false := by simpa using hk
    clear HQ hk
    go_wp2_with (go_at_call 14; refine (live_any _).mono ?_; rintro e w8 ⟨rfl, hb8⟩; have B8 := Lib.hid (B7.out.trans (hb8.mono B7.out.size)); have X8 := Lib.hid (hp_below X7.out hb8); have x0 : w8.cell? ⟨xo, 0, none⟩ = some (.int .u8 ok) := hp_cell X8.out 0; have x10 : w8.cell? ⟨xo, 10, none⟩ = some (.int .i64 oe) := hp_cell X8.out 10; have xl := hp_lt X8.out; clear hb8)
    go_ret
    exact ⟨rfl, B8.out⟩
end Go.Proofs.Ytlgpjcdlomhlcaa
