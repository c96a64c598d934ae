
/-
  calls.Program.
-/
import Derived.Test.YtmmfadakhnagpaaCl4
import Derived.Deep.LoopGhost
import Derived.Deep.CutBlock
import Derived.LoopTactic
import Derived.Handy
namespace Go.Proofs.Ytmmfadakhnagpaa
open Go.RowKit Go.ChangeShapes Go.WideShapes
set_option linter.unusedSimpArgs false
set_option linter.unusedVariables false

set_option maxHeartbeats 8000000 in
theorem prog1_any (p : Nat) (K who : Int) (c : Cl) (hc : c.ok) (b12 b8 : Nat) (w : World) (h12 : w.heap[b12]? = some (.cells #[.pointer (some ⟨p, 0, none⟩)] 48 (0, 0))) (h8 : w.heap[b8]? = some (.cells #[.int .i64 who] 3 (0, 0))) (HT : TkP 43 w p K) :
    Calls Try.prog 20 #[.agg #[.int .u8 c.k, .int .i64 c.who, .int .u64 c.v], .pointer (some ⟨b12, 0, none⟩), .pointer (some ⟨b8, 0, none⟩)] w fun e w' => e = .returned (.bool (!fitF K who c)) ∧ Below w.heap.size w w' := by
  obtain ⟨k, cw, v⟩ := c
  have hb := (Below.refl w.heap.size w).alloc (Nat.le_refl _) (.cells #[.int .u8 k, .int .i64 cw, .int .u64 v] 55)
  have x12 : w.cell? ⟨b12, 0, none⟩ = some (.pointer (some ⟨p, 0, none⟩)) := hp_cell h12 0
  have l12 := hp_lt h12
  have x8 : w.cell? ⟨b8, 0, none⟩ = some (.int .i64 who) := hp_cell h8 0
  have l8 := hp_lt h8
  have HF := Lib.hid (cfits p K who ⟨k, cw, v⟩ hc (w.alloc (.cells #[.int .u8 k, .int .i64 cw, .int .u64 v] 55)) (HT.below hb))
  have HB := Lib.hid hb
  obtain ⟨f, hf⟩ : ∃ f, fitF K who ⟨k, cw, v⟩ = f := ⟨_, rfl⟩
  rw [hf] at HF ⊢
  dsimp only at HF ⊢
  clear h12 h8 HT hb hc hf
  go_enter Try.func20, Try.ntmps20
  go_wp2_with (go_at_call 21; refine HF.out.mono ?_; rintro e w1 ⟨rfl, hb⟩; have HB1 := Lib.hid (HB.out.trans (hb.mono HB.out.size)); clear hb)
  go_ret
  exact ⟨rfl, HB1.out⟩
theorem en_prog1 (args : Array Value) (w : World) : (callFunc 20 args).run Try.prog w = .ok (.enter 20 args) w := by kernel_rfl
theorem fold_take {tv sz : Int} {cs : List Cl} {j : Nat} {x : Cl} (h : cs[j]? = some x) (s0 : List Ins3 × Int) : (cs.take (j + 1)).foldl (callF tv sz) s0 = callF tv sz ((cs.take j).foldl (callF tv sz) s0) x := by
  rw [List.take_add_one, h, List.foldl_append]
  rfl
theorem StOk.call {tv sz : Int} {st : List Ins3 × Int} (h : StOk st) (c : Cl) : StOk (callF tv sz st c) := by
  have h1 : StOk (call1 tv sz st c) := by
    unfold call1
    cases (c.k == 8)
    · exact h.ad _ (blkC_len _ _ _ _)
    · exact (h.ad (0, [pushI' c.v, setI]) (show (2 : Nat) ≤ 26 by decide)).ad _ (blkC_len _ _ _ _)
  unfold callF call2
  cases tellB c.k
  · exact (h1.ad (0, [oneI]) (show (1 : Nat) ≤ 26 by decide)).ad (0, [outI]) (show (1 : Nat) ≤ 26 by decide)
  · exact h1.ad (0, [outI]) (show (1 : Nat) ≤ 26 by decide)
theorem StOk.fold {tv sz : Int} : ∀ (cs : List Cl) (st : List Ins3 × Int), StOk st → StOk (cs.foldl (callF tv sz) st)
  | [], _, h => h
  | c :: cs, st, h => StOk.fold cs _ (h.call c)
theorem tvI_bd {K sz : Int} (h : goodK K sz = true) : 1 ≤ tvI K sz ∧ tvI K sz ≤ 6 := by
  rcases good_cases h with ⟨rfl, rfl⟩ | ⟨rfl, h1, h2⟩ | ⟨rfl, h1, h2⟩ | ⟨rfl, h1, h2⟩ <;> unfold tvI <;> rw [h] <;> simp <;> omega
set_option maxRecDepth 100000 in
set_option maxHeartbeats 16000000 in
theorem program_any (K sz tv who : Int) (cs : List Cl) (A : Option Addr) (c : Nat) (hl : cs.length ≤ 100) (W : World) (HS : ClsAt W A cs) :
    Calls Try.prog 6 #[.int .u8 K, .int .i64 sz, .int .i64 tv, .int .i64 who, .slice A cs.length c] W (FPost W (progF K sz tv who cs)) := by
  cases hg : goodK K sz
  · have HN := Lib.hid (oNew0 K sz (by rw [← goodK_eq]; exact hg))
    have E := Lib.hid (show progF K sz tv who cs = (3, []) by unfold progF; rw [hg]; rfl)
    have hb := (Below.refl W.heap.size W).alloc (Nat.le_refl _) (.cells #[.int .i64 who] 3)
    have HB := Lib.hid hb
    clear hg hb HS
    go_enter Try.func6, Try.ntmps6
    go_wp2_with (go_at_call 18; refine (HN.out _).mono ?_; rintro e w1 ⟨rfl, hb⟩; have HB1 := Lib.hid (HB.out.trans (hb.mono HB.out.size)); clear hb)
    go_ret2
    rw [E.out]
    exact ⟨none, 0, rfl, nrow_nil _ _, HB1.out.alloc HB1.out.size _⟩
  · have HN := Lib.hid (newO K sz hg)
    have HT := Lib.hid (ctv K sz)
    have hb := (Below.refl W.heap.size W).alloc (Nat.le_refl _) (.cells #[.int .i64 who] 3)
    have HB := Lib.hid hb
    have H8 := Lib.hid (heap_alloc_new W (.cells #[.int .i64 who] 3))
    have HCS := Lib.hid HS
    have HL := Lib.hid hl
    have htv := tvI_bd hg
    obtain ⟨q, hq⟩ : ∃ q, tvI K sz = q := ⟨_, rfl⟩
    rw [hq] at htv HT
    obtain ⟨q12, hq12⟩ : ∃ x, 12 - q = x := ⟨_, rfl⟩
    have eq12 : wrap64 (12 - q) = q12 := by rw [hq12]; unfold wrap64; omega
    obtain ⟨P, hP⟩ : ∃ P, progF K sz tv who cs = P := ⟨_, rfl⟩
    have HP := Lib.hid hP
    have HPE := Lib.hid (show progF K sz tv who cs = bif cs.any (fun c => !fitF K who c) then (3, []) else bif decide (tv < 0) || (decide (q12 < tv) || (decide (who < 0) || decide (4 ≤ who))) then (2, []) else finF (adF (cs.foldl (callF tv sz) ([], 0)) (0, [haltI])) by unfold progF; rw [hg, hq, hq12]; rfl)
    rw [hP] at HPE ⊢
    clear hg hb HS htv hq hq12 hP hl HP
    go_enter Try.func6, Try.ntmps6
    go_upto_region 2 with (go_at_call 18; refine (HN.out _).mono ?_; rintro e w1 ⟨p, rfl, ht, hb⟩; have HT1 := Lib.hid ht; have HB1 := Lib.hid (HB.out.trans (hb.mono HB.out.size)); have H81 := Lib.hid (hp_below H8.out hb); clear ht hb)
    have hb := (Below.refl w1.heap.size w1).alloc (Nat.le_refl _) (.cells #[.pointer (some ⟨p, 0, none⟩)] 48)
    have HT2 := Lib.hid (HT1.out.below hb)
    have HB2 := Lib.hid (HB1.out.trans (hb.mono HB1.out.size))
    have H82 := Lib.hid (hp_below H81.out hb)
    have H12 := Lib.hid (heap_alloc_new w1 (.cells #[.pointer (some ⟨p, 0, none⟩)] 48))
    clear hb HT1 HB1 H81 H8 HB
    generalize World.alloc _ _ = w2 at HT2 HB2 H82 H12 ⊢
    obtain ⟨b12, hb12⟩ : ∃ b, w1.heap.size = b := ⟨_, rfl⟩
    obtain ⟨b8, hb8⟩ : ∃ b, W.heap.size = b := ⟨_, rfl⟩
    rw [hb12] at H12
    rw [hb8] at H82
    try rw [hb12]
    try rw [hb8]
    have B8 := Lib.hid hb8
    clear hb12
    have x12 : w2.cell? ⟨b12, 0, none⟩ = some (.pointer (some ⟨p, 0, none⟩)) := hp_cell H12.out 0
    have l12 := hp_lt H12.out
    have HCF := Lib.hid (containsF 20 #[.pointer (some ⟨b12, 0, none⟩), .pointer (some ⟨b8, 0, none⟩)] (fun x => !fitF K who x) cs A c HL.out w2 (HCS.out.below HB2.out) en_prog1 (fun j x hx w1 hb => by
      obtain ⟨ad, _, hc⟩ := HCS.out.2 j x hx
      exact prog1_any p K who x (callAt_ok hc) b12 b8 w1 (hp_below H12.out hb) (hp_below H82.out hb) (HT2.out.below hb)))
    obtain ⟨an, han⟩ : ∃ b, cs.any (fun x => !fitF K who x) = b := ⟨_, rfl⟩
    rw [han] at HCF HPE
    have HAN := Lib.hid han
    clear han hb8
    cases an
    case true =>
      go_wp2_with (go_at_call 19; refine HCF.out.mono ?_; rintro e w3 ⟨rfl, hb⟩; have HB3 := Lib.hid (HB2.out.trans (hb.mono HB2.out.size)); clear hb)
      go_ret2
      rw [HPE.out]
      exact ⟨none, 0, rfl, nrow_nil _ _, HB3.out⟩
    case false =>
      go_upto_region 4 with (go_at_call 19; refine HCF.out.mono ?_; rintro e w3 ⟨rfl, hb⟩; have HB3 := Lib.hid (HB2.out.trans (hb.mono HB2.out.size)); have H83 := Lib.hid (hp_below H82.out hb); clear hb)
      clear x12 l12 HCF H12 H82 HB2 HT2
      have HT3 := Lib.hid (HT.out w3)
      by_cases t1 : tv < 0
      · have a1 : decide (tv < 0) = true := decide_eq_true t1
        have E := Lib.hid (show P = (2, []) by rw [HPE.out, a1]; rfl)
        clear t1 HPE
        go_wp2_with fail
        go_ret2
        rw [E.out]
        exact ⟨none, 0, rfl, nrow_nil _ _, HB3.out⟩
      have a1 : decide (tv < 0) = false := decide_eq_false t1
      by_cases t2 : q12 < tv
      · have a2 : decide (q12 < tv) = true := decide_eq_true t2
        have a2' : decide (tv > q12) = true := a2
        have E := Lib.hid (show P = (2, []) by rw [HPE.out, a1, a2]; rfl)
        clear t1 t2 HPE
        go_wp2_with (go_at_call 12; refine HT3.out.mono ?_; rintro e w4 ⟨rfl, hb⟩; have HB4 := Lib.hid (HB3.out.trans (hb.mono HB3.out.size)); have x8 : w4.cell? ⟨b8, 0, none⟩ = some (.int .i64 who) := hp_cell (hp_below H83.out hb) 0; have l8 := hp_lt (hp_below H83.out hb); clear hb)
        go_ret2
        rw [E.out]
        exact ⟨none, 0, rfl, nrow_nil _ _, HB4.out⟩
      have a2 : decide (q12 < tv) = false := decide_eq_false t2
      have a2' : decide (tv > q12) = false := a2
      by_cases t3 : who < 0
      · have a3 : decide (who < 0) = true := decide_eq_true t3
        have E := Lib.hid (show P = (2, []) by rw [HPE.out, a1, a2, a3]; rfl)
        clear t1 t2 t3 HPE
        go_wp2_with (go_at_call 12; refine HT3.out.mono ?_; rintro e w4 ⟨rfl, hb⟩; have HB4 := Lib.hid (HB3.out.trans (hb.mono HB3.out.size)); have x8 : w4.cell? ⟨b8, 0, none⟩ = some (.int .i64 who) := hp_cell (hp_below H83.out hb) 0; have l8 := hp_lt (hp_below H83.out hb); clear hb)
        go_ret2
        rw [E.out]
        exact ⟨none, 0, rfl, nrow_nil _ _, HB4.out⟩
      have a3 : decide (who < 0) = false := decide_eq_false t3
      by_cases t4 : 4 ≤ who
      · have a4 : decide (4 ≤ who) = true := decide_eq_true t4
        have a4' : decide (who ≥ 4) = true := a4
        have E := Lib.hid (show P = (2, []) by rw [HPE.out, a1, a2, a3, a4]; rfl)
        clear t1 t2 t3 t4 HPE
        go_wp2_with (go_at_call 12; refine HT3.out.mono ?_; rintro e w4 ⟨rfl, hb⟩; have HB4 := Lib.hid (HB3.out.trans (hb.mono HB3.out.size)); have x8 : w4.cell? ⟨b8, 0, none⟩ = some (.int .i64 who) := hp_cell (hp_below H83.out hb) 0; have l8 := hp_lt (hp_below H83.out hb); clear hb)
        go_ret2
        rw [E.out]
        exact ⟨none, 0, rfl, nrow_nil _ _, HB4.out⟩
      have a4 : decide (4 ≤ who) = false := decide_eq_false t4
      have a4' : decide (who ≥ 4) = false := a4
      have E := Lib.hid (show P = finF (adF (cs.foldl (callF tv sz) ([], 0)) (0, [haltI])) by rw [HPE.out, a1, a2, a3, a4]; rfl)
      clear t1 t2 t3 t4 HPE
      go_upto_region 7 with (go_at_call 12; refine HT3.out.mono ?_; rintro e w4 ⟨rfl, hb⟩; have HB4 := Lib.hid (HB3.out.trans (hb.mono HB3.out.size)); have x8 : w4.cell? ⟨b8, 0, none⟩ = some (.int .i64 who) := hp_cell (hp_below H83.out hb) 0; have l8 := hp_lt (hp_below H83.out hb); clear hb)
      have G0 := Lib.hid (heap_alloc_new w4 (.cells #[.slice none 0 0, .int .i64 0] 59))
      have hb := (Below.refl w4.heap.size w4).alloc (Nat.le_refl _) (.cells #[.slice none 0 0, .int .i64 0] 59)
      have BD0 := Lib.hid (show Bd W (w4.alloc (.cells #[.slice none 0 0, .int .i64 0] 59)) w4.heap.size ([], 0) from ⟨none, 0, G0.out, ⟨nrow_nil _ _, HB4.out.trans (hb.mono HB4.out.size)⟩, HB4.out.size⟩)
      clear hb G0 a1 a2 a2' a3 a4 a4' x8 l8
      generalize World.alloc _ _ = w5 at BD0 ⊢
      obtain ⟨gb, hgb⟩ : ∃ b, w4.heap.size = b := ⟨_, rfl⟩
      rw [hgb] at BD0
      try rw [hgb]
      clear hgb HB4 HB3 H83 HT3 B8
      go_upto_region 8 with fail
      try simp only [eq12]
      clear eq12
      go_loopg [46] cs.length (fun gm s46 wx => ∃ j : Nat, j ≤ cs.length ∧ gm = cs.length - j ∧ s46 = .int .i64 j ∧ Hid (Bd W wx gb ((cs.take j).foldl (callF tv sz) ([], 0))))
      case atStart => exact ⟨0, Nat.zero_le _, rfl, rfl, BD0⟩
      case round =>
        clear BD0
        obtain ⟨j, hj, rfl, rfl, HBD⟩ := hrel
        by_cases hlt : j < cs.length
        · obtain ⟨x, hx⟩ : ∃ x, cs[j]? = some x := ⟨_, List.getElem?_eq_getElem hlt⟩
          have t1 : decide (j < cs.length) = true := decide_eq_true hlt
          have t1' : decide ((j : Int) < (cs.length : Int)) = true := decide_eq_true (by omega)
          have t3 : (j : Int) < (cs.length : Int) := by omega
          have t4 : (0 : Int) ≤ (j : Int) := by omega
          have s5 : wrap64 ((j : Int) + 1) = (j : Int) + 1 := by have := HL.out; unfold wrap64; omega
          have hfit : fitF K who x = true := by
            have := HAN.out
            rw [List.any_eq_false] at this
            simpa using this x (List.mem_of_getElem? hx)
          have HFT := Lib.hid (fit_k hfit)
          obtain ⟨ad, rfl, hca⟩ := (HCS.out.below HBD.out.bl).2 j x hx
          have HV := Lib.hid hca.2.2.1
          obtain ⟨_, _, _, y0, y1, y2⟩ := hca
          have HX := Lib.hid hx
          have HLT := Lib.hid hlt
          have HST := Lib.hid (StOk.fold (tv := tv) (sz := sz) (cs.take j) ([], 0) ⟨by decide, fun _ => by decide⟩)
          obtain ⟨st, hst⟩ : ∃ s, (cs.take j).foldl (callF tv sz) ([], 0) = s := ⟨_, rfl⟩
          have HFD := Lib.hid (show (cs.take (j + 1)).foldl (callF tv sz) ([], 0) = callF tv sz st x by rw [fold_take hx, hst])
          rw [hst] at HBD HST
          have la := World.block_lt_of_cell? wr _ y0
          clear hx hlt hj hst hfit
          go_upto_region 10 with fail
          have hb := (Below.refl wr.heap.size wr).alloc (Nat.le_refl _) (.cells #[.int .u8 x.k, .int .i64 x.who, .int .u64 x.v] 55)
          have HBD2 := Lib.hid (HBD.out.below hb)
          have HX2 := Lib.hid (heap_alloc_new wr (.cells #[.int .u8 x.k, .int .i64 x.who, .int .u64 x.v] 55))
          clear hb y0 y1 y2 la HBD
          generalize World.alloc _ _ = w6 at HBD2 HX2 ⊢
          obtain ⟨b15, hb15⟩ : ∃ b, wr.heap.size = b := ⟨_, rfl⟩
          rw [hb15] at HX2
          try rw [hb15]
          clear hb15
          have y0 : w6.cell? ⟨b15, 0, none⟩ = some (.int .u8 x.k) := hp_cell HX2.out 0
          have y1 : w6.cell? ⟨b15, 1, none⟩ = some (.int .i64 x.who) := hp_cell HX2.out 1
          have y2 : w6.cell? ⟨b15, 2, none⟩ = some (.int .u64 x.v) := hp_cell HX2.out 2
          have yl := hp_lt HX2.out
          go_wp2_with (go_at_call 22; refine (bCall W w6 gb st HBD2.out HST.out tv sz x HFT.out HV.out).mono ?_; rintro e w7 ⟨rfl, hB, hK⟩; have HBD7 := Lib.hid hB; clear hB hK)
          go_roundg (cs.length - (j + 1))
          case measure => have := HLT.out; omega
          case rel => exact ⟨j + 1, HLT.out, rfl, by first | rfl | (rw [s5]; rfl), Lib.hid (by rw [HFD.out]; exact HBD7.out)⟩
        · obtain rfl : j = cs.length := by omega
          have t1 : decide (cs.length < cs.length) = false := decide_eq_false (by omega)
          have t1' : decide ((cs.length : Int) < (cs.length : Int)) = false := decide_eq_false (by omega)
          rw [List.take_length] at HBD
          have HST := Lib.hid (StOk.fold (tv := tv) (sz := sz) cs ([], 0) ⟨by decide, fun _ => by decide⟩)
          obtain ⟨st, hst⟩ : ∃ s, cs.foldl (callF tv sz) ([], 0) = s := ⟨_, rfl⟩
          rw [hst] at HBD HST E
          obtain ⟨s3, hs3⟩ : ∃ s, adF st (0, [haltI]) = s := ⟨_, rfl⟩
          have E3 := Lib.hid hs3
          rw [hs3] at E
          clear hst hs3
          go_upto_region 13 with (go_at_call 23; have hbl := (Below.refl wr.heap.size wr).alloc (Nat.le_refl _) (.cells (insC [haltI]).toArray 64); refine (bIns W (wr.alloc (.cells (insC [haltI]).toArray 64)) gb st (HBD.out.below hbl) HST.out [haltI] (by simp) wr.heap.size 1 (inss_made (heap_alloc_new wr _) (by decide) (by simp))).mono ?_; rintro e w8 ⟨rfl, hB, hK⟩; rw [E3.out] at hB; have HBD8 := Lib.hid hB; clear hB hK hbl)
          obtain ⟨A8, c8, h8, hr8, hw8⟩ := HBD8.out
          obtain ⟨l3, f3⟩ := s3
          dsimp only at h8 hr8
          have y0 : w8.cell? ⟨gb, 0, none⟩ = some (.slice A8 l3.length c8) := hp_cell h8 0
          have y1 : w8.cell? ⟨gb, 1, none⟩ = some (.int .i64 f3) := hp_cell h8 1
          have yl := hp_lt h8
          have HR8 := Lib.hid hr8
          clear h8 hr8 hw8
          by_cases h0 : f3 = 0
          · subst h0
            have EE := Lib.hid (show P = (0, l3) by rw [E.out]; rfl)
            clear E E3 HBD8
            go_wp2_with fail
            go_ret2
            rw [EE.out]
            exact ⟨A8, c8, rfl, HR8.out.row, HR8.out.bl⟩
          · have z1 : (f3 == 0) = false := by simpa using h0
            have EE := Lib.hid (show P = (f3, []) by rw [E.out]; unfold finF; rw [if_neg h0])
            clear E E3 HBD8 h0
            go_wp2_with fail
            go_quiet (fail)
            go_wp2_with fail
            go_ret2
            rw [EE.out]
            exact ⟨none, 0, rfl, nrow_nil _ _, bl_drewN HR8.out.bl _⟩
end Go.Proofs.Ytmmfadakhnagpaa
