
/-
  rowlockref15.Depths: the walk.
-/
import Derived.Test.YtcjkpeojjonpiaaCk6
namespace Go.Proofs.Ytcjkpeojjonpiaa
open Go.RowKit Go.ChangeShapes Go.WideShapes
set_option linter.unusedSimpArgs false
set_option linter.unusedVariables false

structure DgX (W w : World) (Ad : Option Addr) (cd : Nat) (Ag : Option Addr) (cg : Nat) (d : List Int) (g : List Bool) : Prop where
  ri : IRowAt w W.heap.size Ad cd d
  rg : LRowAt w W.heap.size Ag cg g
  bl : Below W.heap.size W w
section
variable {W w w1 w2 : World} {Ad Ag A2 : Option Addr} {cd cg c2 : Nat} {d l2 : List Int} {g g2 : List Bool}
theorem DgX.ne (h : DgX W w Ad cd Ag cg d g) {k : Nat} (h1 : iblk Ad = some k) (h2 : lblk Ag = some k) : False := by
  obtain ⟨cs, e1⟩ := irow_typed h.ri k h1
  obtain ⟨cs', e2⟩ := lrow_typed h.rg k h2
  exact hp_ne e1 e2 (by decide) rfl
theorem DgX.below (h : DgX W w Ad cd Ag cg d g) (hb : Below w.heap.size w w1) : DgX W w1 Ad cd Ag cg d g :=
  ⟨irow_below h.ri hb, ⟨h.rg.1.kept (gb_below (r := none) hb) (by cases hh : (Value.slice Ag g.length cg).ownBlock <;> simp), h.rg.2⟩, h.bl.trans (hb.mono h.bl.size)⟩
theorem DgX.alloc (h : DgX W w Ad cd Ag cg d g) (o : Obj) : DgX W (w.alloc o) Ad cd Ag cg d g := h.below ((Below.refl _ _).alloc (Nat.le_refl _) o)
theorem DgX.pushD (h : DgX W w Ad cd Ag cg d g) (hr : IRowAt w2 W.heap.size A2 c2 l2) (hg : w.grownBy w2 (iblk Ad)) : DgX W w2 A2 c2 Ag cg l2 g :=
  ⟨hr, lrow_other h.rg hg (fun k hk e => h.ne e.symm hk), h.bl.grown hg h.bl.size (fun k hk => (irow_lt h.ri k hk).1)⟩
theorem DgX.pushG (h : DgX W w Ad cd Ag cg d g) (hr : LRowAt w2 W.heap.size A2 c2 g2) (hg : w.grownBy w2 (lblk Ag)) : DgX W w2 Ad cd A2 c2 d g2 :=
  ⟨irow_other h.ri hg (fun k hk e => h.ne hk e.symm), hr, h.bl.grown hg h.bl.size (fun k hk => (lrow_lt h.rg k hk).1)⟩
theorem DgX.setD {n i : Nat} {v : Int} (h : DgX W w (some ⟨n, 0, none⟩) cd Ag cg d g) (hi : i < d.length) (hv : I64 v) : DgX W (w.setCell ⟨n, i, none⟩ (.int .i64 v)) (some ⟨n, 0, none⟩) cd Ag cg (d.set i v) g :=
  h.pushD (irow_set h.ri hi hv) (gb_set (gb_refl w (some n)) i _)
theorem DgX.setG {n i : Nat} {v : Bool} (h : DgX W w Ad cd (some ⟨n, 0, none⟩) cg d g) (hi : i < g.length) : DgX W (w.setCell ⟨n, i, none⟩ (.bool v)) Ad cd (some ⟨n, 0, none⟩) cg d (g.set i v) :=
  h.pushG (lrow_set h.rg hi rfl) (gb_set (gb_refl w (some n)) i _)
end
def DpPost (l : List Ins3) (W : World) (e : Ending) (w' : World) : Prop := ∃ A1 c1, e = .returned (.tuple #[.slice A1 (dp15 l).1.length c1, .int .i64 (dp15 l).2.1, .int .i64 (dp15 l).2.2]) ∧ IRowAt w' W.heap.size A1 c1 (dp15 l).1 ∧ Below W.heap.size W w'
theorem firstI_skip {d : List Int} {g : List Bool} {i f : Nat} (h : skipB d g i = true) : firstI d g i (f + 1) = firstI d g (i + 1) f := by
  conv => lhs; unfold firstI; rw [if_pos h]
theorem firstI_stop {d : List Int} {g : List Bool} {i f : Nat} (h : skipB d g i = false) : firstI d g i (f + 1) = i := by
  conv => lhs; unfold firstI; rw [if_neg (by simp [h])]
set_option maxRecDepth 100000 in
set_option maxHeartbeats 16000000 in
theorem depths15 (l : List Ins3) (hl1 : 1 ≤ l.length) (hl : l.length ≤ 100) (hrt : ∀ i, i < l.length → rightI (xn l i) = true) (A : Option Addr) (c : Nat) (W : World) (hs : InssAt W A l) : Calls Try.prog 37 #[.slice A l.length c] W (DpPost l W) := by
  have HRG := Lib.hid (fun w h => regions15 l hl A c w h)
  have HSP := Lib.hid (fun (d : List Int) (g cd i : Nat) (hd : d.length = l.length) (hi : i < l.length) (hdo : dOk d) (w : World) (hb : Below W.heap.size W w) (hrow : IRowAt w W.heap.size (some ⟨g, 0, none⟩) cd d) => spread_any l hl A c d g cd i hd hi (hrt i hi) hdo W w hs hb hrow)
  have HS := Lib.hid hs
  unfold DpPost
  unfold RgPost at HRG
  obtain ⟨r, hr⟩ : ∃ r, rg15 l = r := ⟨_, rfl⟩
  obtain ⟨D, hD⟩ : ∃ D, dp15 l = D := ⟨_, rfl⟩
  have HD := Lib.hid (show D = if r.2.2 = 0 then dpL l l.length (dpInit l.length) (List.replicate l.length false) else ([], r.2.1, r.2.2) by rw [← hD]; unfold dp15; rw [hr])
  rw [hr] at HRG
  rw [hD]
  obtain ⟨nl, hnl⟩ : ∃ n, l.length = n := ⟨_, rfl⟩
  have HNL := Lib.hid hnl
  rw [hnl] at HRG HSP HD hl hl1 ⊢
  have HL := Lib.hid (And.intro hl1 hl)
  obtain ⟨r1, r2, r3⟩ := r
  dsimp only at HRG HD
  clear hs hrt hr hD hnl hl hl1
  have RGA : True := trivial
  by_cases h0 : r3 = 0
  case neg =>
    have q1 : (r3 != 0) = true := by simpa using h0
    have q2 : (r3 == 0) = false := by simpa using h0
    have HF := Lib.hid (show D = ([], r2, r3) by rw [HD.out, if_neg h0])
    clear h0
    go_enter Try.func37, Try.ntmps37
    go_wp2_with (go_at_call 35; refine (HRG.out W HS.out).mono ?_; rintro e w1 ⟨A1, c1, rfl, hr1, hb1⟩; have B1 := Lib.hid hb1; clear hr1 hb1)
    refine bodyPost_ret (by simp [results, Try.results37, go_sem]; try rfl) rfl ?_
    exact ⟨none, 0, by rw [HF.out]; rfl, by rw [HF.out]; exact irow_nil _ _, B1.out⟩
  subst h0
  have HF := Lib.hid (show dpL l nl (dpInit nl) (List.replicate nl false) = D by rw [HD.out, if_pos rfl])
  clear HD
  go_enter Try.func37, Try.ntmps37
  go_wp2_with (go_at_call 35; refine (HRG.out W HS.out).mono ?_; rintro e w1 ⟨A1, c1, rfl, hr1, hb1⟩; have B1 := Lib.hid hb1; clear hr1 hb1)
  go_loopg [8, 9, 10] nl (fun gm s8 s9 s10 wx => ∃ (j : Nat) (Ad : Option Addr) (cd : Nat) (Ag : Option Addr) (cg : Nat) (d : List Int) (gl : List Bool), j ≤ nl ∧ gm = nl - j ∧ s8 = .slice Ad d.length cd ∧ s9 = .slice Ag gl.length cg ∧ s10 = .int .i64 j ∧ Hid (d.length = j ∧ gl.length = j ∧ d = List.replicate j (-1) ∧ gl = List.replicate j false) ∧ Hid (DgX W wx Ad cd Ag cg d gl))
  case atStart => exact ⟨0, none, 0, none, 0, [], [], Nat.zero_le _, rfl, rfl, rfl, rfl, Lib.hid ⟨rfl, rfl, rfl, rfl⟩, Lib.hid ⟨irow_nil _ _, lrow_nil _ _, B1.out⟩⟩
  case round =>
    obtain ⟨j, Ad, cd, Ag, cg, d, gl, hj, rfl, rfl, rfl, rfl, HDL, HX⟩ := hrel
    by_cases hlt : j < nl
    · have s1 : decide ((j : Int) < (nl : Int)) = true := decide_eq_true (by omega)
      have s2 : decide (j < nl) = true := decide_eq_true hlt
      have s5 : wrap64 ((j : Int) + 1) = (j : Int) + 1 := by have := HL.out; unfold wrap64; omega
      have HJ := Lib.hid (show j < nl ∧ nl ≤ 100 from ⟨hlt, HL.out.2⟩)
      obtain ⟨d2, HD2⟩ : ∃ y, Hid (d ++ [-1] = y) := ⟨_, Lib.hid rfl⟩
      obtain ⟨g2, HG2⟩ : ∃ y, Hid (gl ++ [false] = y) := ⟨_, Lib.hid rfl⟩
      clear hlt hj
      go_wp2_with (first | (at_builtin; refine append_ints' (ok := fun _ => True) rfl (.tmp 30) (.tmp 31) rfl W.heap.size Ad cd d rfl (HX.out.alloc (.cells #[.int .i64 (-1)] 3)).ri (some ⟨_, 0, none⟩) 1 [-1] rfl (fun h => by cases h) (ints_lit' _ _ ⟨by decide, by decide⟩ _ rfl) (by have := HJ.out; have := HDL.out.1; simp; omega) (HX.out.alloc (.cells #[.int .i64 (-1)] 3)).bl.size d2 HD2.out ?_; intro A2 c2 w2 hr2 hg2 hat2; have X2 := Lib.hid ((HX.out.alloc (.cells #[.int .i64 (-1)] 3)).pushD hr2 hg2); clear hr2 hg2 hat2) | (at_builtin; refine append_bls' (ok := fun _ => True) rfl (.tmp 33) (.tmp 34) rfl W.heap.size Ag cg gl rfl (X2.out.alloc (.cells #[.bool false] 4)).rg (some ⟨_, 0, none⟩) 1 [false] rfl (fun h => by cases h) (bools_lit' _ _ rfl _ rfl) (by have := HJ.out; have := HDL.out.2.1; simp; omega) (X2.out.alloc (.cells #[.bool false] 4)).bl.size g2 HG2.out ?_; intro A3 c3 w3 hr3 hg3 hat3; have X3 := Lib.hid ((X2.out.alloc (.cells #[.bool false] 4)).pushG hr3 hg3); clear hr3 hg3 hat3))
      go_roundg (nl - (j + 1))
      case measure => have := HJ.out; omega
      case rel => exact ⟨j + 1, A2, c2, A3, c3, d2, g2, by have := HJ.out; omega, rfl, rfl, rfl, by first | rfl | (rw [s5]; rfl), Lib.hid ⟨by rw [← HD2.out, List.length_append, HDL.out.1]; rfl, by rw [← HG2.out, List.length_append, HDL.out.2.1]; rfl, by rw [← HD2.out, HDL.out.2.2.1, List.replicate_succ'], by rw [← HG2.out, HDL.out.2.2.2, List.replicate_succ']⟩, X3⟩
    · obtain rfl : j = nl := by omega
      have s1 : decide ((j : Int) < (j : Int)) = false := decide_eq_false (by omega)
      have s2 : decide (j < j) = false := decide_eq_false (by omega)
      have t1 : decide ((j : Int) > 0) = true := decide_eq_true (by have := HL.out; omega)
      have t2 : decide ((0 : Int) < (j : Int)) = true := t1
      have t3 : decide (0 < j) = true := decide_eq_true (by have := HL.out; omega)
      have t4 : (0 : Int) < (j : Int) := by have := HL.out; omega
      have t5 : 0 < j := by have := HL.out; omega
      have hdl := HDL.out.1
      have hgl := HDL.out.2.1
      obtain ⟨gd, ed, xd, xf, ld⟩ := irow_head HX.out.ri (i := 0) (by omega)
      obtain ⟨gg, eg, _, _, lgg⟩ := lrow_head HX.out.rg (i := 0) (by omega)
      subst ed
      subst eg
      rw [hdl, hgl]
      have HI0 := Lib.hid (show d.set 0 0 = dpInit j by rw [HDL.out.2.2.1]; rfl)
      have HG0 := Lib.hid (show gl = List.replicate j false from HDL.out.2.2.2)
      clear hlt hj hdl hgl
      go_upto_region 12 with fail
      have hX1 := HX.out.setD (i := 0) (v := 0) (by rw [HDL.out.1]; exact t5) ⟨by decide, by decide⟩
      rw [HI0.out, HG0.out] at hX1
      have HX1 := Lib.hid hX1
      clear hX1 xd xf ld lgg t1 t2 t3 t4 HX s1 s2
      generalize World.setCell _ _ _ = w5 at HX1 ⊢
      have HN1 := Lib.hid (show (dpInit j).length = j by unfold dpInit; simp)
      have HN2 := Lib.hid (show dOk (dpInit j) from dOk_set (fun x hx => by rw [(List.mem_replicate.mp hx).2]; decide) (by decide) 0)
      go_wp2_with fail
      go_loopg [11] j (fun gm s11 wx => ∃ (q : Nat) (d : List Int) (gl : List Bool), q ≤ j ∧ gm = j - q ∧ s11 = .int .i64 q ∧ Hid (dpL l (j - q) d gl = D) ∧ Hid (d.length = j ∧ gl.length = j ∧ dOk d) ∧ Hid (DgX W wx (some ⟨gd, 0, none⟩) cd (some ⟨gg, 0, none⟩) cg d gl))
      case atStart => exact ⟨0, _, _, Nat.zero_le _, rfl, rfl, Lib.hid HF.out, Lib.hid ⟨HN1.out, by simp, HN2.out⟩, HX1⟩
      case round =>
        clear HDL HI0 HG0 HX1 HN1 HN2
        obtain ⟨q, d, gl, hq, rfl, rfl, HDP, HDL, HX⟩ := hrel
        by_cases hlt : q < j
        · have s1 : decide ((q : Int) < (j : Int)) = true := decide_eq_true (by omega)
          have s2 : decide (q < j) = true := decide_eq_true hlt
          have s5 : wrap64 ((q : Int) + 1) = (q : Int) + 1 := by have := HL.out; unfold wrap64; omega
          have HQ := Lib.hid (show q < j ∧ j ≤ 100 from ⟨hlt, HL.out.2⟩)
          obtain ⟨fi, HFI⟩ : ∃ y, Hid (firstI d gl 0 j = y) := ⟨_, Lib.hid rfl⟩
          have HFL := Lib.hid (show fi ≤ j by rw [← HFI.out]; have := firstI_le d gl j 0; omega)
          have HDE := Lib.hid (show D = if fi = j then (d, 0, 0) else if (spF l d fi).2 = 0 then dpL l (j - (q + 1)) (spF l d fi).1 (gl.set fi true) else ([], (fi : Int), (spF l d fi).2) by
            rw [← HDP.out, show j - q = (j - (q + 1)) + 1 by omega]
            conv => lhs; unfold dpL
            rw [HNL.out, HFI.out])
          clear hlt hq HDP
          go_upto_block 4 with fail
          go_cut [12] (fun s12 wx => wr = wx ∧ s12 = .int .i64 (fi : Int))
          case first =>
            go_wp2_with fail
            go_loopg [12] j (fun gm s12 wx => wr = wx ∧ ∃ i : Nat, i ≤ j ∧ gm = j - i ∧ s12 = .int .i64 i ∧ Hid (firstI d gl i (j - i) = fi))
            case atStart => exact ⟨rfl, 0, Nat.zero_le _, rfl, rfl, HFI⟩
            case round =>
              obtain ⟨rfl, i, hi, rfl, rfl, HF2⟩ := hrel
              by_cases hil : i < j
              · have a1 : decide ((i : Int) < (j : Int)) = true := decide_eq_true (by omega)
                have a2 : decide (i < j) = true := decide_eq_true hil
                have a3 : (i : Int) < (j : Int) := by omega
                have a4 : (0 : Int) ≤ (i : Int) := by omega
                have a5 : wrap64 ((i : Int) + 1) = (i : Int) + 1 := by have := HL.out; unfold wrap64; omega
                obtain ⟨g', e', xi, _, li⟩ := irow_head HX.out.ri (i := i) (by rw [HDL.out.1]; exact hil)
                obtain rfl : gd = g' := by simpa using e'
                obtain ⟨g', e'', yi, _, mi⟩ := lrow_head HX.out.rg (i := i) (by rw [HDL.out.2.1]; exact hil)
                obtain rfl : gg = g' := by simpa using e''
                obtain ⟨x, hx⟩ : ∃ x, ivAt d i = x := ⟨_, rfl⟩
                obtain ⟨y, hy⟩ : ∃ y, lvAt gl i = y := ⟨_, rfl⟩
                have HSK := Lib.hid (show skipB d gl i = (decide (x < 0) || y) by unfold skipB; rw [hx, hy])
                rw [hx] at xi
                rw [hy] at yi
                have HIL := Lib.hid (show i < j ∧ j - i = (j - (i + 1)) + 1 by omega)
                have HF3 := Lib.hid (show firstI d gl i ((j - (i + 1)) + 1) = fi by rw [← HIL.out.2]; exact HF2.out)
                clear hx hy hil hi e' e'' HF2
                by_cases hx0 : x < 0
                · have b1 : decide (x < 0) = true := decide_eq_true hx0
                  have HK := Lib.hid (show firstI d gl (i + 1) (j - (i + 1)) = fi by rw [← HF3.out, firstI_skip (by rw [HSK.out, b1]; rfl)])
                  clear hx0
                  go_wp2_with fail
                  go_roundg (j - (i + 1))
                  case measure => have := HIL.out; omega
                  case rel => exact ⟨rfl, i + 1, HIL.out.1, rfl, by first | rfl | (rw [a5]; rfl), HK⟩
                · have b1 : decide (x < 0) = false := decide_eq_false hx0
                  cases hyv : y
                  · have HK := Lib.hid (show fi = i by rw [← HF3.out, firstI_stop (by rw [HSK.out, b1, hyv]; rfl)])
                    rw [hyv] at yi
                    clear hx0
                    go_wp2_with fail
                    go_meet
                    exact ⟨rfl, by rw [HK.out]⟩
                  · have HK := Lib.hid (show firstI d gl (i + 1) (j - (i + 1)) = fi by rw [← HF3.out, firstI_skip (by rw [HSK.out, hyv]; simp)])
                    rw [hyv] at yi
                    clear hx0
                    go_wp2_with fail
                    go_roundg (j - (i + 1))
                    case measure => have := HIL.out; omega
                    case rel => exact ⟨rfl, i + 1, HIL.out.1, rfl, by first | rfl | (rw [a5]; rfl), HK⟩
              · obtain rfl : i = j := by omega
                have a1 : decide ((i : Int) < (i : Int)) = false := decide_eq_false (by omega)
                have a2 : decide (i < i) = false := decide_eq_false (by omega)
                have HK := Lib.hid (show fi = i by rw [← HF2.out, Nat.sub_self]; rfl)
                clear hil hi
                go_wp2_with fail
                go_meet
                exact ⟨rfl, by rw [HK.out]⟩
          obtain ⟨rfl, rfl⟩ := hcut
          by_cases hfj : fi = j
          · subst hfj
            have HDD := Lib.hid (show D = (d, 0, 0) by rw [HDE.out, if_pos rfl])
            go_wp2_with fail
            refine bodyPost_ret (by simp [results, Try.results37, go_sem]; try rfl) rfl ?_
            exact ⟨some ⟨gd, 0, none⟩, cd, by rw [HDD.out, HDL.out.1], by rw [HDD.out]; exact HX.out.ri, HX.out.bl⟩
          · have hfl : fi < j := by have := HFL.out; omega
            have f1 : ((fi : Int) == (j : Int)) = false := by simp; omega
            have f2 : (fi == j) = false := by simp; omega
            have f3 : (fi : Int) < (j : Int) := by omega
            have f4 : (0 : Int) ≤ (fi : Int) := by omega
            obtain ⟨g', e', yi, yf, mi⟩ := lrow_head HX.out.rg (i := fi) (by rw [HDL.out.2.1]; exact hfl)
            obtain rfl : gg = g' := by simpa using e'
            obtain ⟨⟨d9, e9⟩, HSF⟩ : ∃ y, Hid (spF l d fi = y) := ⟨_, Lib.hid rfl⟩
            have HDE2 := Lib.hid (show D = if e9 = 0 then dpL l (j - (q + 1)) d9 (gl.set fi true) else ([], (fi : Int), e9) by rw [HDE.out, if_neg hfj, HSF.out])
            have HD9 := Lib.hid (show d9.length = j ∧ dOk d9 by
              have h1 := spF_len l d fi
              have h2 := spF_ok (l := l) (i := fi) HDL.out.2.2
              rw [HSF.out] at h1 h2
              exact ⟨by rw [h1]; exact HDL.out.1, h2⟩)
            have HFL2 := Lib.hid hfl
            clear hfj hfl HDE e'
            go_upto_region 21 with fail
            have X6 := Lib.hid (HX.out.setG (i := fi) (v := true) (by rw [HDL.out.2.1]; exact HFL2.out))
            clear yi yf mi
            generalize World.setCell _ _ _ = w6 at X6 ⊢
            have HSC := Lib.hid (show Calls Try.prog 67 #[.slice A j c, .slice (some ⟨gd, 0, none⟩) j cd, .int .i64 (fi : Int)] w6 fun e w' => e = .returned (.int .i64 e9) ∧ IRowAt w' W.heap.size (some ⟨gd, 0, none⟩) cd d9 ∧ w6.grownBy w' (some gd) from by
              have := HSP.out d gd cd fi HDL.out.1 HFL2.out HDL.out.2.2 w6 X6.out.bl X6.out.ri
              rw [HSF.out, HDL.out.1] at this
              exact this)
            by_cases he : e9 = 0
            · subst he
              have HDD := Lib.hid (show dpL l (j - (q + 1)) d9 (gl.set fi true) = D by rw [HDE2.out, if_pos rfl])
              go_wp2_with (go_at_call 67; refine HSC.out.mono ?_; rintro e w7 ⟨rfl, hr7, hg7⟩; have X7 := Lib.hid (X6.out.pushD hr7 hg7); clear hr7 hg7)
              go_roundg (j - (q + 1))
              case measure => have := HQ.out; omega
              case rel => exact ⟨q + 1, d9, gl.set fi true, HQ.out.1, rfl, by first | rfl | (rw [s5]; rfl), HDD, Lib.hid ⟨HD9.out.1, by rw [List.length_set]; exact HDL.out.2.1, HD9.out.2⟩, X7⟩
            · have f5 : (e9 != 0) = true := by simpa using he
              have f6 : (e9 == 0) = false := by simpa using he
              have HDD := Lib.hid (show D = ([], (fi : Int), e9) by rw [HDE2.out, if_neg he])
              clear he
              go_wp2_with (go_at_call 67; refine HSC.out.mono ?_; rintro e w7 ⟨rfl, hr7, hg7⟩; have X7 := Lib.hid (X6.out.pushD hr7 hg7); clear hr7 hg7)
              refine bodyPost_ret (by simp [results, Try.results37, go_sem]; try rfl) rfl ?_
              exact ⟨none, 0, by rw [HDD.out]; rfl, by rw [HDD.out]; exact irow_nil _ _, X7.out.bl⟩
        · obtain rfl : q = j := by omega
          have s1 : decide ((q : Int) < (q : Int)) = false := decide_eq_false (by omega)
          have s2 : decide (q < q) = false := decide_eq_false (by omega)
          have HDD := Lib.hid (show D = (d, 0, 0) by rw [← HDP.out, Nat.sub_self]; rfl)
          clear hlt hq
          go_wp2_with fail
          refine bodyPost_ret (by simp [results, Try.results37, go_sem]; try rfl) rfl ?_
          exact ⟨some ⟨gd, 0, none⟩, cd, by rw [HDD.out, HDL.out.1], by rw [HDD.out]; exact HX.out.ri, HX.out.bl⟩
end Go.Proofs.Ytcjkpeojjonpiaa
