
/-
  verify.Check.
-/
import Derived.Test.YtbfjnanakmiaaaaVer8
import Derived.Test.YtbfjnanakmiaaaaEnc
namespace Go.Proofs.Ytbfjnanakmiaaaa
open Go.RowKit Go.ChangeShapes Go.WideShapes
set_option linter.unusedSimpArgs false
set_option linter.unusedVariables false

def p1F (l : List Ins3) (i : Nat) : Bool := !rightI (xn l i)
def p2F (l : List Ins3) (ins : List Int) (i : Nat) : Bool := misF ins i (xn l i).op
def p3F (l : List Ins3) (ins : List Int) (t : Int) (i : Nat) : Bool := farF l.length ins t i (xn l i).op (xn l i).arg
def checkF (l : List Ins3) (t : Int) : Int × Int :=
  bif decide (l.length < 1) then (0, 3) else bif decide (64 < l.length) then (0, 3) else
  bif (fstF (p1F l) 0 l.length).2 then ((fstF (p1F l) 0 l.length).1, 3) else
  bif (regF l).2.2 != 0 then ((regF l).2.1, (regF l).2.2) else
  bif (fstF (p2F l (regF l).1) 0 l.length).2 then ((fstF (p2F l (regF l).1) 0 l.length).1, 8) else
  bif (fstF (p3F l (regF l).1 t) 0 l.length).2 then ((fstF (p3F l (regF l).1 t) 0 l.length).1, 2) else depsF l
theorem fstF_no (p : Nat → Bool) : ∀ (k i : Nat), (fstF p i k).2 = false → ∀ m, m < k → p (i + m) = false := by
  intro k
  induction k with
  | zero => intro i _ m hm; omega
  | succ k ih =>
    intro i h m hm
    unfold fstF at h
    cases hp : p i
    · rw [hp] at h
      cases m with
      | zero => exact hp
      | succ m =>
        have := ih (i + 1) h m (by omega)
        rwa [show i + 1 + m = i + (m + 1) by omega] at this
    · rw [hp] at h
      cases h
theorem regF_len {l : List Ins3} (h : (regF l).2.2 = 0) : (regF l).1.length = l.length := by
  unfold regF at *
  cases hw : regW (runV l l.length) != -1
  · exact (runV_inv l l.length (Nat.le_refl _)).2.2
  · rw [hw] at h
    exact absurd h (by show ¬ (8 : Int) = 0; decide)
def CheckPost (l : List Ins3) (t : Int) (W : World) (e : Ending) (w' : World) : Prop := e = .returned (.tuple #[.int .i64 (checkF l t).1, .int .i64 (checkF l t).2]) ∧ Below W.heap.size W w'
set_option maxHeartbeats 16000000 in
set_option maxRecDepth 100000 in
theorem check_any (l : List Ins3) (hl : l.length ≤ 65) (t : Int) (A : Option Addr) (c : Nat) (W : World) (HS : InssAt W A l) : Calls Try.prog 6 #[.slice A l.length c, .int .i64 t] W (CheckPost l t W) := by
  have HSh := Lib.hid HS
  clear HS
  have hxo : ∀ i, i < l.length → (xn l i).ok := fun i hi => by
    obtain ⟨ad, _, h⟩ := xn_at HSh.out hi
    exact h.1
  have HXO := Lib.hid hxo
  clear hxo
  obtain ⟨R, HR⟩ : ∃ R, Hid (checkF l t = R) := ⟨_, Lib.hid rfl⟩
  have HD := Lib.hid (HR.out.symm.trans (show checkF l t = _ by unfold checkF; rfl))
  unfold CheckPost
  rw [HR.out]
  have hb0 : Below W.heap.size W ((W.alloc (.cells #[.slice A l.length c] 22)).alloc (.cells #[.int .i64 t] 3)) := ((Below.refl _ _).alloc (Nat.le_refl _) _).alloc (by simp) _
  have HB0 := Lib.hid hb0
  have q2 : ((W.alloc (.cells #[.slice A l.length c] 22)).alloc (.cells #[.int .i64 t] 3)).cell? ⟨W.heap.size, 0, none⟩ = some (.slice A l.length c) := hp_cell (hp_alloc (heap_alloc_new W _) _) 0
  have q3 : ((W.alloc (.cells #[.slice A l.length c] 22)).alloc (.cells #[.int .i64 t] 3)).cell? ⟨W.heap.size + 1, 0, none⟩ = some (.int .i64 t) := hp_cell ((congrArg _ (by simp)).trans (heap_alloc_new (W.alloc _) _)) 0
  obtain ⟨W0, hW0⟩ : ∃ W0, (W.alloc (.cells #[.slice A l.length c] 22)).alloc (.cells #[.int .i64 t] 3) = W0 := ⟨_, rfl⟩
  rw [hW0] at HB0 q2 q3
  have Q2 := Lib.hid q2
  have Q3 := Lib.hid q3
  clear hb0
  by_cases h0 : l.length < 1
  · have d1 : decide ((l.length : Int) < 1) = true := decide_eq_true (by omega)
    have d1' : decide (l.length < 1) = true := decide_eq_true h0
    have HF : Hid (R = (0, 3)) := Lib.hid (by rw [HD.out, d1']; rfl)
    go_enter Try.func6, Try.ntmps6
    go_wp2_with fail
    try rw [hW0]
    go_ret2
    exact ⟨by rw [HF.out]; rfl, by first | exact HB0.out | (rw [hW0]; exact HB0.out)⟩
  · by_cases h64 : 64 < l.length
    · have d0 : decide ((l.length : Int) < 1) = false := decide_eq_false (by omega)
      have d0' : decide (l.length < 1) = false := decide_eq_false h0
      have d1 : decide ((l.length : Int) > 64) = true := decide_eq_true (by omega)
      have d2 : decide ((64 : Int) < (l.length : Int)) = true := decide_eq_true (by omega)
      have d1' : decide (64 < l.length) = true := decide_eq_true h64
      have HF : Hid (R = (0, 3)) := Lib.hid (by rw [HD.out, d0', d1']; rfl)
      go_enter Try.func6, Try.ntmps6
      go_wp2_with fail
      try rw [hW0]
      go_ret2
      exact ⟨by rw [HF.out]; rfl, by first | exact HB0.out | (rw [hW0]; exact HB0.out)⟩
    · have d0 : decide ((l.length : Int) < 1) = false := decide_eq_false (by omega)
      have d0' : decide (l.length < 1) = false := decide_eq_false h0
      have d1 : decide ((l.length : Int) > 64) = false := decide_eq_false (by omega)
      have d2 : decide ((64 : Int) < (l.length : Int)) = false := decide_eq_false (by omega)
      have d1' : decide (64 < l.length) = false := decide_eq_false h64
      have HD1 := Lib.hid (HD.out.trans (by rw [d0', d1']))
      clear HD d0' d1'
      obtain ⟨⟨a1, s1⟩, h1⟩ : ∃ r, fstF (p1F l) 0 l.length = r := ⟨_, rfl⟩
      have H1 := Lib.hid h1
      clear h1
      cases s1 with
      | true =>
        have HF : Hid (R = (a1, 3)) := Lib.hid (by rw [HD1.out, H1.out]; rfl)
        go_enter Try.func6, Try.ntmps6
        go_wp2_with (first | (go_at_call 13; (try rw [hW0]); (with_reducible refine (first_any 14 #[] (p1F l) l A c (by omega) W0 (inss_below HSh.out HB0.out) enter1 ?hf).mono ?_); (case hf => exact fun i hi w1 hb => check1_any (i : Int) (xn l i) (HXO.out i hi) w1); rintro e w1 ⟨rfl, hb1⟩; rw [H1.out]; clear q2 q3; have B1 := Lib.hid (HB0.out.trans (hb1.mono HB0.out.size)); have q2 := (hb1.cell (p := ⟨W.heap.size, 0, none⟩) (World.block_lt_of_cell? W0 _ Q2.out)).trans Q2.out; have q3 := (hb1.cell (p := ⟨W.heap.size + 1, 0, none⟩) (World.block_lt_of_cell? W0 _ Q3.out)).trans Q3.out; have R2 := Lib.hid q2; have R3 := Lib.hid q3; clear hb1))
        refine bodyPost_ret (by simp [results, Try.results6, go_sem]; try rfl) rfl ?_
        exact ⟨by rw [HF.out], B1.out⟩
      | false =>
        have HRT := Lib.hid (show ∀ i, i < l.length → rightI (xn l i) = true from fun i hi => by
          have := fstF_no (p1F l) l.length 0 (by rw [H1.out]) i hi
          rw [Nat.zero_add] at this
          unfold p1F at this
          simpa using this)
        have HOR := Lib.hid (show okReg l from fun s hs => by
          obtain ⟨i, hi, rfl⟩ := List.getElem_of_mem hs
          have h := right_arg (HRT.out i hi)
          have e := xn_get hi
          rw [List.getElem?_eq_getElem hi] at e
          rw [Option.some.inj e]
          exact h)
        obtain ⟨⟨ins, at1, e1⟩, hr⟩ : ∃ r, regF l = r := ⟨_, rfl⟩
        have HRG := Lib.hid hr
        clear hr
        by_cases he : e1 = 0
        · subst he
          have HIL := Lib.hid (show ins.length = l.length by have h := regF_len (l := l) (by rw [HRG.out]); rw [HRG.out] at h; exact h)
          obtain ⟨⟨a2, s2⟩, h2⟩ : ∃ r, fstF (p2F l ins) 0 l.length = r := ⟨_, rfl⟩
          have H2 := Lib.hid h2
          clear h2
          cases s2 with
          | true =>
            have HF : Hid (R = (a2, 8)) := Lib.hid (by rw [HD1.out, H1.out, HRG.out]; show (bif (fstF (p2F l ins) 0 l.length).2 then _ else _) = _; rw [H2.out]; rfl)
            go_enter Try.func6, Try.ntmps6
            go_wp2_with (first | (go_at_call 15; refine (regions_any l (by omega) A c w1 (inss_below HSh.out B1.out)).mono ?_; rintro e w2 ⟨A2, c2, rfl, hr2, hb2⟩; rw [HRG.out] at hr2 ⊢; clear q2 q3; have B2 := Lib.hid (B1.out.trans (hb2.mono B1.out.size)); have HR2 := Lib.hid hr2; have q2 := (hb2.cell (p := ⟨W.heap.size, 0, none⟩) (World.block_lt_of_cell? w1 _ R2.out)).trans R2.out; have q3 := (hb2.cell (p := ⟨W.heap.size + 1, 0, none⟩) (World.block_lt_of_cell? w1 _ R3.out)).trans R3.out; have S2 := Lib.hid q2; have S3 := Lib.hid q3; have B3 := Lib.hid (B2.out.alloc B2.out.size (.cells #[.slice A2 ins.length c2] 47)); have g2 : (w2.alloc (.cells #[.slice A2 ins.length c2] 47)).cell? ⟨W.heap.size, 0, none⟩ = some (.slice A l.length c) := (((Below.refl _ _).alloc (Nat.le_refl w2.heap.size) _).cell (p := ⟨W.heap.size, 0, none⟩) (World.block_lt_of_cell? w2 _ q2)).trans q2; have g3 : (w2.alloc (.cells #[.slice A2 ins.length c2] 47)).cell? ⟨W.heap.size + 1, 0, none⟩ = some (.int .i64 t) := (((Below.refl _ _).alloc (Nat.le_refl w2.heap.size) _).cell (p := ⟨W.heap.size + 1, 0, none⟩) (World.block_lt_of_cell? w2 _ q3)).trans q3; have g8 : (w2.alloc (.cells #[.slice A2 ins.length c2] 47)).cell? ⟨w2.heap.size, 0, none⟩ = some (.slice A2 ins.length c2) := hp_cell (heap_alloc_new w2 _) 0; have HI3 := Lib.hid (ints_below (irow_cap hr2).2.2 ((Below.refl _ _).alloc (Nat.le_refl w2.heap.size) (.cells #[.slice A2 ins.length c2] 47))); have G2 := Lib.hid g2; have G3 := Lib.hid g3; have G8 := Lib.hid g8; clear hr2 hb2) | (go_at_call 13; (with_reducible refine (first_any 16 #[.pointer (some ⟨w2.heap.size, 0, none⟩)] (p2F l ins) l A c (by omega) _ (inss_below HSh.out B3.out) enter2 ?hf).mono ?_); (case hf => exact fun i hi w hb => check2_any i (xn l i) w2.heap.size A2 c2 ins (by rw [HIL.out]; exact hi) (by rw [HIL.out]; omega) w ((hb.cell (p := ⟨w2.heap.size, 0, none⟩) (World.block_lt_of_cell? _ _ G8.out)).trans G8.out) (ints_below HI3.out hb)); rintro e w4 ⟨rfl, hb4⟩; rw [H2.out]; clear q2 q3 g2 g3 g8; have B4 := Lib.hid (B3.out.trans (hb4.mono B3.out.size)); have e2 := (hb4.cell (p := ⟨W.heap.size, 0, none⟩) (World.block_lt_of_cell? _ _ G2.out)).trans G2.out; have e3 := (hb4.cell (p := ⟨W.heap.size + 1, 0, none⟩) (World.block_lt_of_cell? _ _ G3.out)).trans G3.out; have e8 := (hb4.cell (p := ⟨w2.heap.size, 0, none⟩) (World.block_lt_of_cell? _ _ G8.out)).trans G8.out; have HI4 := Lib.hid (ints_below HI3.out hb4); have E2 := Lib.hid e2; have E3 := Lib.hid e3; have E8 := Lib.hid e8; clear hb4) | (go_at_call 13; (try rw [hW0]); (with_reducible refine (first_any 14 #[] (p1F l) l A c (by omega) W0 (inss_below HSh.out HB0.out) enter1 ?hf).mono ?_); (case hf => exact fun i hi w1 hb => check1_any (i : Int) (xn l i) (HXO.out i hi) w1); rintro e w1 ⟨rfl, hb1⟩; rw [H1.out]; clear q2 q3; have B1 := Lib.hid (HB0.out.trans (hb1.mono HB0.out.size)); have q2 := (hb1.cell (p := ⟨W.heap.size, 0, none⟩) (World.block_lt_of_cell? W0 _ Q2.out)).trans Q2.out; have q3 := (hb1.cell (p := ⟨W.heap.size + 1, 0, none⟩) (World.block_lt_of_cell? W0 _ Q3.out)).trans Q3.out; have R2 := Lib.hid q2; have R3 := Lib.hid q3; clear hb1))
            refine bodyPost_ret (by simp [results, Try.results6, go_sem]; try rfl) rfl ?_
            exact ⟨by rw [HF.out], B4.out⟩
          | false =>
            obtain ⟨⟨a3, s3⟩, h3⟩ : ∃ r, fstF (p3F l ins t) 0 l.length = r := ⟨_, rfl⟩
            have H3 := Lib.hid h3
            clear h3
            cases s3 with
            | true =>
              have HF : Hid (R = (a3, 2)) := Lib.hid (by rw [HD1.out, H1.out, HRG.out]; show (bif (fstF (p2F l ins) 0 l.length).2 then _ else bif (fstF (p3F l ins t) 0 l.length).2 then _ else _) = _; rw [H2.out, H3.out]; rfl)
              go_enter Try.func6, Try.ntmps6
              go_wp2_with (first | (go_at_call 15; refine (regions_any l (by omega) A c w1 (inss_below HSh.out B1.out)).mono ?_; rintro e w2 ⟨A2, c2, rfl, hr2, hb2⟩; rw [HRG.out] at hr2 ⊢; clear q2 q3; have B2 := Lib.hid (B1.out.trans (hb2.mono B1.out.size)); have HR2 := Lib.hid hr2; have q2 := (hb2.cell (p := ⟨W.heap.size, 0, none⟩) (World.block_lt_of_cell? w1 _ R2.out)).trans R2.out; have q3 := (hb2.cell (p := ⟨W.heap.size + 1, 0, none⟩) (World.block_lt_of_cell? w1 _ R3.out)).trans R3.out; have S2 := Lib.hid q2; have S3 := Lib.hid q3; have B3 := Lib.hid (B2.out.alloc B2.out.size (.cells #[.slice A2 ins.length c2] 47)); have g2 : (w2.alloc (.cells #[.slice A2 ins.length c2] 47)).cell? ⟨W.heap.size, 0, none⟩ = some (.slice A l.length c) := (((Below.refl _ _).alloc (Nat.le_refl w2.heap.size) _).cell (p := ⟨W.heap.size, 0, none⟩) (World.block_lt_of_cell? w2 _ q2)).trans q2; have g3 : (w2.alloc (.cells #[.slice A2 ins.length c2] 47)).cell? ⟨W.heap.size + 1, 0, none⟩ = some (.int .i64 t) := (((Below.refl _ _).alloc (Nat.le_refl w2.heap.size) _).cell (p := ⟨W.heap.size + 1, 0, none⟩) (World.block_lt_of_cell? w2 _ q3)).trans q3; have g8 : (w2.alloc (.cells #[.slice A2 ins.length c2] 47)).cell? ⟨w2.heap.size, 0, none⟩ = some (.slice A2 ins.length c2) := hp_cell (heap_alloc_new w2 _) 0; have HI3 := Lib.hid (ints_below (irow_cap hr2).2.2 ((Below.refl _ _).alloc (Nat.le_refl w2.heap.size) (.cells #[.slice A2 ins.length c2] 47))); have G2 := Lib.hid g2; have G3 := Lib.hid g3; have G8 := Lib.hid g8; clear hr2 hb2) | (go_at_call 13; (with_reducible refine (first_any 18 #[.pointer (some ⟨W.heap.size + 1, 0, none⟩), .pointer (some ⟨W.heap.size, 0, none⟩), .pointer (some ⟨w2.heap.size, 0, none⟩)] (p3F l ins t) l A c (by omega) w4 (inss_below HSh.out B4.out) enter3 ?hf).mono ?_); (case hf => exact fun i hi w hb => check3_any l.length t i (xn l i) (right_arg (HRT.out i hi)) (W.heap.size + 1) W.heap.size w2.heap.size A2 A c2 c ins HIL.out hi (by omega) w ((hb.cell (p := ⟨W.heap.size + 1, 0, none⟩) (World.block_lt_of_cell? _ _ E3.out)).trans E3.out) ((hb.cell (p := ⟨W.heap.size, 0, none⟩) (World.block_lt_of_cell? _ _ E2.out)).trans E2.out) (((hb.cell (p := ⟨w2.heap.size, 0, none⟩) (World.block_lt_of_cell? _ _ E8.out)).trans E8.out).trans (by rw [HIL.out])) (ints_below HI4.out hb)); rintro e w5 ⟨rfl, hb5⟩; rw [H3.out]; clear e2 e3 e8; have B5 := Lib.hid (B4.out.trans (hb5.mono B4.out.size)); have k2 := (hb5.cell (p := ⟨W.heap.size, 0, none⟩) (World.block_lt_of_cell? _ _ E2.out)).trans E2.out; clear hb5) | (go_at_call 13; (with_reducible refine (first_any 16 #[.pointer (some ⟨w2.heap.size, 0, none⟩)] (p2F l ins) l A c (by omega) _ (inss_below HSh.out B3.out) enter2 ?hf).mono ?_); (case hf => exact fun i hi w hb => check2_any i (xn l i) w2.heap.size A2 c2 ins (by rw [HIL.out]; exact hi) (by rw [HIL.out]; omega) w ((hb.cell (p := ⟨w2.heap.size, 0, none⟩) (World.block_lt_of_cell? _ _ G8.out)).trans G8.out) (ints_below HI3.out hb)); rintro e w4 ⟨rfl, hb4⟩; rw [H2.out]; clear q2 q3 g2 g3 g8; have B4 := Lib.hid (B3.out.trans (hb4.mono B3.out.size)); have e2 := (hb4.cell (p := ⟨W.heap.size, 0, none⟩) (World.block_lt_of_cell? _ _ G2.out)).trans G2.out; have e3 := (hb4.cell (p := ⟨W.heap.size + 1, 0, none⟩) (World.block_lt_of_cell? _ _ G3.out)).trans G3.out; have e8 := (hb4.cell (p := ⟨w2.heap.size, 0, none⟩) (World.block_lt_of_cell? _ _ G8.out)).trans G8.out; have HI4 := Lib.hid (ints_below HI3.out hb4); have E2 := Lib.hid e2; have E3 := Lib.hid e3; have E8 := Lib.hid e8; clear hb4) | (go_at_call 13; (try rw [hW0]); (with_reducible refine (first_any 14 #[] (p1F l) l A c (by omega) W0 (inss_below HSh.out HB0.out) enter1 ?hf).mono ?_); (case hf => exact fun i hi w1 hb => check1_any (i : Int) (xn l i) (HXO.out i hi) w1); rintro e w1 ⟨rfl, hb1⟩; rw [H1.out]; clear q2 q3; have B1 := Lib.hid (HB0.out.trans (hb1.mono HB0.out.size)); have q2 := (hb1.cell (p := ⟨W.heap.size, 0, none⟩) (World.block_lt_of_cell? W0 _ Q2.out)).trans Q2.out; have q3 := (hb1.cell (p := ⟨W.heap.size + 1, 0, none⟩) (World.block_lt_of_cell? W0 _ Q3.out)).trans Q3.out; have R2 := Lib.hid q2; have R3 := Lib.hid q3; clear hb1))
              refine bodyPost_ret (by simp [results, Try.results6, go_sem]; try rfl) rfl ?_
              exact ⟨by rw [HF.out], B5.out⟩
            | false =>
              have HF : Hid (R = depsF l) := Lib.hid (by rw [HD1.out, H1.out, HRG.out]; show (bif (fstF (p2F l ins) 0 l.length).2 then _ else bif (fstF (p3F l ins t) 0 l.length).2 then _ else _) = _; rw [H2.out, H3.out]; rfl)
              go_enter Try.func6, Try.ntmps6
              go_wp2_with (first | (go_at_call 19; refine (depths_any l (by omega) (by omega) HOR.out A c w5 (inss_below HSh.out B5.out)).mono ?_; rintro e w6 ⟨A6, c6, n6, rfl, hb6⟩; have B6 := Lib.hid (B5.out.trans (hb6.mono B5.out.size)); clear hb6) | (go_at_call 15; refine (regions_any l (by omega) A c w1 (inss_below HSh.out B1.out)).mono ?_; rintro e w2 ⟨A2, c2, rfl, hr2, hb2⟩; rw [HRG.out] at hr2 ⊢; clear q2 q3; have B2 := Lib.hid (B1.out.trans (hb2.mono B1.out.size)); have HR2 := Lib.hid hr2; have q2 := (hb2.cell (p := ⟨W.heap.size, 0, none⟩) (World.block_lt_of_cell? w1 _ R2.out)).trans R2.out; have q3 := (hb2.cell (p := ⟨W.heap.size + 1, 0, none⟩) (World.block_lt_of_cell? w1 _ R3.out)).trans R3.out; have S2 := Lib.hid q2; have S3 := Lib.hid q3; have B3 := Lib.hid (B2.out.alloc B2.out.size (.cells #[.slice A2 ins.length c2] 47)); have g2 : (w2.alloc (.cells #[.slice A2 ins.length c2] 47)).cell? ⟨W.heap.size, 0, none⟩ = some (.slice A l.length c) := (((Below.refl _ _).alloc (Nat.le_refl w2.heap.size) _).cell (p := ⟨W.heap.size, 0, none⟩) (World.block_lt_of_cell? w2 _ q2)).trans q2; have g3 : (w2.alloc (.cells #[.slice A2 ins.length c2] 47)).cell? ⟨W.heap.size + 1, 0, none⟩ = some (.int .i64 t) := (((Below.refl _ _).alloc (Nat.le_refl w2.heap.size) _).cell (p := ⟨W.heap.size + 1, 0, none⟩) (World.block_lt_of_cell? w2 _ q3)).trans q3; have g8 : (w2.alloc (.cells #[.slice A2 ins.length c2] 47)).cell? ⟨w2.heap.size, 0, none⟩ = some (.slice A2 ins.length c2) := hp_cell (heap_alloc_new w2 _) 0; have HI3 := Lib.hid (ints_below (irow_cap hr2).2.2 ((Below.refl _ _).alloc (Nat.le_refl w2.heap.size) (.cells #[.slice A2 ins.length c2] 47))); have G2 := Lib.hid g2; have G3 := Lib.hid g3; have G8 := Lib.hid g8; clear hr2 hb2) | (go_at_call 13; (with_reducible refine (first_any 18 #[.pointer (some ⟨W.heap.size + 1, 0, none⟩), .pointer (some ⟨W.heap.size, 0, none⟩), .pointer (some ⟨w2.heap.size, 0, none⟩)] (p3F l ins t) l A c (by omega) w4 (inss_below HSh.out B4.out) enter3 ?hf).mono ?_); (case hf => exact fun i hi w hb => check3_any l.length t i (xn l i) (right_arg (HRT.out i hi)) (W.heap.size + 1) W.heap.size w2.heap.size A2 A c2 c ins HIL.out hi (by omega) w ((hb.cell (p := ⟨W.heap.size + 1, 0, none⟩) (World.block_lt_of_cell? _ _ E3.out)).trans E3.out) ((hb.cell (p := ⟨W.heap.size, 0, none⟩) (World.block_lt_of_cell? _ _ E2.out)).trans E2.out) (((hb.cell (p := ⟨w2.heap.size, 0, none⟩) (World.block_lt_of_cell? _ _ E8.out)).trans E8.out).trans (by rw [HIL.out])) (ints_below HI4.out hb)); rintro e w5 ⟨rfl, hb5⟩; rw [H3.out]; clear e2 e3 e8; have B5 := Lib.hid (B4.out.trans (hb5.mono B4.out.size)); have k2 := (hb5.cell (p := ⟨W.heap.size, 0, none⟩) (World.block_lt_of_cell? _ _ E2.out)).trans E2.out; clear hb5) | (go_at_call 13; (with_reducible refine (first_any 16 #[.pointer (some ⟨w2.heap.size, 0, none⟩)] (p2F l ins) l A c (by omega) _ (inss_below HSh.out B3.out) enter2 ?hf).mono ?_); (case hf => exact fun i hi w hb => check2_any i (xn l i) w2.heap.size A2 c2 ins (by rw [HIL.out]; exact hi) (by rw [HIL.out]; omega) w ((hb.cell (p := ⟨w2.heap.size, 0, none⟩) (World.block_lt_of_cell? _ _ G8.out)).trans G8.out) (ints_below HI3.out hb)); rintro e w4 ⟨rfl, hb4⟩; rw [H2.out]; clear q2 q3 g2 g3 g8; have B4 := Lib.hid (B3.out.trans (hb4.mono B3.out.size)); have e2 := (hb4.cell (p := ⟨W.heap.size, 0, none⟩) (World.block_lt_of_cell? _ _ G2.out)).trans G2.out; have e3 := (hb4.cell (p := ⟨W.heap.size + 1, 0, none⟩) (World.block_lt_of_cell? _ _ G3.out)).trans G3.out; have e8 := (hb4.cell (p := ⟨w2.heap.size, 0, none⟩) (World.block_lt_of_cell? _ _ G8.out)).trans G8.out; have HI4 := Lib.hid (ints_below HI3.out hb4); have E2 := Lib.hid e2; have E3 := Lib.hid e3; have E8 := Lib.hid e8; clear hb4) | (go_at_call 13; (try rw [hW0]); (with_reducible refine (first_any 14 #[] (p1F l) l A c (by omega) W0 (inss_below HSh.out HB0.out) enter1 ?hf).mono ?_); (case hf => exact fun i hi w1 hb => check1_any (i : Int) (xn l i) (HXO.out i hi) w1); rintro e w1 ⟨rfl, hb1⟩; rw [H1.out]; clear q2 q3; have B1 := Lib.hid (HB0.out.trans (hb1.mono HB0.out.size)); have q2 := (hb1.cell (p := ⟨W.heap.size, 0, none⟩) (World.block_lt_of_cell? W0 _ Q2.out)).trans Q2.out; have q3 := (hb1.cell (p := ⟨W.heap.size + 1, 0, none⟩) (World.block_lt_of_cell? W0 _ Q3.out)).trans Q3.out; have R2 := Lib.hid q2; have R3 := Lib.hid q3; clear hb1))
              refine bodyPost_ret (by simp [results, Try.results6, go_sem]; try rfl) rfl ?_
              exact ⟨by rw [HF.out], B6.out⟩
        · have k1 : (e1 != 0) = true := by simpa [bne] using he
          have HF : Hid (R = (at1, e1)) := Lib.hid (by rw [HD1.out, H1.out, HRG.out]; show (bif (e1 != 0) then _ else _) = _; rw [k1]; rfl)
          go_enter Try.func6, Try.ntmps6
          go_wp2_with (first | (go_at_call 15; refine (regions_any l (by omega) A c w1 (inss_below HSh.out B1.out)).mono ?_; rintro e w2 ⟨A2, c2, rfl, hr2, hb2⟩; rw [HRG.out] at hr2 ⊢; clear q2 q3; have B2 := Lib.hid (B1.out.trans (hb2.mono B1.out.size)); have HR2 := Lib.hid hr2; have q2 := (hb2.cell (p := ⟨W.heap.size, 0, none⟩) (World.block_lt_of_cell? w1 _ R2.out)).trans R2.out; have q3 := (hb2.cell (p := ⟨W.heap.size + 1, 0, none⟩) (World.block_lt_of_cell? w1 _ R3.out)).trans R3.out; have S2 := Lib.hid q2; have S3 := Lib.hid q3; have B3 := Lib.hid (B2.out.alloc B2.out.size (.cells #[.slice A2 ins.length c2] 47)); have g2 : (w2.alloc (.cells #[.slice A2 ins.length c2] 47)).cell? ⟨W.heap.size, 0, none⟩ = some (.slice A l.length c) := (((Below.refl _ _).alloc (Nat.le_refl w2.heap.size) _).cell (p := ⟨W.heap.size, 0, none⟩) (World.block_lt_of_cell? w2 _ q2)).trans q2; have g3 : (w2.alloc (.cells #[.slice A2 ins.length c2] 47)).cell? ⟨W.heap.size + 1, 0, none⟩ = some (.int .i64 t) := (((Below.refl _ _).alloc (Nat.le_refl w2.heap.size) _).cell (p := ⟨W.heap.size + 1, 0, none⟩) (World.block_lt_of_cell? w2 _ q3)).trans q3; have g8 : (w2.alloc (.cells #[.slice A2 ins.length c2] 47)).cell? ⟨w2.heap.size, 0, none⟩ = some (.slice A2 ins.length c2) := hp_cell (heap_alloc_new w2 _) 0; have HI3 := Lib.hid (ints_below (irow_cap hr2).2.2 ((Below.refl _ _).alloc (Nat.le_refl w2.heap.size) (.cells #[.slice A2 ins.length c2] 47))); have G2 := Lib.hid g2; have G3 := Lib.hid g3; have G8 := Lib.hid g8; clear hr2 hb2) | (go_at_call 13; (try rw [hW0]); (with_reducible refine (first_any 14 #[] (p1F l) l A c (by omega) W0 (inss_below HSh.out HB0.out) enter1 ?hf).mono ?_); (case hf => exact fun i hi w1 hb => check1_any (i : Int) (xn l i) (HXO.out i hi) w1); rintro e w1 ⟨rfl, hb1⟩; rw [H1.out]; clear q2 q3; have B1 := Lib.hid (HB0.out.trans (hb1.mono HB0.out.size)); have q2 := (hb1.cell (p := ⟨W.heap.size, 0, none⟩) (World.block_lt_of_cell? W0 _ Q2.out)).trans Q2.out; have q3 := (hb1.cell (p := ⟨W.heap.size + 1, 0, none⟩) (World.block_lt_of_cell? W0 _ Q3.out)).trans Q3.out; have R2 := Lib.hid q2; have R3 := Lib.hid q3; clear hb1))
          refine bodyPost_ret (by simp [results, Try.results6, go_sem]; try rfl) rfl ?_
          exact ⟨by rw [HF.out], B3.out⟩
end Go.Proofs.Ytbfjnanakmiaaaa
