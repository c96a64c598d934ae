
/-
  SpecHangs: the walk up to the two runs.
-/
import Derived.Test.YtlgpjcdlomhlcaaHg1
import Derived.Test.YtlgpjcdlomhlcaaCk8
import Derived.Test.YtlgpjcdlomhlcaaSp36
import Derived.Test.YtlgpjcdlomhlcaaSp22
import Derived.Test.YtlgpjcdlomhlcaaSp23
namespace Go.Proofs.Ytlgpjcdlomhlcaa
open Go.RowKit Go.ChangeShapes Go.WideShapes
set_option linter.unusedSimpArgs false
set_option linter.unusedVariables false

/-- Is a variable named by one of the first i instructions? -/
def namB (l : List Ins3) : Nat → Nat → Bool | 0, _ => false | i + 1, t => namB l i t || (((xn l i).op == 4 || (xn l i).op == 5) && (xn l i).arg == (t : Int))
theorem namB_mem {l : List Ins3} {k t : Nat} (ho : (xn l k).op = 4 ∨ (xn l k).op = 5) (ha : (xn l k).arg = (t : Int)) : ∀ i, k < i → namB l i t = true := by
  intro i
  induction i with
  | zero => intro h; omega
  | succ i ih =>
    intro h
    unfold namB
    rcases Nat.lt_or_ge k i with hk | hk
    · rw [ih hk]; rfl
    · obtain rfl : k = i := by omega
      rw [ha]
      rcases ho with e | e <;> rw [e] <;> simp
/-- The block of the names. -/
structure NmX (W w : World) (g : Nat) (nm : List Bool) : Prop where
  hp : w.heap[g]? = some (.cells (boolsC nm).toArray 50 (0, 0))
  len : nm.length = 12
  bl : Below W.heap.size W w
  hi : W.heap.size ≤ g
section
variable {W w w1 : World} {g : Nat} {nm : List Bool}
theorem NmX.below (h : NmX W w g nm) (hb : Below w.heap.size w w1) : NmX W w1 g nm := ⟨hp_below h.hp hb, h.len, h.bl.trans (hb.mono h.bl.size), h.hi⟩
theorem NmX.set (h : NmX W w g nm) (i : Nat) (v : Bool) : NmX W (w.setCell ⟨g, i, none⟩ (.bool v)) g (nm.set i v) := by
  refine ⟨?_, by rw [List.length_set]; exact h.len, bl_new h.bl h.hi _, h.hi⟩
  exact hp_put h.hp i (.bool v) (by unfold boolsC; simp [List.map_set])
theorem NmX.cell (h : NmX W w g nm) {i : Nat} (hi : i < 12) : w.cell? ⟨g, i, none⟩ = some (.bool (lvAt nm i)) := by
  rw [hp_cell h.hp]
  have hl := h.len
  simp [boolsC, lv_get (hp := nm) (i := i) (by omega)]
theorem NmX.fz (h : NmX W w g nm) (i : Nat) : w.frozen? ⟨g, i, none⟩ = false := hp_frozen h.hp i
end
theorem ne_of_beq {a b : Int} (h : (a == b) = false) : a ≠ b := by simpa using h
structure AbX (W w : World) (gn : Nat) (nm : List Bool) (Aa : Option Addr) (ca : Nat) (la : List Int) (Ab : Option Addr) (cb : Nat) (lb : List Int) : Prop where
  nm : NmX W w gn nm
  ra : RowAt w W.heap.size Aa ca la
  rb : RowAt w W.heap.size Ab cb lb
  d : ∀ k, blk Aa = some k → blk Ab ≠ some k
section
variable {W w w1 w2 : World} {gn : Nat} {nm : List Bool} {Aa Ab A2 : Option Addr} {ca cb c2 : Nat} {la lb l2 : List Int}
theorem AbX.below (h : AbX W w gn nm Aa ca la Ab cb lb) (hb : Below w.heap.size w w1) : AbX W w1 gn nm Aa ca la Ab cb lb := ⟨h.nm.below hb, row_below h.ra hb, row_below h.rb hb, h.d⟩
theorem AbX.alloc (h : AbX W w gn nm Aa ca la Ab cb lb) (o : Obj) : AbX W (w.alloc o) gn nm Aa ca la Ab cb lb := h.below ((Below.refl _ _).alloc (Nat.le_refl _) o)
theorem nm_grown (h : NmX W w gn nm) (hr : RowAt w W.heap.size Aa ca la) (hg : w.grownBy w2 (blk Aa)) : NmX W w2 gn nm :=
  ⟨hp_grown h.hp hg (fun e => by
    obtain ⟨cs', hc⟩ := row_typed hr gn e.symm
    exact hp_ne hc h.hp (by decide) rfl), h.len, h.bl.grown hg h.bl.size (fun k hk => (row_lt hr k hk).1), h.hi⟩
theorem AbX.pushA (h : AbX W w gn nm Aa ca la Ab cb lb) (hr : RowAt w2 W.heap.size A2 c2 l2) (hg : w.grownBy w2 (blk Aa)) (hat : blk A2 = blk Aa ∨ blk A2 = some w.heap.size) : AbX W w2 gn nm A2 c2 l2 Ab cb lb :=
  ⟨nm_grown h.nm h.ra hg, hr, row_other h.rb hg (fun k hk e => h.d k e.symm hk), fun k hk e => by
    rcases hat with hat | hat
    · exact h.d k (hat ▸ hk) e
    · rw [hat] at hk; have := (row_lt h.rb k e).2; simp at hk; omega⟩
theorem AbX.pushB (h : AbX W w gn nm Aa ca la Ab cb lb) (hr : RowAt w2 W.heap.size A2 c2 l2) (hg : w.grownBy w2 (blk Ab)) (hat : blk A2 = blk Ab ∨ blk A2 = some w.heap.size) : AbX W w2 gn nm Aa ca la A2 c2 l2 :=
  ⟨nm_grown h.nm h.rb hg, row_other h.ra hg (fun k hk e => h.d k hk e.symm), hr, fun k hk e => by
    rcases hat with hat | hat
    · exact h.d k hk (hat ▸ e)
    · rw [hat] at e; have := (row_lt h.ra k hk).2; simp at e; omega⟩
end
theorem runF_len {w : World} {A : Option Addr} {l : List Ins3} (hi : InssAt w A l) (f : Nat) : ∀ (q : Nat) (s : St) (hp : List Int) (arms : List Bool), s.stk.length ≤ 100 → s.out.length ≤ 100 → (runF l f q s hp arms).s.stk.length ≤ 100 ∧ (runF l f q s hp arms).s.out.length ≤ 100 := by
  intro q
  induction q with
  | zero =>
    intro s hp arms h1 h2
    have hg := goF_len hi f s h1 h2
    unfold runF
    split <;> exact ⟨hg.1, hg.2.1⟩
  | succ q ih =>
    intro s hp arms h1 h2
    have hg := goF_len hi f s h1 h2
    have ho := ocF_len (l := l) (hp := hp) (k := f) hg.1 hg.2.1
    unfold runF
    split
    · split
      · exact ih _ _ _ ho.1 ho.2.1
      · exact ⟨ho.1, ho.2.1⟩
    · exact ⟨hg.1, hg.2.1⟩
theorem hv_out {l : List Int} {t : Nat} (h : l.length ≤ t) : hvAt l t = 0 := by unfold hvAt; rw [List.getElem?_eq_none h]; rfl
theorem vc_at {w : World} {A : Option Addr} {l : List Int} (h : VCells w A l) {t : Nat} (ht : t < l.length) : ∃ b, A = some b ∧ w.cell? (b.add t) = some (.int .u64 (hvAt l t)) := by
  cases hA : A with
  | none => have := h.2.1 hA; subst this; simp at ht
  | some b => exact ⟨b, rfl, h.2.2 b hA t _ (by rw [valsC_get, hv_get ht]; rfl)⟩
theorem vc_w {w : World} {A : Option Addr} {l : List Int} (h : VCells w A l) (t : Nat) : W64 (hvAt l t) := by
  rcases Nat.lt_or_ge t l.length with ht | ht
  · exact h.1 _ (List.mem_of_getElem? (hv_get ht))
  · rw [hv_out ht]; exact ⟨by decide, by decide⟩
theorem hv_app {l : List Int} {v : Int} {i : Nat} : hvAt (l ++ [v]) i = if i < l.length then hvAt l i else if i = l.length then v else 0 := by
  unfold hvAt
  rcases Nat.lt_trichotomy i l.length with h | h | h
  · rw [if_pos h, List.getElem?_append_left h]
  · rw [if_neg (by omega), if_pos h, h]; simp
  · rw [if_neg (by omega), if_neg (by omega), List.getElem?_eq_none (by simp; omega)]; rfl
set_option maxRecDepth 100000 in
set_option maxHeartbeats 16000000 in
theorem specHangs_walk (W : World) (a0 : Option Addr) (n0 c0 : Nat) (h0 : InsIn W a0 n0 c0) (a1 : Option Addr) (n1 c1 : Nat) (h1 : VIn W a1 n1 c1) (a2 : Option Addr) (n2 c2 : Nat) (h2 : VIn W a2 n2 c2) : Calls Try.prog 5 #[.slice a0 n0 c0, .slice a1 n1 c1, .slice a2 n2 c2] W fun e w' => e = .returned (.bool true) ∧ Below W.heap.size W w' := by
  obtain ⟨l0, rfl, hil, hc0, _⟩ := h0
  obtain ⟨hp1, hn1, hv1, _, _⟩ := h1
  obtain ⟨hp2, hn2, hv2, _, _⟩ := h2
  have hfl : (fewL l0).length ≤ 64 := by unfold fewL; rw [List.length_take]; omega
  have hflc : (fewL l0).length ≤ c0 := by unfold fewL; rw [List.length_take]; omega
  have hI : InssAt W a0 (fewL l0) := inss_take hil 64
  have HFW := Lib.hid (show ∀ w : World, Calls Try.prog 11 #[.slice a0 l0.length c0] w fun e w' => e = .returned (.slice a0 (fewL l0).length c0) ∧ w = w' from fun w => few17 a0 c0 l0 hc0 w)
  obtain ⟨l, hl⟩ : ∃ l, fewL l0 = l := ⟨_, rfl⟩
  rw [hl] at HFW hfl hflc hI
  obtain ⟨n0, hn0⟩ : ∃ n, l0.length = n := ⟨_, rfl⟩
  rw [hn0] at HFW
  rw [hn0]
  clear hl hn0 hil hc0
  have HI := Lib.hid hI
  have HV1 := Lib.hid hv1
  have HV2 := Lib.hid hv2
  have HN1 := Lib.hid hn1
  have HN2 := Lib.hid hn2
  obtain ⟨nl, hnl⟩ : ∃ n, l.length = n := ⟨_, rfl⟩
  have HNL := Lib.hid hnl
  rw [hnl] at HFW hfl hflc
  have HFL := Lib.hid (And.intro hfl hflc)
  clear hI hv1 hv2 hn1 hn2 hnl hfl hflc
  have X0 := Lib.hid (show NmX W (W.alloc (.cells (boolsC (List.replicate 12 false)).toArray 50)) W.heap.size (List.replicate 12 false) from ⟨heap_alloc_new W _, rfl, (Below.refl _ _).alloc (Nat.le_refl _) _, Nat.le_refl _⟩)
  rw [show (boolsC (List.replicate 12 false)).toArray = #[.bool false, .bool false, .bool false, .bool false, .bool false, .bool false, .bool false, .bool false, .bool false, .bool false, .bool false, .bool false] from rfl] at X0
  go_enter Try.func5, Try.ntmps5
  go_upto_region 4 with (go_at_call 11; refine (HFW.out _).mono ?_; rintro e w' ⟨rfl, rfl⟩)
  generalize World.alloc _ _ = w1 at X0 ⊢
  generalize W.heap.size = gn at X0 ⊢
  go_wp2_with fail
  go_loopg [10, 11] nl (fun gm s10 s11 wx => ∃ j : Nat, j ≤ nl ∧ gm = nl - j ∧ s10 = .int .i64 j ∧ ∃ nm : List Bool, Hid (NmX W wx gn nm) ∧ Hid ((∀ t, t < 12 → lvAt nm t = namB l j t) ∧ ∀ k, k < j → (xn l k).op ≠ 6 ∧ (xn l k).op ≠ 7))
  case atStart => exact ⟨0, Nat.zero_le _, rfl, rfl, _, X0, Lib.hid ⟨fun t ht => by unfold lvAt namB; rw [List.getElem?_replicate, if_pos ht]; rfl, fun k hk => absurd hk (Nat.not_lt_zero _)⟩⟩
  case round =>
    clear X0
    obtain ⟨j, hj, rfl, rfl, nm, NX, HNM⟩ := hrel
    by_cases hjl : j < nl
    · have s1 : decide ((j : Int) < (nl : Int)) = true := decide_eq_true (by omega)
      have s2 : decide (j < nl) = true := decide_eq_true hjl
      have s3 : (j : Int) < (nl : Int) := by omega
      have s4 : (0 : Int) ≤ (j : Int) := by omega
      have s5 : wrap64 ((j : Int) + 1) = (j : Int) + 1 := by have := HFL.out; unfold wrap64; omega
      obtain ⟨ad, rfl, hin, lad, la⟩ := inss_in HI.out NX.out.bl (i := j) (by have := HNL.out; omega)
      obtain ⟨⟨op, ag, vv⟩, hop⟩ : ∃ x, xn l j = x := ⟨_, rfl⟩
      rw [hop] at hin
      obtain ⟨hok, b0, b1, b2⟩ := hin
      dsimp only at b0 b1 b2
      have HJ := Lib.hid (show j + 1 ≤ nl ∧ nl - (j + 1) < nl - j by omega)
      have HOP := Lib.hid hop
      have HNS := Lib.hid (show ∀ t, namB l (j + 1) t = (namB l j t || ((op == 4 || op == 5) && ag == (t : Int))) from fun t => by conv => lhs; unfold namB; rw [hop])
      clear hj hjl hop hok
      go_upto_region 8 with fail
      have X3 := Lib.hid (heap_alloc_new wr (.cells #[.int .u8 op, .int .i64 ag, .int .u64 vv] 42))
      have NX3 := Lib.hid (NX.out.below ((Below.refl _ _).alloc (Nat.le_refl _) (.cells #[.int .u8 op, .int .i64 ag, .int .u64 vv] 42)))
      clear b0 b1 b2 lad la NX
      generalize World.alloc _ _ = w3 at X3 NX3 ⊢
      generalize wr.heap.size = xi at X3 ⊢
      have b0 : w3.cell? ⟨xi, 0, none⟩ = some (.int .u8 op) := hp_cell X3.out 0
      have b1 : w3.cell? ⟨xi, 1, none⟩ = some (.int .i64 ag) := hp_cell X3.out 1
      have lx := hp_lt X3.out
      cases k6 : (op == 6)
      · cases k7 : (op == 7)
        · cases k4 : (op == 4)
          · cases k5 : (op == 5)
            · have HNM2 := Lib.hid (show (∀ t, t < 12 → lvAt nm t = namB l (j + 1) t) ∧ ∀ k, k < j + 1 → (xn l k).op ≠ 6 ∧ (xn l k).op ≠ 7 from ⟨fun t ht => by rw [HNS.out, HNM.out.1 t ht, k4, k5]; simp, fun k hk => by
                rcases Nat.lt_or_ge k j with h | h
                · exact HNM.out.2 k h
                · obtain rfl : k = j := by omega
                  rw [HOP.out]
                  exact ⟨ne_of_beq k6, ne_of_beq k7⟩⟩)
              go_wp2_with fail
              go_roundg (nl - (j + 1))
              case measure => exact HJ.out.2
              case rel => exact ⟨j + 1, HJ.out.1, rfl, by first | rfl | (rw [s5]; rfl), nm, Lib.hid NX3.out, HNM2⟩
            · by_cases g0 : ag ≥ 0
              · have d1 : decide (ag ≥ 0) = true := decide_eq_true g0
                have d2 : decide ((0 : Int) ≤ ag) = true := d1
                by_cases g1 : ag < 12
                · have d3 : decide (ag < 12) = true := decide_eq_true g1
                  obtain ⟨m, hm⟩ : ∃ m : Nat, ag = (m : Int) := ⟨ag.toNat, by omega⟩
                  have hm12 : m < 12 := by omega
                  subst hm
                  have d4 : decide (m < 12) = true := decide_eq_true hm12
                  have d5 : (m : Int) < 12 := by omega
                  have d6 : (0 : Int) ≤ (m : Int) := by omega
                  have c1 := NX3.out.cell hm12
                  have c2 := NX3.out.fz m
                  have c3 := hp_lt NX3.out.hp
                  have HM := Lib.hid hm12
                  clear g0 g1 hm12
                  have HNM2 := Lib.hid (show (∀ t, t < 12 → lvAt (nm.set m true) t = namB l (j + 1) t) ∧ ∀ k, k < j + 1 → (xn l k).op ≠ 6 ∧ (xn l k).op ≠ 7 from ⟨fun t ht => by
                      rw [HNS.out, k5]
                      rcases Decidable.em (m = t) with rfl | e
                      · rw [lv_set (by rw [NX3.out.len]; exact ht)]; simp
                      · rw [lv_set_ne e, HNM.out.1 t ht]; have e2 : ((m : Int) == (t : Int)) = false := beq_eq_false_iff_ne.2 (by omega)
                        rw [e2]; simp, fun k hk => by
                    rcases Nat.lt_or_ge k j with h | h
                    · exact HNM.out.2 k h
                    · obtain rfl : k = j := by omega
                      rw [HOP.out]
                      exact ⟨ne_of_beq k6, ne_of_beq k7⟩⟩)
                  go_wp2_with fail
                  go_roundg (nl - (j + 1))
                  case measure => exact HJ.out.2
                  case rel => exact ⟨j + 1, HJ.out.1, rfl, by first | rfl | (rw [s5]; rfl), (nm.set m true), Lib.hid (NX3.out.set m true), HNM2⟩
                · have d3 : decide (ag < 12) = false := decide_eq_false g1
                  have HG := Lib.hid g1
                  clear g0 g1
                  have HNM2 := Lib.hid (show (∀ t, t < 12 → lvAt nm t = namB l (j + 1) t) ∧ ∀ k, k < j + 1 → (xn l k).op ≠ 6 ∧ (xn l k).op ≠ 7 from ⟨fun t ht => by
                      have e2 : (ag == (t : Int)) = false := by have := HG.out; simp; omega
                      rw [HNS.out, HNM.out.1 t ht, e2]; simp, fun k hk => by
                    rcases Nat.lt_or_ge k j with h | h
                    · exact HNM.out.2 k h
                    · obtain rfl : k = j := by omega
                      rw [HOP.out]
                      exact ⟨ne_of_beq k6, ne_of_beq k7⟩⟩)
                  go_wp2_with fail
                  go_roundg (nl - (j + 1))
                  case measure => exact HJ.out.2
                  case rel => exact ⟨j + 1, HJ.out.1, rfl, by first | rfl | (rw [s5]; rfl), nm, Lib.hid NX3.out, HNM2⟩
              · have d1 : decide (ag ≥ 0) = false := decide_eq_false g0
                have d2 : decide ((0 : Int) ≤ ag) = false := d1
                have HG := Lib.hid g0
                clear g0
                have HNM2 := Lib.hid (show (∀ t, t < 12 → lvAt nm t = namB l (j + 1) t) ∧ ∀ k, k < j + 1 → (xn l k).op ≠ 6 ∧ (xn l k).op ≠ 7 from ⟨fun t ht => by
                    have e2 : (ag == (t : Int)) = false := by have := HG.out; simp; omega
                    rw [HNS.out, HNM.out.1 t ht, e2]; simp, fun k hk => by
                  rcases Nat.lt_or_ge k j with h | h
                  · exact HNM.out.2 k h
                  · obtain rfl : k = j := by omega
                    rw [HOP.out]
                    exact ⟨ne_of_beq k6, ne_of_beq k7⟩⟩)
                go_wp2_with fail
                go_roundg (nl - (j + 1))
                case measure => exact HJ.out.2
                case rel => exact ⟨j + 1, HJ.out.1, rfl, by first | rfl | (rw [s5]; rfl), nm, Lib.hid NX3.out, HNM2⟩
          · by_cases g0 : ag ≥ 0
            · have d1 : decide (ag ≥ 0) = true := decide_eq_true g0
              have d2 : decide ((0 : Int) ≤ ag) = true := d1
              by_cases g1 : ag < 12
              · have d3 : decide (ag < 12) = true := decide_eq_true g1
                obtain ⟨m, hm⟩ : ∃ m : Nat, ag = (m : Int) := ⟨ag.toNat, by omega⟩
                have hm12 : m < 12 := by omega
                subst hm
                have d4 : decide (m < 12) = true := decide_eq_true hm12
                have d5 : (m : Int) < 12 := by omega
                have d6 : (0 : Int) ≤ (m : Int) := by omega
                have c1 := NX3.out.cell hm12
                have c2 := NX3.out.fz m
                have c3 := hp_lt NX3.out.hp
                have HM := Lib.hid hm12
                clear g0 g1 hm12
                have HNM2 := Lib.hid (show (∀ t, t < 12 → lvAt (nm.set m true) t = namB l (j + 1) t) ∧ ∀ k, k < j + 1 → (xn l k).op ≠ 6 ∧ (xn l k).op ≠ 7 from ⟨fun t ht => by
                    rw [HNS.out, k4]
                    rcases Decidable.em (m = t) with rfl | e
                    · rw [lv_set (by rw [NX3.out.len]; exact ht)]; simp
                    · rw [lv_set_ne e, HNM.out.1 t ht]; have e2 : ((m : Int) == (t : Int)) = false := beq_eq_false_iff_ne.2 (by omega)
                      rw [e2]; simp, fun k hk => by
                  rcases Nat.lt_or_ge k j with h | h
                  · exact HNM.out.2 k h
                  · obtain rfl : k = j := by omega
                    rw [HOP.out]
                    exact ⟨ne_of_beq k6, ne_of_beq k7⟩⟩)
                go_wp2_with fail
                go_roundg (nl - (j + 1))
                case measure => exact HJ.out.2
                case rel => exact ⟨j + 1, HJ.out.1, rfl, by first | rfl | (rw [s5]; rfl), (nm.set m true), Lib.hid (NX3.out.set m true), HNM2⟩
              · have d3 : decide (ag < 12) = false := decide_eq_false g1
                have HG := Lib.hid g1
                clear g0 g1
                have HNM2 := Lib.hid (show (∀ t, t < 12 → lvAt nm t = namB l (j + 1) t) ∧ ∀ k, k < j + 1 → (xn l k).op ≠ 6 ∧ (xn l k).op ≠ 7 from ⟨fun t ht => by
                    have e2 : (ag == (t : Int)) = false := by have := HG.out; simp; omega
                    rw [HNS.out, HNM.out.1 t ht, e2]; simp, fun k hk => by
                  rcases Nat.lt_or_ge k j with h | h
                  · exact HNM.out.2 k h
                  · obtain rfl : k = j := by omega
                    rw [HOP.out]
                    exact ⟨ne_of_beq k6, ne_of_beq k7⟩⟩)
                go_wp2_with fail
                go_roundg (nl - (j + 1))
                case measure => exact HJ.out.2
                case rel => exact ⟨j + 1, HJ.out.1, rfl, by first | rfl | (rw [s5]; rfl), nm, Lib.hid NX3.out, HNM2⟩
            · have d1 : decide (ag ≥ 0) = false := decide_eq_false g0
              have d2 : decide ((0 : Int) ≤ ag) = false := d1
              have HG := Lib.hid g0
              clear g0
              have HNM2 := Lib.hid (show (∀ t, t < 12 → lvAt nm t = namB l (j + 1) t) ∧ ∀ k, k < j + 1 → (xn l k).op ≠ 6 ∧ (xn l k).op ≠ 7 from ⟨fun t ht => by
                  have e2 : (ag == (t : Int)) = false := by have := HG.out; simp; omega
                  rw [HNS.out, HNM.out.1 t ht, e2]; simp, fun k hk => by
                rcases Nat.lt_or_ge k j with h | h
                · exact HNM.out.2 k h
                · obtain rfl : k = j := by omega
                  rw [HOP.out]
                  exact ⟨ne_of_beq k6, ne_of_beq k7⟩⟩)
              go_wp2_with fail
              go_roundg (nl - (j + 1))
              case measure => exact HJ.out.2
              case rel => exact ⟨j + 1, HJ.out.1, rfl, by first | rfl | (rw [s5]; rfl), nm, Lib.hid NX3.out, HNM2⟩
        · go_wp2_with (go_at_call 14; refine (live_any _).mono ?_; rintro e w8 ⟨rfl, hb8⟩; have B8 := Lib.hid (NX3.out.bl.trans (hb8.mono NX3.out.bl.size)); clear hb8)
          go_ret
          exact ⟨rfl, B8.out⟩
      · have k7 : (op == 7) = false := by rw [eq_of_beq k6]; rfl
        go_wp2_with (go_at_call 14; refine (live_any _).mono ?_; rintro e w8 ⟨rfl, hb8⟩; have B8 := Lib.hid (NX3.out.bl.trans (hb8.mono NX3.out.bl.size)); clear hb8)
        go_ret
        exact ⟨rfl, B8.out⟩
    · obtain rfl : j = nl := by omega
      have s1 : decide ((j : Int) < (j : Int)) = false := decide_eq_false (by omega)
      have s2 : decide (j < j) = false := decide_eq_false (by omega)
      clear hj hjl
      go_wp2_with fail
      go_loopg [7, 8, 12, 13, 14] 12 (fun gm s7 s8 s12 s13 s14 wx => ∃ (t : Nat) (Aa : Option Addr) (ca : Nat) (la : List Int) (Ab : Option Addr) (cb : Nat) (lb : List Int), t ≤ 12 ∧ gm = 12 - t ∧ s7 = .slice Aa la.length ca ∧ s8 = .slice Ab lb.length cb ∧ s12 = .int .i64 t ∧ Hid (la.length = t ∧ lb.length = t ∧ ∀ i, i < t → hvAt la i = hvAt hp1 i ∧ hvAt lb i = if lvAt nm i = true then hvAt hp1 i else hvAt hp2 i) ∧ Hid (AbX W wx gn nm Aa ca la Ab cb lb))
      case atStart => exact ⟨0, none, 0, [], none, 0, [], Nat.zero_le _, rfl, rfl, rfl, rfl, Lib.hid ⟨rfl, rfl, fun i hi => absurd hi (Nat.not_lt_zero _)⟩, Lib.hid ⟨NX.out, row_nil _ _, row_nil _ _, fun k hk => by simp [blk] at hk⟩⟩
      case round =>
        clear NX
        obtain ⟨t, Aa, ca, la, Ab, cb, lb, ht, rfl, rfl, rfl, rfl, HLA, AX⟩ := hrel
        by_cases htl : t < 12
        · have r1 : decide ((t : Int) < 12) = true := decide_eq_true (by omega)
          have r2 : decide (t < 12) = true := decide_eq_true htl
          have r3 : (t : Int) < 12 := by omega
          have r4 : (0 : Int) ≤ (t : Int) := by omega
          have r5 : wrap64 ((t : Int) + 1) = (t : Int) + 1 := by unfold wrap64; omega
          have HT := Lib.hid htl
          obtain ⟨x, HXV⟩ : ∃ x, Hid (hvAt hp1 t = x) := ⟨_, Lib.hid rfl⟩
          obtain ⟨y, HYV⟩ : ∃ x, Hid (hvAt hp2 t = x) := ⟨_, Lib.hid rfl⟩
          obtain ⟨nb, HNB⟩ : ∃ x, Hid (lvAt nm t = x) := ⟨_, Lib.hid rfl⟩
          obtain ⟨z, HZV⟩ : ∃ q, Hid ((if nb = true then x else y) = q) := ⟨_, Lib.hid rfl⟩
          have HX := Lib.hid (show W64 x by rw [← HXV.out]; exact vc_w HV1.out t)
          have HY := Lib.hid (show W64 y by rw [← HYV.out]; exact vc_w HV2.out t)
          have HZ := Lib.hid (show W64 z by rw [← HZV.out]; split; exact HX.out; exact HY.out)
          obtain ⟨la2, HA2⟩ : ∃ q, Hid (la ++ [x] = q) := ⟨_, Lib.hid rfl⟩
          obtain ⟨lb2, HB2⟩ : ∃ q, Hid (lb ++ [z] = q) := ⟨_, Lib.hid rfl⟩
          clear ht htl
          go_upto_if 69 with fail
          go_cut [13] (fun s9 wx => wr = wx ∧ s9 = .int .u64 x)
          case first =>
            by_cases hlt : t < n1
            · have e1 : decide ((t : Int) < (n1 : Int)) = true := decide_eq_true (by omega)
              have e2 : decide (t < n1) = true := decide_eq_true hlt
              have e3 : (t : Int) < (n1 : Int) := by omega
              obtain ⟨ba, eb, xb⟩ := vc_at (vcells_below HV1.out AX.out.nm.bl) (t := t) (by rw [HN1.out]; exact hlt)
              subst eb
              have lb0 := World.block_lt_of_cell? wr _ xb
              rw [HXV.out] at xb
              clear hlt
              go_wp2_with fail
              go_meet
              exact ⟨rfl, rfl⟩
            · have e1 : decide ((t : Int) < (n1 : Int)) = false := decide_eq_false (by omega)
              have e2 : decide (t < n1) = false := decide_eq_false hlt
              have E := Lib.hid (show x = 0 by rw [← HXV.out]; exact hv_out (by rw [HN1.out]; omega))
              go_wp2_with fail
              go_meet
              exact ⟨rfl, by rw [E.out]⟩
          obtain ⟨rfl, rfl⟩ := hcut
          go_upto_if 77 with fail
          go_cut [14] (fun s9 wx => wr = wx ∧ s9 = .int .u64 y)
          case first =>
            by_cases hlt : t < n2
            · have e1 : decide ((t : Int) < (n2 : Int)) = true := decide_eq_true (by omega)
              have e2 : decide (t < n2) = true := decide_eq_true hlt
              have e3 : (t : Int) < (n2 : Int) := by omega
              obtain ⟨ba, eb, xb⟩ := vc_at (vcells_below HV2.out AX.out.nm.bl) (t := t) (by rw [HN2.out]; exact hlt)
              subst eb
              have lb0 := World.block_lt_of_cell? wr _ xb
              rw [HYV.out] at xb
              clear hlt
              go_wp2_with fail
              go_meet
              exact ⟨rfl, rfl⟩
            · have e1 : decide ((t : Int) < (n2 : Int)) = false := decide_eq_false (by omega)
              have e2 : decide (t < n2) = false := decide_eq_false hlt
              have E := Lib.hid (show y = 0 by rw [← HYV.out]; exact hv_out (by rw [HN2.out]; omega))
              go_wp2_with fail
              go_meet
              exact ⟨rfl, by rw [E.out]⟩
          obtain ⟨rfl, rfl⟩ := hcut
          have cn := AX.out.nm.cell HT.out
          rw [HNB.out] at cn
          have cl := hp_lt AX.out.nm.hp
          go_upto_if 84 with fail
          clear cn cl
          go_cut [14] (fun s9 wx => wr = wx ∧ s9 = .int .u64 z)
          case first =>
            cases hnb : nb
            · have E := Lib.hid (show z = y by rw [← HZV.out, hnb]; rfl)
              go_wp2_with fail
              go_meet
              exact ⟨rfl, by rw [E.out]⟩
            · have E := Lib.hid (show z = x by rw [← HZV.out, hnb]; rfl)
              go_wp2_with fail
              go_meet
              exact ⟨rfl, by rw [E.out]⟩
          obtain ⟨rfl, rfl⟩ := hcut
          have HLN := Lib.hid (show la2.length = t + 1 ∧ lb2.length = t + 1 ∧ ∀ i, i < t + 1 → hvAt la2 i = hvAt hp1 i ∧ hvAt lb2 i = if lvAt nm i = true then hvAt hp1 i else hvAt hp2 i by
            obtain ⟨q1, q2, q3⟩ := HLA.out
            refine ⟨by rw [← HA2.out]; simp [q1], by rw [← HB2.out]; simp [q2], fun i hi => ?_⟩
            rw [← HA2.out, ← HB2.out, hv_app, hv_app, q1, q2]
            rcases Nat.lt_or_ge i t with h | h
            · rw [if_pos h, if_pos h]; exact q3 i h
            · obtain rfl : i = t := by omega
              rw [if_neg (by omega), if_pos rfl, if_neg (by omega), if_pos rfl, HNB.out, HXV.out, HYV.out, HZV.out]
              exact ⟨rfl, rfl⟩)
          go_wp2_with (go_loud (first | (at_builtin; refine append_vals' (ok := fun _ => True) rfl (.tmp 86) (.tmp 88) rfl W.heap.size Aa ca la rfl (AX.out.alloc (.cells #[.int .u64 x] 25)).ra (some ⟨_, 0, none⟩) 1 [x] rfl (fun h => by cases h) (vals_lit' _ _ HX.out _ rfl) (by have := HT.out; have := HLA.out; simp; omega) (AX.out.alloc (.cells #[.int .u64 x] 25)).nm.bl.size la2 HA2.out ?_; intro A2 c2 w2 hr2 hg2 hat2; have X2 := Lib.hid ((AX.out.alloc (.cells #[.int .u64 x] 25)).pushA hr2 hg2 hat2); clear hr2 hg2 hat2) | (at_builtin; refine append_vals' (ok := fun _ => True) rfl (.tmp 90) (.tmp 92) rfl W.heap.size Ab cb lb rfl (X2.out.alloc (.cells #[.int .u64 z] 25)).rb (some ⟨_, 0, none⟩) 1 [z] rfl (fun h => by cases h) (vals_lit' _ _ HZ.out _ rfl) (by have := HT.out; have := HLA.out; simp; omega) (X2.out.alloc (.cells #[.int .u64 z] 25)).nm.bl.size lb2 HB2.out ?_; intro A3 c3 w3 hr3 hg3 hat3; have X3 := Lib.hid ((X2.out.alloc (.cells #[.int .u64 z] 25)).pushB hr3 hg3 hat3); clear hr3 hg3 hat3)))
          go_roundg (12 - (t + 1))
          case measure => have := HT.out; omega
          case rel => exact ⟨t + 1, A2, c2, la2, A3, c3, lb2, by have := HT.out; omega, rfl, rfl, rfl, by first | rfl | (rw [r5]; rfl), HLN, X3⟩
        · obtain rfl : t = 12 := by omega
          clear ht htl
          have HRLT := Lib.hid (show HRel (fun t => lvAt nm t) la lb la lb from ⟨rfl, by rw [HLA.out.1, HLA.out.2.1], fun t ht => by
            have h := HLA.out.2.2 t (by rw [HLA.out.1] at ht; exact ht)
            refine ⟨fun e => ?_, fun e => ⟨rfl, rfl⟩⟩
            rw [h.1, h.2, if_pos e]⟩)
          have HNO := Lib.hid (show ∀ i, i < l.length → rightI (xn l i) = true → NamesOk (fun t => lvAt nm t) la.length (xn l i) from fun i hi hr => by
            have h1 := HNM.out.2 i (by have := HNL.out; omega)
            have h2 := right_pts hr
            refine ⟨h1.1, h1.2, fun h45 => ?_⟩
            have h3 : limI (xn l i).op = 12 := by rcases h45 with e | e <;> (rw [e]; decide)
            have h4 : (xn l i).arg.toNat < 12 := by omega
            refine ⟨h2.2.1, by rw [HLA.out.1]; omega, ?_⟩
            show lvAt nm (xn l i).arg.toNat = true
            rw [HNM.out.1 _ h4]
            exact namB_mem h45 (by omega) j (by have := HNL.out; omega))
          have HOR := Lib.hid (run_rel HNO.out (fuelF 100).toNat 20 St.zero la lb [] HRLT.out)
          have HCK := Lib.hid (show ∀ w : World, Below W.heap.size W w → Calls Try.prog 19 #[.slice a0 j c0, .int .i64 12] w fun e w' => e = .returned (.tuple #[.int .i64 (ck15 l 12).1, .int .i64 (ck15 l 12).2]) ∧ Below w.heap.size w w' from fun w hb => by rw [← HNL.out]; exact check15 l (by have := HNL.out; have := HFL.out; omega) 12 a0 c0 w (inss_below HI.out hb))
          have HRA := Lib.hid (show ∀ w : World, Below W.heap.size W w → RowAt w W.heap.size Aa ca la → Calls Try.prog 17 #[.slice a0 j c0, .slice Aa la.length ca, .int .i64 100] w (OcPost (runF l (fuelF 100).toNat 20 St.zero la []) w) from fun w hb hr => by rw [← HNL.out]; exact run_all l c0 a0 (by have := HNL.out; have := HFL.out; omega) (by have := HNL.out; have := HFL.out; omega) la 100 (by have := HLA.out; omega) Aa ca w (Src.row hr (by have := HLA.out; omega)) (inss_below HI.out hb))
          have HRB := Lib.hid (show ∀ w : World, Below W.heap.size W w → RowAt w W.heap.size Ab cb lb → Calls Try.prog 17 #[.slice a0 j c0, .slice Ab lb.length cb, .int .i64 100] w (OcPost (runF l (fuelF 100).toNat 20 St.zero lb []) w) from fun w hb hr => by rw [← HNL.out]; exact run_all l c0 a0 (by have := HNL.out; have := HFL.out; omega) (by have := HNL.out; have := HFL.out; omega) lb 100 (by have := HLA.out; omega) Ab cb w (Src.row hr (by have := HLA.out; omega)) (inss_below HI.out hb))
          have HSL := Lib.hid (runF_len HI.out (fuelF 100).toNat 20 St.zero la [] (by decide) (by decide))
          obtain ⟨⟨ok, os, oh, oa, oe⟩, ho⟩ : ∃ o, runF l (fuelF 100).toNat 20 St.zero la [] = o := ⟨_, rfl⟩
          obtain ⟨⟨pk, ps, ph, pa, pe⟩, hp⟩ : ∃ o, runF l (fuelF 100).toNat 20 St.zero lb [] = o := ⟨_, rfl⟩
          rw [ho] at HRA HOR HSL
          rw [hp] at HRB HOR
          obtain ⟨q1, q2, _, q4, q5⟩ := HOR.out
          dsimp only at q1 q2 q4 q5 HSL
          subst q1 q2 q4
          have HHR := Lib.hid q5
          have HOL := Lib.hid (show oh.length = 12 ∧ ph.length = 12 by have h1 := q5.1; have h2 := q5.2.1; have := HLA.out; omega)
          unfold OcPost at HRA HRB
          obtain ⟨⟨p, er⟩, hck⟩ : ∃ c, ck15 l 12 = c := ⟨_, rfl⟩
          rw [hck] at HCK
          dsimp only at HCK
          clear ho hp q5 HOR hck
          by_cases he : er = 0
          case neg =>
            have y1 : (er != 0) = true := by simpa using he
            have y2 : (er == 0) = false := by simpa using he
            clear he
            go_wp2_with (first | (go_at_call 19; refine (HCK.out _ AX.out.nm.bl).mono ?_; rintro e w1 ⟨rfl, hb1⟩; have B1 := Lib.hid (AX.out.nm.bl.trans (hb1.mono AX.out.nm.bl.size)); clear hb1) | (go_at_call 14; refine (live_any _).mono ?_; rintro e w8 ⟨rfl, hb8⟩; have B8 := Lib.hid (B1.out.trans (hb8.mono B1.out.size)); clear hb8))
            go_ret
            exact ⟨rfl, B8.out⟩
          subst he
          go_upto_region 27 with (first | (go_at_call 19; refine (HCK.out _ AX.out.nm.bl).mono ?_; rintro e w4 ⟨rfl, hb4⟩; have AX4 := Lib.hid (AX.out.below hb4); clear hb4) | (go_at_call 17; have hz := AX5; clear hz; refine (HRB.out _ AX5.out.nm.bl AX5.out.rb).mono ?_; rintro e w6 ⟨hb6, B1, b1, B2, b2, B3, b3, Ba, ba, rfl, hat6⟩; unfold ocC; rw [HOL.out.2]; have AX6 := Lib.hid (AX5.out.below hb6); have P6 := Lib.hid hat6; have O6 := Lib.hid (And.intro (row_below O5.out.1 hb6) (And.intro (row_below O5.out.2.1 hb6) (row_below O5.out.2.2 hb6))); clear hb6 hat6) | (go_at_call 17; refine (HRA.out _ AX4.out.nm.bl AX4.out.ra).mono ?_; rintro e w5 ⟨hb5, A1, a1', A2, a2', A3, a3', Aq, aq, rfl, hat5⟩; unfold ocC; rw [HOL.out.1]; have AX5 := Lib.hid (AX4.out.below hb5); have O5 := Lib.hid (show RowAt w5 0 A1 a1' os.stk ∧ RowAt w5 0 A2 a2' os.out ∧ RowAt w5 0 A3 a3' oh from ⟨row_base hat5.2.1 (Nat.zero_le _), row_base hat5.2.2.1 (Nat.zero_le _), row_base hat5.2.2.2.1 (Nat.zero_le _)⟩); clear hb5 hat5))
          have z1 := (Below.refl w6.heap.size w6).alloc (Nat.le_refl _) (.cells #[.int .u8 ok, .int .i64 os.pc, .slice A1 os.stk.length a1', .int .u64 os.la, .int .u64 os.lb, .int .u64 os.lc, .int .u64 os.ld, .slice A2 os.out.length a2', .slice A3 12 a3', .slice Aq pa.length aq, .int .i64 oe] 46)
          have z2 := z1.alloc z1.size (.cells #[.int .u8 ok, .int .i64 os.pc, .slice B1 os.stk.length b1, .int .u64 os.la, .int .u64 os.lb, .int .u64 os.lc, .int .u64 os.ld, .slice B2 os.out.length b2, .slice B3 12 b3, .slice Ba pa.length ba, .int .i64 oe] 46)
          have X1 := Lib.hid (hp_alloc (heap_alloc_new w6 (.cells #[.int .u8 ok, .int .i64 os.pc, .slice A1 os.stk.length a1', .int .u64 os.la, .int .u64 os.lb, .int .u64 os.lc, .int .u64 os.ld, .slice A2 os.out.length a2', .slice A3 12 a3', .slice Aq pa.length aq, .int .i64 oe] 46)) (.cells #[.int .u8 ok, .int .i64 os.pc, .slice B1 os.stk.length b1, .int .u64 os.la, .int .u64 os.lb, .int .u64 os.lc, .int .u64 os.ld, .slice B2 os.out.length b2, .slice B3 12 b3, .slice Ba pa.length ba, .int .i64 oe] 46))
          have X2 := Lib.hid (show ((w6.alloc (.cells #[.int .u8 ok, .int .i64 os.pc, .slice A1 os.stk.length a1', .int .u64 os.la, .int .u64 os.lb, .int .u64 os.lc, .int .u64 os.ld, .slice A2 os.out.length a2', .slice A3 12 a3', .slice Aq pa.length aq, .int .i64 oe] 46)).alloc (.cells #[.int .u8 ok, .int .i64 os.pc, .slice B1 os.stk.length b1, .int .u64 os.la, .int .u64 os.lb, .int .u64 os.lc, .int .u64 os.ld, .slice B2 os.out.length b2, .slice B3 12 b3, .slice Ba pa.length ba, .int .i64 oe] 46)).heap[w6.heap.size + 1]? = some (.cells #[.int .u8 ok, .int .i64 os.pc, .slice B1 os.stk.length b1, .int .u64 os.la, .int .u64 os.lb, .int .u64 os.lc, .int .u64 os.ld, .slice B2 os.out.length b2, .slice B3 12 b3, .slice Ba pa.length ba, .int .i64 oe] 46 (0, 0)) from (congrArg _ (by simp)).trans (heap_alloc_new (w6.alloc (.cells #[.int .u8 ok, .int .i64 os.pc, .slice A1 os.stk.length a1', .int .u64 os.la, .int .u64 os.lb, .int .u64 os.lc, .int .u64 os.ld, .slice A2 os.out.length a2', .slice A3 12 a3', .slice Aq pa.length aq, .int .i64 oe] 46)) (.cells #[.int .u8 ok, .int .i64 os.pc, .slice B1 os.stk.length b1, .int .u64 os.la, .int .u64 os.lb, .int .u64 os.lc, .int .u64 os.ld, .slice B2 os.out.length b2, .slice B3 12 b3, .slice Ba pa.length ba, .int .i64 oe] 46)))
          have AX7 := Lib.hid (AX6.out.below z2)
          have O7 := Lib.hid (And.intro (row_below O6.out.1 z2) (And.intro (row_below O6.out.2.1 z2) (row_below O6.out.2.2 z2)))
          have P7 := Lib.hid (And.intro (row_below (row_base P6.out.2.1 (Nat.zero_le _)) z2) (And.intro (row_below (row_base P6.out.2.2.1 (Nat.zero_le _)) z2) (row_below (row_base P6.out.2.2.2.1 (Nat.zero_le _)) z2)))
          clear z1 z2 AX AX4 AX5 AX6 O5 O6 P6
          generalize World.alloc _ _ = w7 at X1 X2 AX7 O7 P7 ⊢
          obtain ⟨xo, hxo⟩ : ∃ x, w6.heap.size = x := ⟨_, rfl⟩
          obtain ⟨xp, hxp⟩ : ∃ x, w6.heap.size + 1 = x := ⟨_, rfl⟩
          rw [hxo] at X1
          rw [hxp] at X2
          rw [hxp, hxo]
          clear hxo hxp
          have e8 : w7.cell? ⟨xo, 8, none⟩ = some (.slice A3 12 a3') := hp_cell X1.out 8
          have f8 : w7.cell? ⟨xp, 8, none⟩ = some (.slice B3 12 b3) := hp_cell X2.out 8
          have el := hp_lt X1.out
          have fl := hp_lt X2.out
          go_wp2_with fail
          clear e8 f8 el fl
          go_loopg [19] 12 (fun gm s19 wx => ∃ t : Nat, t ≤ 12 ∧ gm = 12 - t ∧ s19 = .int .i64 t ∧ Hid (DrewN w7 wx))
          case atStart => exact ⟨0, Nat.zero_le _, rfl, rfl, Lib.hid (DrewN.refl _)⟩
          case round =>
            obtain ⟨t, ht, rfl, rfl, HD⟩ := hrel
            by_cases htl : t < 12
            · have r1 : decide ((t : Int) < 12) = true := decide_eq_true (by omega)
              have r2 : decide (t < 12) = true := decide_eq_true htl
              have r3 : (t : Int) < 12 := by omega
              have r4 : (0 : Int) ≤ (t : Int) := by omega
              have r5 : wrap64 ((t : Int) + 1) = (t : Int) + 1 := by unfold wrap64; omega
              have HT := Lib.hid htl
              have hdb := drew_below HD.out
              have e8 : wr.cell? ⟨xo, 8, none⟩ = some (.slice A3 12 a3') := hp_cell (drewN_hp HD.out X1.out) 8
              have f8 : wr.cell? ⟨xp, 8, none⟩ = some (.slice B3 12 b3) := hp_cell (drewN_hp HD.out X2.out) 8
              have el := hp_lt (drewN_hp HD.out X1.out)
              have fl := hp_lt (drewN_hp HD.out X2.out)
              have cn := (AX7.out.below hdb).nm.cell htl
              have cl := hp_lt (AX7.out.below hdb).nm.hp
              obtain ⟨ga, ea, ya, _, la'⟩ := row_head (AX7.out.below hdb).ra (i := t) (by have := HLA.out; omega)
              obtain ⟨gb, eb, yb, _, lb'⟩ := row_head (AX7.out.below hdb).rb (i := t) (by have := HLA.out; omega)
              obtain ⟨gc, ec, yc, _, lc'⟩ := row_head (row_below O7.out.2.2 hdb) (i := t) (by have := HOL.out; omega)
              obtain ⟨gd, ed, yd, _, ld'⟩ := row_head (row_below P7.out.2.2 hdb) (i := t) (by have := HOL.out; omega)
              subst ea
              subst eb
              subst ec
              subst ed
              have g1 : (t : Int) < (la.length : Int) := by have := HLA.out; omega
              have g2 : (t : Int) < (lb.length : Int) := by have := HLA.out; omega
              have hh := HHR.out.2.2 t (by have := HLA.out; omega)
              obtain ⟨va, hva⟩ : ∃ x, hvAt la t = x := ⟨_, rfl⟩
              obtain ⟨vb, hvb⟩ : ∃ x, hvAt lb t = x := ⟨_, rfl⟩
              obtain ⟨vc, hvc⟩ : ∃ x, hvAt oh t = x := ⟨_, rfl⟩
              obtain ⟨vd, hvd⟩ : ∃ x, hvAt ph t = x := ⟨_, rfl⟩
              obtain ⟨nb, hnb⟩ : ∃ x, lvAt nm t = x := ⟨_, rfl⟩
              rw [hva] at ya hh
              rw [hvb] at yb hh
              rw [hvc] at yc hh
              rw [hvd] at yd hh
              rw [hnb] at cn
              dsimp only at hh
              rw [hnb] at hh
              clear hva hvb hvc hvd hnb ht htl hdb
              cases nb
              · obtain ⟨rfl, rfl⟩ := hh.2 rfl
                clear hh
                go_upto_region 32 with fail
                go_quiet (fail)
                go_wp2_with fail
                go_roundg (12 - (t + 1))
                case measure => have := HT.out; omega
                case rel => exact ⟨t + 1, by have := HT.out; omega, rfl, by first | rfl | (rw [r5]; rfl), Lib.hid (drewN_more HD.out nq)⟩
              · obtain rfl := hh.1 rfl
                clear hh
                go_upto_region 32 with fail
                go_quiet (fail)
                go_wp2_with fail
                go_roundg (12 - (t + 1))
                case measure => have := HT.out; omega
                case rel => exact ⟨t + 1, by have := HT.out; omega, rfl, by first | rfl | (rw [r5]; rfl), Lib.hid (drewN_more HD.out nq)⟩
            · obtain rfl : t = 12 := by omega
              clear ht htl
              have hdb := drew_below HD.out
              have BD := Lib.hid (AX7.out.nm.bl.trans (hdb.mono AX7.out.nm.bl.size))
              have HSA := Lib.hid (show ∀ w : World, Below w7.heap.size w7 w → Calls Try.prog 15 #[.agg #[.int .i64 os.pc, .slice A1 os.stk.length a1', .int .u64 os.la, .int .u64 os.lb, .int .u64 os.lc, .int .u64 os.ld, .slice A2 os.out.length a2'], .agg #[.int .i64 os.pc, .slice B1 os.stk.length b1, .int .u64 os.la, .int .u64 os.lb, .int .u64 os.lc, .int .u64 os.ld, .slice B2 os.out.length b2]] w fun e w' => e = .returned (.bool true) ∧ Below w.heap.size w w' from fun w hb => by
                have hk : Below w7.heap.size w7 w := hb
                exact sameState_yes os A1 a1' A2 a2' B1 b1 B2 b2 w (Src.row (row_below O7.out.1 hk) (by have := HSL.out; omega)) (Src.row (row_below O7.out.2.1 hk) (by have := HSL.out; omega)) (Src.row (row_below P7.out.1 hk) (by have := HSL.out; omega)) (Src.row (row_below P7.out.2.1 hk) (by have := HSL.out; omega)))
              have HDB := Lib.hid hdb
              have X1r := Lib.hid (drewN_hp HD.out X1.out)
              have X2r := Lib.hid (drewN_hp HD.out X2.out)
              clear hdb
              go_wp2_with (first | (go_at_call 14; refine (live_any _).mono ?_; rintro e w8 ⟨rfl, hb8⟩; have B8 := Lib.hid (BD.out.trans (hb8.mono BD.out.size)); have D8 := Lib.hid (HDB.out.trans (hb8.mono HDB.out.size)); have Q1 := Lib.hid (hp_below X1r.out hb8); have Q2 := Lib.hid (hp_below X2r.out hb8); clear hb8; have x0 : w8.cell? ⟨xo, 0, none⟩ = some (.int .u8 ok) := hp_cell (Q1.out) 0; have x1 : w8.cell? ⟨xo, 1, none⟩ = some (.int .i64 os.pc) := hp_cell (Q1.out) 1; have x2 : w8.cell? ⟨xo, 2, none⟩ = some (.slice A1 os.stk.length a1') := hp_cell (Q1.out) 2; have x3 : w8.cell? ⟨xo, 3, none⟩ = some (.int .u64 os.la) := hp_cell (Q1.out) 3; have x4 : w8.cell? ⟨xo, 4, none⟩ = some (.int .u64 os.lb) := hp_cell (Q1.out) 4; have x5 : w8.cell? ⟨xo, 5, none⟩ = some (.int .u64 os.lc) := hp_cell (Q1.out) 5; have x6 : w8.cell? ⟨xo, 6, none⟩ = some (.int .u64 os.ld) := hp_cell (Q1.out) 6; have x7 : w8.cell? ⟨xo, 7, none⟩ = some (.slice A2 os.out.length a2') := hp_cell (Q1.out) 7; have x8 : w8.cell? ⟨xo, 8, none⟩ = some (.slice A3 12 a3') := hp_cell (Q1.out) 8; have x9 : w8.cell? ⟨xo, 9, none⟩ = some (.slice Aq pa.length aq) := hp_cell (Q1.out) 9; have x10 : w8.cell? ⟨xo, 10, none⟩ = some (.int .i64 oe) := hp_cell (Q1.out) 10; have xl := hp_lt (Q1.out); have y0 : w8.cell? ⟨xp, 0, none⟩ = some (.int .u8 ok) := hp_cell (Q2.out) 0; have y1 : w8.cell? ⟨xp, 1, none⟩ = some (.int .i64 os.pc) := hp_cell (Q2.out) 1; have y2 : w8.cell? ⟨xp, 2, none⟩ = some (.slice B1 os.stk.length b1) := hp_cell (Q2.out) 2; have y3 : w8.cell? ⟨xp, 3, none⟩ = some (.int .u64 os.la) := hp_cell (Q2.out) 3; have y4 : w8.cell? ⟨xp, 4, none⟩ = some (.int .u64 os.lb) := hp_cell (Q2.out) 4; have y5 : w8.cell? ⟨xp, 5, none⟩ = some (.int .u64 os.lc) := hp_cell (Q2.out) 5; have y6 : w8.cell? ⟨xp, 6, none⟩ = some (.int .u64 os.ld) := hp_cell (Q2.out) 6; have y7 : w8.cell? ⟨xp, 7, none⟩ = some (.slice B2 os.out.length b2) := hp_cell (Q2.out) 7; have y8 : w8.cell? ⟨xp, 8, none⟩ = some (.slice B3 12 b3) := hp_cell (Q2.out) 8; have y9 : w8.cell? ⟨xp, 9, none⟩ = some (.slice Ba pa.length ba) := hp_cell (Q2.out) 9; have y10 : w8.cell? ⟨xp, 10, none⟩ = some (.int .i64 oe) := hp_cell (Q2.out) 10; have yl := hp_lt (Q2.out)) | (go_at_call 15; refine (HSA.out _ D8.out).mono ?_; rintro e w9 ⟨rfl, hb9⟩; have B9 := Lib.hid (B8.out.trans (hb9.mono B8.out.size)); clear hb9))
              go_ret
              exact ⟨rfl, B9.out⟩
end Go.Proofs.Ytlgpjcdlomhlcaa
