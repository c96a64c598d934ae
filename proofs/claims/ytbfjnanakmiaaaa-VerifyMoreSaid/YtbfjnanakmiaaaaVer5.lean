
/-
  verify: the flow in memory, flow.through.
-/
import Derived.Test.YtbfjnanakmiaaaaVer4
namespace Go.Proofs.Ytbfjnanakmiaaaa
open Go.RowKit Go.ChangeShapes Go.WideShapes
set_option linter.unusedSimpArgs false
set_option linter.unusedVariables false

def bolsC (l : List Bool) : List Value := l.map Value.bool
def bat (l : List Bool) (j : Nat) : Bool := (l[j]?).getD false
theorem bat_get {l : List Bool} {j : Nat} (h : j < l.length) : l[j]? = some (bat l j) := by unfold bat; rw [List.getElem?_eq_getElem h]; rfl
def FlX (W w : World) (q gn gg : Nat) (A : Option Addr) (n c cn cg : Nat) (ns : List Int) (gs : List Bool) : Prop :=
  w.heap[q]? = some (.cells #[.slice A n c, .slice (some ⟨gn, 0, none⟩) n cn, .slice (some ⟨gg, 0, none⟩) n cg] 67 (0, 0)) ∧ w.heap[gn]? = some (.cells (intsC ns).toArray 3 (0, 0)) ∧ w.heap[gg]? = some (.cells (bolsC gs).toArray 4 (0, 0)) ∧ ns.length = n ∧ gs.length = n ∧ Below W.heap.size W w ∧ W.heap.size ≤ q ∧ W.heap.size ≤ gn ∧ W.heap.size ≤ gg
section
variable {W w w1 : World} {q gn gg n c cn cg : Nat} {A : Option Addr} {ns : List Int} {gs : List Bool}
theorem FlX.below (h : FlX W w q gn gg A n c cn cg ns gs) (hb : Below w.heap.size w w1) : FlX W w1 q gn gg A n c cn cg ns gs :=
  ⟨hp_below h.1 hb, hp_below h.2.1 hb, hp_below h.2.2.1 hb, h.2.2.2.1, h.2.2.2.2.1, h.2.2.2.2.2.1.trans (hb.mono h.2.2.2.2.2.1.size), h.2.2.2.2.2.2⟩
theorem FlX.setN (h : FlX W w q gn gg A n c cn cg ns gs) (k : Nat) (x : Int) : FlX W (w.setCell ⟨gn, k, none⟩ (.int .i64 x)) q gn gg A n c cn cg (ns.set k x) gs := by
  obtain ⟨h1, h2, h3, h4, h5, h6, h7, h8, h9⟩ := h
  refine ⟨hp_far h1 (hp_ne h1 h2 (by decide)) _, hp_put h2 k _ ?_, hp_far h3 (hp_ne h3 h2 (by decide)) _, by rw [List.length_set]; exact h4, h5, bl_new h6 h8 _, h7, h8, h9⟩
  unfold intsC
  rw [List.setIfInBounds_toArray, List.map_set]
theorem FlX.setG (h : FlX W w q gn gg A n c cn cg ns gs) (k : Nat) (x : Bool) : FlX W (w.setCell ⟨gg, k, none⟩ (.bool x)) q gn gg A n c cn cg ns (gs.set k x) := by
  obtain ⟨h1, h2, h3, h4, h5, h6, h7, h8, h9⟩ := h
  refine ⟨hp_far h1 (hp_ne h1 h3 (by decide)) _, hp_far h2 (hp_ne h2 h3 (by decide)) _, hp_put h3 k _ ?_, h4, by rw [List.length_set]; exact h5, bl_new h6 h9 _, h7, h8, h9⟩
  unfold bolsC
  rw [List.setIfInBounds_toArray, List.map_set]
theorem FlX.cells (h : FlX W w q gn gg A n c cn cg ns gs) : w.cell? ⟨q, 0, none⟩ = some (.slice A n c) ∧ w.cell? ⟨q, 1, none⟩ = some (.slice (some ⟨gn, 0, none⟩) n cn) ∧ w.cell? ⟨q, 2, none⟩ = some (.slice (some ⟨gg, 0, none⟩) n cg) ∧ q < w.heap.size ∧ gn < w.heap.size ∧ gg < w.heap.size :=
  ⟨hp_cell h.1 0, hp_cell h.1 1, hp_cell h.1 2, hp_lt h.1, hp_lt h.2.1, hp_lt h.2.2.1⟩
theorem FlX.ncell (h : FlX W w q gn gg A n c cn cg ns gs) {k : Nat} (hk : k < n) : w.cell? ⟨gn, k, none⟩ = some (.int .i64 (iat ns k)) ∧ w.frozen? ⟨gn, k, none⟩ = false := by
  refine ⟨?_, hp_frozen h.2.1 k⟩
  rw [hp_cell h.2.1, List.getElem?_toArray, intsC_get, iat_get (by rw [h.2.2.2.1]; exact hk)]
  rfl
theorem FlX.gcell (h : FlX W w q gn gg A n c cn cg ns gs) {k : Nat} (hk : k < n) : w.cell? ⟨gg, k, none⟩ = some (.bool (bat gs k)) ∧ w.frozen? ⟨gg, k, none⟩ = false := by
  refine ⟨?_, hp_frozen h.2.2.1 k⟩
  rw [hp_cell h.2.2.1, List.getElem?_toArray]
  unfold bolsC
  rw [List.getElem?_map, bat_get (by rw [h.2.2.2.2.1]; exact hk)]
  rfl
end
def nB (ns : List Int) : Prop := ∀ x ∈ ns, -1 ≤ x ∧ x ≤ 12
theorem nB.at {ns : List Int} (h : nB ns) {j : Nat} (hj : j < ns.length) : -1 ≤ iat ns j ∧ iat ns j ≤ 12 := by
  have := iat_get hj
  obtain ⟨hj', e⟩ := List.getElem?_eq_some_iff.mp this
  rw [← e]
  exact h _ (List.getElem_mem hj')
theorem nB.set {ns : List Int} (h : nB ns) (k : Nat) {v : Int} (hv : -1 ≤ v ∧ v ≤ 12) : nB (ns.set k v) := by
  intro x hx
  rcases List.mem_or_eq_of_mem_set hx with hx | rfl
  · exact h x hx
  · exact hv
theorem iat_set {ns : List Int} {k : Nat} {v : Int} (h : k < ns.length) : iat (ns.set k v) k = v := by unfold iat; rw [List.getElem?_set_self (by simpa using h)]; rfl
theorem eff_le (op : Int) : (0 ≤ popsI op ∧ popsI op ≤ 2) ∧ (0 ≤ pushI op ∧ pushI op ≤ 2) := by
  unfold popsI pushI formAt
  by_cases h : op.toNat < 29
  · generalize op.toNat = n at *
    revert n
    decide
  · rw [List.getD_eq_getElem?_getD, List.getElem?_eq_none (by show 29 ≤ op.toNat; omega)]
    decide
def thrK (len : Nat) (v : Int) : List Int → List Int → List Int × Int
  | [], ns => (ns, 0)
  | k :: ks, ns => bif decide (k < 0) then (ns, 3) else bif decide ((len : Int) ≤ k) then (ns, 3) else
      bif iat ns k.toNat == -1 then thrK len v ks (ns.set k.toNat v) else bif iat ns k.toNat != v then (ns, 12) else thrK len v ks ns
def thrF (l : List Ins3) (ns : List Int) (i : Nat) : List Int × Int :=
  bif decide (iat ns i - popsI (xn l i).op < 0) then (ns, 12) else bif decide (12 < iat ns i - popsI (xn l i).op + pushI (xn l i).op) then (ns, 12) else
    thrK l.length (iat ns i - popsI (xn l i).op + pushI (xn l i).op) (behindF (i : Int) (xn l i).op (xn l i).arg) ns
theorem thrK_nB {len : Nat} {v : Int} (hv : -1 ≤ v ∧ v ≤ 12) : ∀ (ks ns : List Int), nB ns → nB (thrK len v ks ns).1 ∧ (thrK len v ks ns).1.length = ns.length := by
  intro ks
  induction ks with
  | nil => intro ns h; exact ⟨h, rfl⟩
  | cons k ks ih =>
    intro ns h
    unfold thrK
    cases decide (k < 0)
    · cases decide ((len : Int) ≤ k)
      · cases iat ns k.toNat == -1
        · cases iat ns k.toNat != v
          · exact ih ns h
          · exact ⟨h, rfl⟩
        · have := ih _ (h.set k.toNat hv)
          exact ⟨this.1, this.2.trans (List.length_set ..)⟩
      · exact ⟨h, rfl⟩
    · exact ⟨h, rfl⟩
theorem thrF_nB {l : List Ins3} {ns : List Int} {i : Nat} (h : nB ns) : nB (thrF l ns i).1 ∧ (thrF l ns i).1.length = ns.length := by
  unfold thrF
  obtain ⟨_, h3⟩ := eff_le (xn l i).op
  by_cases h1 : iat ns i - popsI (xn l i).op < 0
  · rw [decide_eq_true h1]; exact ⟨h, rfl⟩
  · by_cases h2 : 12 < iat ns i - popsI (xn l i).op + pushI (xn l i).op
    · rw [decide_eq_false h1, decide_eq_true h2]; exact ⟨h, rfl⟩
    · rw [decide_eq_false h1, decide_eq_false h2]
      exact thrK_nB ⟨by omega, by omega⟩ _ _ h
def ThrPost (W : World) (q gn gg : Nat) (A : Option Addr) (n c cn cg : Nat) (r : List Int × Int) (gs : List Bool) (e : Ending) (w' : World) : Prop := e = .returned (.int .i64 r.2) ∧ FlX W w' q gn gg A n c cn cg r.1 gs
section
variable {W w : World} {q gn gg c cn cg : Nat} {A : Option Addr} {ns : List Int} {gs : List Bool} {l : List Ins3}
set_option maxHeartbeats 16000000 in
set_option maxRecDepth 100000 in
theorem through_any (i : Nat) (hi : i < l.length) (hl : l.length ≤ 100) (hag : 0 ≤ (xn l i).arg ∧ (xn l i).arg ≤ 255) (hn : nB ns) (HS : InssAt W A l) (h : FlX W w q gn gg A l.length c cn cg ns gs) :
    Calls Try.prog 28 #[.pointer (some ⟨q, 0, none⟩), .int .i64 (i : Int)] w (ThrPost W q gn gg A l.length c cn cg (thrF l ns i) (gs.set i true)) := by
  have HX := Lib.hid h
  have HG := Lib.hid (h.setG i true)
  have HSh := Lib.hid HS
  have HSw := Lib.hid (inss_below HS h.2.2.2.2.2.1)
  obtain ⟨y0, y1, y2, l1, l2, l3⟩ := h.cells
  obtain ⟨c1, f1⟩ := h.ncell hi
  obtain ⟨c2, f2⟩ := h.gcell hi
  obtain ⟨ad, rfl, hok, a0, a1, a2⟩ := xn_at HSw.out hi
  obtain ⟨⟨o0, o1⟩, hI, hV⟩ := hok
  obtain ⟨g0, g1, g2, m1, m2, m3⟩ := HG.out.cells
  have g3 := (HG.out.ncell hi).1
  have g4 : (w.setCell ⟨gg, i, none⟩ (.bool true)).cell? (ad.add (i * 3)) = some (.int .u8 (xn l i).op) := by
    obtain ⟨_, e, q⟩ := xn_at (inss_below HSh.out HG.out.2.2.2.2.2.1) hi
    obtain rfl := Option.some.inj e
    exact q.2.1
  have hnl : ns.length = l.length := h.2.2.2.1
  obtain ⟨b1, b2⟩ := hn.at (j := i) (by omega)
  have HNL := Lib.hid hnl
  obtain ⟨⟨p0, p1⟩, p2, p3⟩ := eff_le (xn l i).op
  have HN := Lib.hid hn
  have HE := Lib.hid (fun w => effect_any (xn l i).op o0 o1 w)
  have HTF : Hid (thrF l ns i = thrF l ns i) := Lib.hid rfl
  have HAG := Lib.hid hag
  have HTD : Hid (thrF l ns i = bif decide (iat ns i - popsI (xn l i).op < 0) then (ns, 12) else bif decide (12 < iat ns i - popsI (xn l i).op + pushI (xn l i).op) then (ns, 12) else
    thrK l.length (iat ns i - popsI (xn l i).op + pushI (xn l i).op) (behindF (i : Int) (xn l i).op (xn l i).arg) ns) := Lib.hid rfl
  generalize thrF l ns i = R at HTF HTD ⊢
  clear h HS hn hnl hag HTF
  have j1 : (0 : Int) ≤ (i : Int) := by omega
  have j2 : (i : Int) < (l.length : Int) := by omega
  generalize hpo : popsI (xn l i).op = po at *
  generalize hpu : pushI (xn l i).op = pu at *
  generalize hni : iat ns i = a at *
  have HAI := Lib.hid hni
  clear hpo hpu hni
  have kw1 : wrap64 (a - po) = a - po := by unfold wrap64; omega
  have kw2 : wrap64 (a - po + pu) = a - po + pu := by unfold wrap64; omega
  have hc : decide (a - po < 0) = true ∨ (decide (a - po < 0) = false ∧ ((decide (12 < a - po + pu) = true ∧ decide (a - po + pu > 12) = true) ∨ (decide (12 < a - po + pu) = false ∧ decide (a - po + pu > 12) = false))) := by
    by_cases h1 : a - po < 0
    · exact .inl (decide_eq_true h1)
    · by_cases h2 : 12 < a - po + pu
      · exact .inr ⟨decide_eq_false h1, .inl ⟨decide_eq_true h2, decide_eq_true h2⟩⟩
      · exact .inr ⟨decide_eq_false h1, .inr ⟨decide_eq_false h2, decide_eq_false h2⟩⟩
  rcases hc with h1 | ⟨h1, ⟨h2, h2'⟩ | ⟨h2, h2'⟩⟩
  · go_enter Try.func28, Try.ntmps28
    go_wp2_with (first | (go_at_call 33; refine (HE.out _).mono ?_; rintro e w1 ⟨rfl, hb1⟩; have X1 := Lib.hid (HG.out.below hb1); obtain ⟨r0, r1, r2, _, _, _⟩ := X1.out.cells; have r3 := (X1.out.ncell hi).1; rw [HAI.out] at r3; obtain ⟨_, r4, r5, r6⟩ := xn_some (inss_below HSh.out X1.out.2.2.2.2.2.1) hi; clear hb1 g0 g1 g2 g3 g4))
    go_ret
    refine ⟨by rw [HTD.out, h1]; rfl, by rw [HTD.out, h1]; exact X1.out⟩
  · go_enter Try.func28, Try.ntmps28
    go_wp2_with (first | (go_at_call 33; refine (HE.out _).mono ?_; rintro e w1 ⟨rfl, hb1⟩; have X1 := Lib.hid (HG.out.below hb1); obtain ⟨r0, r1, r2, _, _, _⟩ := X1.out.cells; have r3 := (X1.out.ncell hi).1; rw [HAI.out] at r3; obtain ⟨_, r4, r5, r6⟩ := xn_some (inss_below HSh.out X1.out.2.2.2.2.2.1) hi; clear hb1 g0 g1 g2 g3 g4))
    go_ret
    refine ⟨by rw [HTD.out, h1, h2]; rfl, by rw [HTD.out, h1, h2]; exact X1.out⟩
  · obtain ⟨v, hv⟩ : ∃ v, a - po + pu = v := ⟨_, rfl⟩
    have hvb : 0 ≤ v ∧ v ≤ 12 := by
      have := of_decide_eq_false h1
      have := of_decide_eq_false h2
      omega
    have HK : Hid (R = thrK l.length v (behindF (i : Int) (xn l i).op (xn l i).arg) ns) := Lib.hid (by rw [HTD.out, h1, h2, hv]; rfl)
    have HV := Lib.hid hv
    clear HTD
    go_enter Try.func28, Try.ntmps28
    go_wp2_with (first | (go_at_call 33; refine (HE.out _).mono ?_; rintro e w1 ⟨rfl, hb1⟩; have X1 := Lib.hid (HG.out.below hb1); obtain ⟨r0, r1, r2, _, _, _⟩ := X1.out.cells; have r3 := (X1.out.ncell hi).1; rw [HAI.out] at r3; obtain ⟨_, r4, r5, r6⟩ := xn_some (inss_below HSh.out X1.out.2.2.2.2.2.1) hi; clear hb1 g0 g1 g2 g3 g4) | (go_at_call 34; refine (behind_any i (by omega) (xn l i).op (xn l i).arg (xn l i).val HAG.out _).mono ?_; rintro e w2 ⟨A2, c2, rfl, hi2, hb2⟩; have X2 := Lib.hid (X1.out.below hb2); have I2 := Lib.hid hi2; obtain ⟨s0, s1, s2, _, _, _⟩ := X2.out.cells; clear hb2 hi2 r0 r1 r2 r3 r4 r5 r6))
    obtain ⟨ks, hks⟩ : ∃ ks, behindF (i : Int) (xn l i).op (xn l i).arg = ks := ⟨_, rfl⟩
    have hkl : ks.length ≤ 2 := by rw [← hks]; exact behindF_len _ _ _
    rw [hks] at I2 HK ⊢
    have hgn := X1.out.cells.2.2.2.2.1
    clear hks s0 s1 s2
    go_loopw [55] (fun t w' => ∃ (j : Nat) (ns' : List Int), j ≤ ks.length ∧ t = .int .i64 j ∧ Hid (FlX W w' q gn gg (some ad) l.length c cn cg ns' (gs.set i true)) ∧ Hid (R = thrK l.length v (ks.drop j) ns') ∧ Hid (IntsAt (fun k => w1.heap.size ≤ k) w' A2 ks)) (fun t _ => ks.length - (intOf t).toNat)
    case atStart => exact ⟨0, ns, by omega, rfl, X2, HK, I2⟩
    case round =>
      clear X2 HK I2
      obtain ⟨j, ns', hj, rfl, HX', HR, HI'⟩ := hrel
      obtain ⟨s0, s1, s2, _, _, _⟩ := HX'.out.cells
      by_cases hlt : j < ks.length
      · have t1 : decide (j < ks.length) = true := decide_eq_true hlt
        have t1' : decide ((j : Int) < (ks.length : Int)) = true := decide_eq_true (by omega)
        have t3 : (j : Int) < (ks.length : Int) := by omega
        have t4 : (0 : Int) ≤ (j : Int) := by omega
        cases A2 with
        | none => have := ints_none HI'.out; subst this; simp at hlt
        | some b =>
          have hcj := ints_cell HI'.out j _ (by rw [intsC_get, iat_get hlt]; rfl)
          have HStep : Hid (R = thrK l.length v (iat ks j :: ks.drop (j + 1)) ns') := Lib.hid (by
            rw [HR.out, List.drop_eq_getElem_cons hlt]
            have := iat_get hlt
            rw [List.getElem?_eq_getElem hlt] at this
            rw [Option.some.inj this])
          clear HR
          generalize iat ks j = k at *
          by_cases k0 : k < 0
          · have d1 : decide (k < 0) = true := decide_eq_true k0
            have HF : Hid (R = (ns', 3)) := Lib.hid (by rw [HStep.out]; unfold thrK; rw [d1]; rfl)
            go_wp2_with fail
            go_ret
            exact ⟨by rw [HF.out]; rfl, by rw [HF.out]; exact HX'.out⟩
          · have d1 : decide (k < 0) = false := decide_eq_false k0
            by_cases k1 : (l.length : Int) ≤ k
            · have d2 : decide ((l.length : Int) ≤ k) = true := decide_eq_true k1
              have d3 : decide (k ≥ (l.length : Int)) = true := decide_eq_true k1
              have HF : Hid (R = (ns', 3)) := Lib.hid (by rw [HStep.out]; unfold thrK; rw [d1, d2]; rfl)
              go_wp2_with fail
              go_ret
              exact ⟨by rw [HF.out]; rfl, by rw [HF.out]; exact HX'.out⟩
            · obtain ⟨kn, rfl⟩ : ∃ kn : Nat, k = (kn : Int) := ⟨k.toNat, by omega⟩
              have d2 : decide ((l.length : Int) ≤ (kn : Int)) = false := decide_eq_false k1
              have d3 : decide ((kn : Int) ≥ (l.length : Int)) = false := decide_eq_false k1
              have k2 : (kn : Int) < (l.length : Int) := by omega
              have k3 : (0 : Int) ≤ (kn : Int) := by omega
              obtain ⟨n1, n2⟩ := HX'.out.ncell (k := kn) (by omega)
              have HST : Hid (R = bif iat ns' kn == -1 then thrK l.length v (ks.drop (j + 1)) (ns'.set kn v) else bif iat ns' kn != v then (ns', 12) else thrK l.length v (ks.drop (j + 1)) ns') := Lib.hid (by rw [HStep.out]; show (bif _ then _ else _) = _; rw [d1, d2]; rfl)
              clear HStep
              generalize iat ns' kn = z at *
              have hz : (z == -1) = true ∨ ((z == -1) = false ∧ ((z != v) = true ∨ ((z != v) = false ∧ z = v))) := by
                cases h1 : z == -1
                · refine .inr ⟨rfl, ?_⟩
                  cases h2 : z != v
                  · exact .inr ⟨rfl, by simpa [bne] using h2⟩
                  · exact .inl rfl
                · exact .inl rfl
              rcases hz with z1 | ⟨z1, z2 | ⟨z2, z3⟩⟩
              · have HF : Hid (R = thrK l.length v (ks.drop (j + 1)) (ns'.set kn v)) := Lib.hid (by rw [HST.out, z1]; rfl)
                have ne1 : q ≠ gn := hp_ne HX'.out.1 HX'.out.2.1 (by decide)
                have ne2 : gn ≠ q := fun e => ne1 e.symm
                have v1 : (v != v) = false := by simp
                go_wp2_with fail
                go_roundw
                case rel => exact ⟨j + 1, ns'.set kn v, by omega, by go_num, Lib.hid (HX'.out.setN kn v), HF, Lib.hid (ints_put HI'.out (fun k hk => by omega) kn _)⟩
                case measure => simp [intOf]; omega
              · have HF : Hid (R = (ns', 12)) := Lib.hid (by rw [HST.out, z1, z2]; rfl)
                go_wp2_with fail
                go_ret
                exact ⟨by rw [HF.out]; rfl, by rw [HF.out]; exact HX'.out⟩
              · have HF : Hid (R = thrK l.length v (ks.drop (j + 1)) ns') := Lib.hid (by rw [HST.out, z1, z2]; rfl)
                subst z3
                go_wp2_with fail
                go_roundw
                case rel => exact ⟨j + 1, ns', by omega, by go_num, HX', HF, HI'⟩
                case measure => simp [intOf]; omega
      · obtain rfl : j = ks.length := by omega
        have t1 : decide (ks.length < ks.length) = false := decide_eq_false (by omega)
        have t1' : decide ((ks.length : Int) < (ks.length : Int)) = false := decide_eq_false (by omega)
        have HF : Hid (R = (ns', 0)) := Lib.hid (by rw [HR.out, List.drop_length]; rfl)
        go_wp2_with fail
        go_ret
        exact ⟨by rw [HF.out]; rfl, by rw [HF.out]; exact HX'.out⟩
end
end Go.Proofs.Ytbfjnanakmiaaaa
