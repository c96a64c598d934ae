
/-
  rowlocklaw20.ObjectBlocks.
-/
import Derived.Test.YtolnfhaejnmlnaaPlay5
import Derived.Test.YtolnfhaejnmlnaaPlays
import Derived.Deep.RegionHeld3
import Derived.Outline
namespace Go.Proofs.Ytolnfhaejnmlnaa
open Go.RowKit
set_option linter.unusedSimpArgs false
set_option linter.unusedVariables false

theorem stDo_w64 (c who v av ae : Int) (ab : Bool) (st st' : St) (hl : ∀ x ∈ (shOf st).2.2.2, W64 x) (hr : stDo c who v st = ((av, ab, ae), st')) : W64 av := by
  have one : W64 4607182418800017408 := ⟨by decide, by decide⟩
  cases st with
  | nil =>
    simp only [stDo, aErr, Prod.mk.injEq] at hr
    obtain ⟨⟨rfl, rfl, rfl⟩, rfl⟩ := hr
    exact w64_0
  | mu o =>
    unfold stDo muDo muStep at hr
    cases h1 : badB (muTk c) c who v <;> cases h2 : (c == 2) <;> cases h3 : (o == who) <;> cases h4 : decide (0 ≤ o) <;> (simp only [h1, h2, h3, h4, cond_true, cond_false, aErr, aOne, aBlocks, Prod.mk.injEq] at hr; obtain ⟨⟨rfl, rfl, rfl⟩, rfl⟩ := hr) <;> first | exact one | exact w64_0
  | se n =>
    unfold stDo seDo seStep at hr
    cases h1 : badB (seTk c) c who v <;> cases h2 : (c == 4) <;> cases h3 : (n == 0) <;> cases h4 : decide (99 ≤ n) <;> (simp only [h1, h2, h3, h4, cond_true, cond_false, aErr, aOne, aBlocks, Prod.mk.injEq] at hr; obtain ⟨⟨rfl, rfl, rfl⟩, rfl⟩ := hr) <;> first | exact one | exact w64_0
  | qu size l =>
    unfold stDo quDo quStep at hr
    cases h1 : badB (quTk c) c who v <;> cases h2 : (c == 6 && decide (0 < l.length)) <;> cases h3 : (c == 5 && decide ((l.length : Int) < size)) <;> (simp only [h1, h2, h3, cond_true, cond_false, aErr, aOne, aBlocks, Prod.mk.injEq] at hr; obtain ⟨⟨rfl, rfl, rfl⟩, rfl⟩ := hr) <;> first | exact one | exact w64_0 | (cases l with
      | nil => simp at h2
      | cons x xs => exact hl x (List.mem_cons_self ..))
  | ba s =>
    unfold stDo baDo baStep at hr
    cases h1 : badB (baTk c) c who v <;> cases h2 : (c == 8) <;> cases h3 : (lessB v (intV s.2.2)) <;> cases h4 : (wrap64 (s.2.1 + 1) == s.1) <;> (simp only [h1, h2, h3, h4, cond_true, cond_false, aErr, aOne, aBlocks, Prod.mk.injEq] at hr; obtain ⟨⟨rfl, rfl, rfl⟩, rfl⟩ := hr) <;> first | exact one | exact w64_0 | exact intV_w64 _
theorem vals_touch {ok : Nat → Prop} {t : TypeId → Prop} {B : Nat} {w w1 : World} {A : Option Addr} {l : List Int} (h : ValsAt ok w A l) (ht : Touch t B w w1) (h29 : ¬ t 29) : ValsAt ok w1 A l := by
  obtain ⟨h0, h | ⟨g, o, cells, hA, hg, hc, hk⟩⟩ := h
  · exact ⟨h0, .inl h⟩
  · exact ⟨h0, .inr ⟨g, o, cells, hA, ht.cells hg h29, hc, hk⟩⟩
def BlkS (W0 : World) (x : Value) (st : St) (A1 : Option Addr) (c1 g3 g5 : Nat) (ab : Bool) (ae : Int) (w' : World) : Prop := w'.cell? ⟨g5, 0, none⟩ = some (.int .u64 0) ∧ w'.cell? ⟨g5, 1, none⟩ = some (.bool ab) ∧ w'.cell? ⟨g5, 2, none⟩ = some (.int .i64 ae) ∧ w'.cell? ⟨g3, 0, none⟩ = some (.int .i64 (shOf st).1) ∧ w'.cell? ⟨g3, 1, none⟩ = some (.int .i64 (shOf st).2.1) ∧ w'.cell? ⟨g3, 2, none⟩ = some (.int .i64 (shOf st).2.2.1) ∧ w'.cell? ⟨g3, 3, none⟩ = some (.slice A1 (shOf st).2.2.2.length c1) ∧
  (w'.heap[g5]? = some (.cells #[.int .u64 0, .bool ab, .int .i64 ae] 32 (0, 0)) ∧ w'.heap[g3]? = some (.cells #[.int .i64 (shOf st).1, .int .i64 (shOf st).2.1, .int .i64 (shOf st).2.2.1, .slice A1 (shOf st).2.2.2.length c1] 38 (0, 0)) ∧ OAt W0.heap.size w' x st ∧ ValsAt okAll w' A1 (shOf st).2.2.2 ∧ Below W0.heap.size W0 w')
variable {W0 w w1 : World} {x : Value} {st : St} {A1 : Option Addr} {c1 g3 g5 : Nat} {ab : Bool} {ae : Int}
theorem BlkS.mk (h1 : w.heap[g5]? = some (.cells #[.int .u64 0, .bool ab, .int .i64 ae] 32 (0, 0))) (h2 : w.heap[g3]? = some (.cells #[.int .i64 (shOf st).1, .int .i64 (shOf st).2.1, .int .i64 (shOf st).2.2.1, .slice A1 (shOf st).2.2.2.length c1] 38 (0, 0))) (h3 : OAt W0.heap.size w x st) (h4 : ValsAt okAll w A1 (shOf st).2.2.2) (h5 : Below W0.heap.size W0 w) : BlkS W0 x st A1 c1 g3 g5 ab ae w :=
  ⟨hp_cell h1 0, hp_cell h1 1, hp_cell h1 2, hp_cell h2 0, hp_cell h2 1, hp_cell h2 2, hp_cell h2 3, h1, h2, h3, h4, h5⟩
theorem BlkS.below (h : BlkS W0 x st A1 c1 g3 g5 ab ae w) (hb : Below w.heap.size w w1) : BlkS W0 x st A1 c1 g3 g5 ab ae w1 := by
  obtain ⟨_, _, _, _, _, _, _, h1, h2, h3, h4, h5⟩ := h
  exact BlkS.mk (hp_below h1 hb) (hp_below h2 hb) (OAt_below h3 hb) (vals_below h4 hb) (h5.trans (hb.mono h5.size))
theorem BlkS.drew (h : BlkS W0 x st A1 c1 g3 g5 ab ae w) : BlkS W0 x st A1 c1 g3 g5 ab ae w.drew := h.below ⟨rfl, rfl, rfl, Nat.le_refl _, fun _ _ => rfl⟩
theorem st_short {B : Nat} (h : OAt B w x st) : (shOf st).2.2.2.length ≤ 1000 := by
  cases st with
  | qu size l => obtain ⟨p, a, _, h, _⟩ := h; have := h.2.2.1; simp only [shOf]; dsimp only at this; omega
  | _ => simp [shOf]
def BlkShape (W0 : World) (x : Value) (st : St) (A1 : Option Addr) (c1 g3 g5 : Nat) (ab : Bool) (ae : Int) (e : Ending) (w' : World) : Prop := ∃ A c, e = .returned (.agg #[.int .i64 (shOf st).1, .int .i64 (shOf st).2.1, .int .i64 (shOf st).2.2.1, .slice A (shOf st).2.2.2.length c]) ∧ Hid (ValsAt okAll w' A (shOf st).2.2.2) ∧ BlkS W0 x st A1 c1 g3 g5 ab ae w'
theorem blkShape (h : BlkS W0 x st A1 c1 g3 g5 ab ae w) : Calls Try.prog 12 #[x] w (BlkShape W0 x st A1 c1 g3 g5 ab ae) :=
  (oShape_any h.2.2.2.2.2.2.2.2.2.1).mono fun e w' ⟨⟨A, c, h1, h2⟩, hb⟩ => ⟨A, c, h1, h2, h.below hb⟩
theorem blkSame {A : Option Addr} {c : Nat} (h : BlkS W0 x st A1 c1 g3 g5 ab ae w) (hv : Hid (ValsAt okAll w A (shOf st).2.2.2)) : Calls Try.prog 19 #[.agg #[.int .i64 (shOf st).1, .int .i64 (shOf st).2.1, .int .i64 (shOf st).2.2.1, .slice A (shOf st).2.2.2.length c], .agg #[.int .i64 (shOf st).1, .int .i64 (shOf st).2.1, .int .i64 (shOf st).2.2.1, .slice A1 (shOf st).2.2.2.length c1]] w fun e w' => e = .returned (.bool true) ∧ BlkS W0 x st A1 c1 g3 g5 ab ae w' := by
  have hs := st_short h.2.2.2.2.2.2.2.2.2.1
  refine (sameShape_any _ _ _ A A1 c c1 _ _ w hv.out h.2.2.2.2.2.2.2.2.2.2.1 hs hs).mono fun e w' ⟨he, hb⟩ => ⟨?_, h.below hb⟩
  rw [he, decide_eq_true rfl]
theorem callsAt_below {w w1 : World} {A : Option Addr} {n : Nat} (h : CallsAt w A n) (hb : Below w.heap.size w w1) : CallsAt w1 A n :=
  ⟨h.1, fun j hj => by
    obtain ⟨ad, k, who, v, e, hc⟩ := h.2 j hj
    exact ⟨ad, k, who, v, e, callAt_below hc hb⟩⟩
set_option maxHeartbeats 4000000 in
set_option maxRecDepth 100000 in
theorem objectBlocks_walk0 (W : World) (k : Int) (k0 : 0 ≤ k) (k1 : k ≤ 255) (A : Option Addr) (len cap : Nat) (hC : CallsAt W A len) (c who v : Int) (hv : W64 v) :
    Calls Try.prog 7 #[.int .u8 k, .slice A len cap, .agg #[.int .u8 c, .int .i64 who, .int .u64 v]] W fun e w' => e = .returned (.bool true) ∧ Below W.heap.size W w' := by
  have HC := Lib.hid hC
  clear hC
  go_enter Try.func7, Try.ntmps7
  go_wp2_with (first | (go_at_call 17; refine (sized_any k k0 k1 _).mono ?_; rintro e w' ⟨n, rfl, rfl⟩))
  have hx := heap_alloc_new W (.cells #[.int .u8 c, .int .i64 who, .int .u64 v] 36)
  have hb0 : Below W.heap.size W (W.alloc (.cells #[.int .u8 c, .int .i64 who, .int .u64 v] 36)) := (Below.refl _ _).alloc (Nat.le_refl _) _
  generalize W.alloc (.cells #[.int .u8 c, .int .i64 who, .int .u64 v] 36) = W0 at *
  refine (playR_any W0 k k0 k1 n A len cap (callsAt_below HC.out hb0)).mono ?_
  rintro e w1 ⟨x, y, st, rfl, hb, hr⟩
  have B1 := Lib.hid hb
  have HR := Lib.hid hr
  have HB0 := Lib.hid hb0
  have X1 := Lib.hid (hp_below hx hb.2.2)
  clear hb hr hx hb0
  have hxy : x = .pointer none ∨ (∃ a, x = .pointer (some a)) := by
    obtain ⟨q, e, _⟩ := o_nilB B1.out.1
    cases q with
    | none => exact .inl e
    | some a => exact .inr ⟨a, e⟩
  rcases hxy with rfl | ⟨a0, rfl⟩
  · go_wp2_with (go_at_call 10; refine (live_any _).mono ?_; rintro e w2 ⟨rfl, hb2⟩; have B2 := Lib.hid (B1.out.below hb2); clear hb2 B1 X1)
    go_ret
    exact ⟨rfl, HB0.out.trans (B2.out.2.2.mono HB0.out.size)⟩
  · obtain ⟨⟨⟨av, ab, ae⟩, st'⟩, hm⟩ : ∃ r, stDo c who v st = r := ⟨_, rfl⟩
    have HM := Lib.hid hm
    have HN := stDo_law c who v av ae ab st st' HR.out hm
    clear hm
    go_wp2_with (first | (go_at_call 10; ((with_reducible refine (live_any _).mono ?_); rintro e w2 ⟨rfl, hb2⟩); have B2 := Lib.hid (B1.out.below hb2); have X2 := Lib.hid (hp_below X1.out hb2); clear hb2) | (go_at_call 12; refine (oShape_any (w := w2) B2.out.1).mono ?_; rintro e w3 ⟨⟨A1, c1, rfl, v1⟩, hb3⟩; have V3 := Lib.hid v1; have B3 := Lib.hid (B2.out.below hb3); have X3 := Lib.hid (hp_below X2.out hb3); have x0 : w3.cell? ⟨W.heap.size, 0, none⟩ = some (.int .u8 c) := hp_cell X3.out 0; have x1 : w3.cell? ⟨W.heap.size, 1, none⟩ = some (.int .i64 who) := hp_cell X3.out 1; have x2 : w3.cell? ⟨W.heap.size, 2, none⟩ = some (.int .u64 v) := hp_cell X3.out 2; have lx := hp_lt X3.out; clear v1 hb3))
    have Y3 := heap_alloc_new w3 (.cells #[.int .i64 (shOf st).1, .int .i64 (shOf st).2.1, .int .i64 (shOf st).2.2.1, .slice A1 (shOf st).2.2.2.length c1] 38)
    have hb4 : Below w3.heap.size w3 (w3.alloc (.cells #[.int .i64 (shOf st).1, .int .i64 (shOf st).2.1, .int .i64 (shOf st).2.2.1, .slice A1 (shOf st).2.2.2.length c1] 38)) := (Below.refl _ _).alloc (Nat.le_refl _) _
    clear x0 x1 x2 lx
    generalize w3.alloc (.cells #[.int .i64 (shOf st).1, .int .i64 (shOf st).2.1, .int .i64 (shOf st).2.2.1, .slice A1 (shOf st).2.2.2.length c1] 38) = w4 at *
    have B4 := B3.out.below hb4
    refine (oDo_as hv HM.out B4.1).mono ?_
    rintro e w5 ⟨rfl, ho, ht⟩
    have Y5 := Lib.hid (ht.cells Y3 (by unfold tO; decide))
    have V5 := Lib.hid (vals_touch (vals_below V3.out hb4) ht (by unfold tO; decide))
    have O5 := Lib.hid ho
    have T5 := Lib.hid (show Below W0.heap.size W0 w5 from Touch.below ht B4.2.2)
    clear ho ht B4 hb4 Y3 V3 B3 X3
    rcases HN with ⟨rfl, rfl, hav⟩ | ⟨rfl, rfl, hab⟩
    · have hw : W64 av := stDo_w64 c who v av 0 false st st' V5.out.1 HM.out
      go_wp2_with (go_at_call 18; refine (refRight_any av hw _).mono ?_; rintro e w' ⟨rfl, rfl⟩)
      go_ret
      exact ⟨by simp [hav], HB0.out.trans ((T5.out.alloc T5.out.size _).mono HB0.out.size)⟩
    · rcases hab with ⟨rfl, rfl⟩ | ⟨rfl, hae⟩
      · skip
        go_wp2_with fail
        have hS0 := BlkS.mk (W0 := W0) (x := .pointer (some a0)) (st := st') (A1 := A1) (c1 := c1) (g3 := w3.heap.size) (g5 := w5.heap.size) (ab := true) (ae := 0) (heap_alloc_new w5 _) (hp_alloc Y5.out _) (OAt_below O5.out ((Below.refl _ _).alloc (Nat.le_refl _) _)) (vals_below V5.out ((Below.refl _ _).alloc (Nat.le_refl _) _)) (T5.out.alloc T5.out.size _)
        clear Y5 V5 O5 T5 X1 X2 B1 B2 HM
        generalize w5.alloc (.cells #[.int .u64 0, .bool true, .int .i64 0] 32) = w6 at *
        unfold BlkS at hS0
        first | (go_region_held3 (fun w' => w'.cell? ⟨w5.heap.size, 0, none⟩ = some (.int .u64 0) ∧ w'.cell? ⟨w5.heap.size, 1, none⟩ = some (.bool true) ∧ w'.cell? ⟨w5.heap.size, 2, none⟩ = some (.int .i64 0) ∧ w'.cell? ⟨w3.heap.size, 0, none⟩ = some (.int .i64 (shOf st').1) ∧ w'.cell? ⟨w3.heap.size, 1, none⟩ = some (.int .i64 (shOf st').2.1) ∧ w'.cell? ⟨w3.heap.size, 2, none⟩ = some (.int .i64 (shOf st').2.2.1) ∧ w'.cell? ⟨w3.heap.size, 3, none⟩ = some (.slice A1 (shOf st').2.2.2.length c1) ∧   (w'.heap[w5.heap.size]? = some (.cells #[.int .u64 0, .bool true, .int .i64 0] 32 (0, 0)) ∧ w'.heap[w3.heap.size]? = some (.cells #[.int .i64 (shOf st').1, .int .i64 (shOf st').2.1, .int .i64 (shOf st').2.2.1, .slice A1 (shOf st').2.2.2.length c1] 38 (0, 0)) ∧ OAt W0.heap.size w' (.pointer (some a0)) st' ∧ ValsAt okAll w' A1 (shOf st').2.2.2 ∧ Below W0.heap.size W0 w'))
            (first | assumption | (show BlkS W0 (.pointer (some a0)) st' A1 c1 w3.heap.size w5.heap.size true 0 _; (repeat with_reducible apply BlkS.drew); first | assumption | exact hS0))
            (first | (go_at_call 12; refine (blkShape (W0 := W0) (st := st') (A1 := A1) (c1 := c1) (g3 := w3.heap.size) (g5 := w5.heap.size) (ab := true) (ae := 0) (by assumption)).mono ?_; rintro e w7 ⟨A7, c7, rfl, v7, s7⟩) | (go_at_call 19; refine (blkSame (W0 := W0) (x := .pointer (some a0)) (A1 := A1) (c1 := c1) (g3 := w3.heap.size) (g5 := w5.heap.size) (ab := true) (ae := 0) (by assumption) (by assumption)).mono ?_; rintro e w8 ⟨rfl, s8⟩))) | fail "held"
        all_goals
          go_wp2_with fail
          go_ret
          obtain ⟨_, _, _, _, _, _, _, _, _, _, _, hbb⟩ := s8
          exact ⟨by first | rfl | (simp; done) | (simp [hae]; done), HB0.out.trans (hbb.mono HB0.out.size)⟩
      · skip
        go_wp2_with fail
        have hS0 := BlkS.mk (W0 := W0) (x := .pointer (some a0)) (st := st') (A1 := A1) (c1 := c1) (g3 := w3.heap.size) (g5 := w5.heap.size) (ab := false) (ae := ae) (heap_alloc_new w5 _) (hp_alloc Y5.out _) (OAt_below O5.out ((Below.refl _ _).alloc (Nat.le_refl _) _)) (vals_below V5.out ((Below.refl _ _).alloc (Nat.le_refl _) _)) (T5.out.alloc T5.out.size _)
        clear Y5 V5 O5 T5 X1 X2 B1 B2 HM
        generalize w5.alloc (.cells #[.int .u64 0, .bool false, .int .i64 ae] 32) = w6 at *
        have HS6 := Lib.hid hS0.drew
        obtain ⟨f0, f1, f2, f3, f4, f5, f6, m⟩ := hS0
        clear m
        first | (go_region_law (first | (go_simp; go_at_call 12; refine (blkShape HS6.out).mono ?_; rintro e w7 ⟨A7, c7, rfl, v7, s7⟩; have S7 := Lib.hid s7; obtain ⟨q0, q1, q2, q3, q4, q5, q6, m⟩ := s7; clear m) | (go_simp; go_at_call 19; refine (blkSame S7.out v7).mono ?_; rintro e w8 ⟨rfl, s8'⟩; have s8 := Lib.hid s8'; obtain ⟨r0, r1, r2, r3, r4, r5, r6, m⟩ := s8'; clear m))) | fail "law"
        all_goals
          go_wp2_with fail
          go_ret
          obtain ⟨_, _, _, _, _, _, _, _, _, _, _, hbb⟩ := s8.out
          exact ⟨by first | rfl | (simp; done) | (simp [hae]; done), HB0.out.trans (hbb.mono HB0.out.size)⟩
theorem objectBlocks_walk (W : World) (k : Int) (hk : (Lit.int .u8 k).wf = true) (A : Option Addr) (len cap : Nat) (hC : CallsAt W A len) (c : Int) (hc : (Lit.int .u8 c).wf = true) (who : Int) (hw : (Lit.int .i64 who).wf = true) (v : Int) (hv : (Lit.int .u64 v).wf = true) :
    Calls Try.prog 7 #[.int .u8 k, .slice A len cap, .agg #[.int .u8 c, .int .i64 who, .int .u64 v]] W fun e w' => e = .returned (.bool true) ∧ Below W.heap.size W w' :=
  objectBlocks_walk0 W k (bounds_u8 hk).1 (bounds_u8 hk).2 A len cap hC c who v (by have := bounds_u64 hv; unfold W64; omega)
end Go.Proofs.Ytolnfhaejnmlnaa
