
/-
  linear.Legal, of an order of places, each once, none ahead of one that had ended when it began.
-/
import Derived.Test.YtbanfaboimachaaLin4
namespace Go.Proofs.Ytbanfaboimachaa
open Go.RowKit
set_option linter.unusedSimpArgs false
set_option linter.unusedVariables false

def idropAt (A : Option Addr) (c k : Nat) : Option Addr := A.map fun a => if c = k then a else a.add k
theorem ints_take {ok : Nat → Prop} {w : World} {A : Option Addr} {l : List Int} (h : IntsAt ok w A l) (k : Nat) : IntsAt ok w A (l.take k) := by
  obtain ⟨h0, h | ⟨g, o, cells, hA, hg, hc, hk⟩⟩ := h
  · exact ⟨fun v hv => h0 v (List.mem_of_mem_take hv), .inl ⟨h.1, by rw [h.2]; simp⟩⟩
  · refine ⟨fun v hv => h0 v (List.mem_of_mem_take hv), .inr ⟨g, o, cells, hA, hg, fun j v hv => hc j v ?_, hk⟩⟩
    rw [List.getElem?_take] at hv
    split at hv
    · exact hv
    · cases hv
theorem ints_drop {ok : Nat → Prop} {w : World} {A : Option Addr} {l : List Int} (h : IntsAt ok w A l) (c k : Nat) (hlc : l.length ≤ c) (hk : k ≤ l.length) : IntsAt ok w (idropAt A c k) (l.drop k) := by
  obtain ⟨h0, h | ⟨g, o, cells, hA, hg, hc, hk'⟩⟩ := h
  · refine ⟨fun v hv => h0 v (List.mem_of_mem_drop hv), .inl ⟨by rw [h.1]; rfl, by rw [h.2]; simp⟩⟩
  · refine ⟨fun v hv => h0 v (List.mem_of_mem_drop hv), .inr ?_⟩
    subst hA
    by_cases e : c = k
    · refine ⟨g, o, cells, by simp [idropAt, e], hg, fun j v hv => ?_, hk'⟩
      have : l.drop k = [] := List.drop_eq_nil_of_le (by omega)
      rw [this] at hv
      simp at hv
    · refine ⟨g, o + k, cells, by simp [idropAt, e, add_at], hg, fun j v hv => ?_, hk'⟩
      rw [List.getElem?_drop] at hv
      have := hc (k + j) v hv
      rwa [show o + (k + j) = o + k + j by omega] at this
theorem islice_to (A : Option Addr) (n c k : Nat) (hk : k ≤ c) (hA : A = none → c = 0) (w : World) : (Instr.slice 26 (.slice A n c) none (some (.int .i64 (k : Int))) none).run Try.prog w = .ok (.slice A k c) w := by
  have hu := run_underlying (P := Try.prog) Try.underlying26
  have hs : ∀ w, (sizeOf 3).run Try.prog w = .ok 1 w := fun w => by kernel_rfl
  cases A with
  | none =>
    obtain rfl := hA rfl
    obtain rfl : k = 0 := by omega
    simp [Instr.slice, Instr.sliceBounds, Instr.sliceBound, asIntOf, hu, hs]
  | some a =>
    simp [Instr.slice, Instr.sliceBounds, Instr.sliceBound, asIntOf, hu, hs]
    rw [if_pos (by omega)]
    simp [Addr.add]
theorem islice_from (A : Option Addr) (n c k : Nat) (hk : k + 1 ≤ n) (hn : n ≤ c) (hA : A = none → c = 0) (w : World) : (Instr.slice 26 (.slice A n c) (some (.int .i64 ((k : Int) + 1))) none none).run Try.prog w = .ok (.slice (idropAt A c (k + 1)) (n - (k + 1)) (c - (k + 1))) w := by
  have hu := run_underlying (P := Try.prog) Try.underlying26
  have hs : ∀ w, (sizeOf 3).run Try.prog w = .ok 1 w := fun w => by kernel_rfl
  have hi : ((k : Int) + 1) = ((k + 1 : Nat) : Int) := by omega
  rw [hi]
  cases A with
  | none =>
    obtain rfl := hA rfl
    omega
  | some a =>
    simp [Instr.slice, Instr.sliceBounds, Instr.sliceBound, asIntOf, hu, hs]
    rw [if_pos (by omega)]
    by_cases h : c = k + 1 <;> simp [h, idropAt]
theorem contains_take (A2 : Option Addr) (c2 : Nat) (o : List Int) (i : Nat) (hi : i ≤ o.length) (v : Int) (ho : o.length ≤ 24) (w : World) (H : IntsAt okAll w A2 o) : Calls Try.prog 17 #[.slice A2 i c2, .int .i64 v] w fun e w' => e = .returned (.bool (hasB (o.take i) v)) ∧ w = w' := by
  have h := contains_any A2 c2 (o.take i) v (by simp; omega) w (ints_take H i)
  rwa [show (o.take i).length = i by simp; omega] at h
theorem good_later {l : List Spn} {o : List Int} (h : GoodOrder l o) {i n : Nat} (hi : i < o.length) (hn : o[i]? = some (n : Int)) : NoLater l (o.drop (i + 1)) n := by
  intro j hj
  rw [List.length_drop] at hj
  obtain ⟨n', h1, h2, _, h4⟩ := h i hi
  obtain rfl : n = n' := by rw [hn] at h1; exact Int.ofNat.inj (Option.some.inj h1)
  obtain ⟨m, g1, g2, _, _⟩ := h (i + 1 + j) (by omega)
  refine ⟨m, by rw [List.getElem?_drop]; exact g1, g2, ?_⟩
  have := h4 (i + 1 + j) m (by omega) g1
  rwa [Int.toNat_natCast] at this
theorem below_of_drewN {w w1 : World} (h : DrewN w w1) : Below w.heap.size w w1 := by
  obtain ⟨n, rfl⟩ := h
  exact bl_drewN (Below.refl _ _) n
def LegalPost (r : Int × Int) (w : World) (e : Ending) (w' : World) : Prop := e = .returned (.tuple #[.int .i64 r.1, .int .i64 r.2]) ∧ Below w.heap.size w w'
set_option maxHeartbeats 8000000 in
set_option maxRecDepth 100000 in
theorem legal_any (k size : Int) (A : Option Addr) (c : Nat) (l : List Spn) (A2 : Option Addr) (c2 : Nat) (o : List Int) (hl : l.length ≤ 24) (hg : (goodB k size && rightL l) = true) (hG : GoodOrder l o) (hR : restB l o = true) (w : World) (H : SpansAt w A l) (HI : IntsAt okAll w A2 o) (hc : o.length ≤ c2) (hA : A2 = none → c2 = 0) :
    Calls Try.prog 9 #[.int .u8 k, .int .i64 size, .slice A l.length c, .slice A2 o.length c2] w (LegalPost (runF l (stNew k size) o 0) w) := by
  have ho := good_short hG
  have ho24 : o.length ≤ 24 := by omega
  have HAS : Hid (askF k size l = 0) := Lib.hid (by unfold askF; rw [hg]; rfl)
  have HGB : Hid (goodB k size = true) := Lib.hid (by rw [Bool.and_eq_true] at hg; exact hg.1)
  have HGO := Lib.hid hG
  have HRE := Lib.hid hR
  have HA2 := Lib.hid hA
  have hb0 : Below w.heap.size w (w.alloc (.cells #[.slice A l.length c] 22)) := (Below.refl _ _).alloc (Nat.le_refl _) _
  have HS0 := Lib.hid (spans_below H hb0)
  have HI0 := Lib.hid (ints_below HI hb0)
  have HX0 := Lib.hid (heap_alloc_new w (.cells #[.slice A l.length c] 22))
  have HB0 := Lib.hid hb0
  clear hg hG hR H HI hA hb0 ho
  go_enter Try.func9, Try.ntmps9
  go_wp2_with (go_at_call 12; refine (asked_any k size A c l (by omega) _ HS0.out).mono ?_; rintro e w1 ⟨he, hb⟩; rw [HAS.out] at he; subst he; have B1 := Lib.hid (HB0.out.trans (hb.mono HB0.out.size)); have X1 := hp_below HX0.out hb; have S1 := Lib.hid (spans_below HS0.out hb); have I1 := Lib.hid (ints_below HI0.out hb); have XH := Lib.hid X1; have x1 : w1.cell? ⟨w.heap.size, 0, none⟩ = some (.slice A l.length c) := hp_cell X1 0; clear hb X1)
  go_loop [27] (fun i => ∃ j : Nat, j ≤ o.length ∧ i = .int .i64 j) (fun i => o.length - (intOf i).toNat)
  case atStart => exact ⟨0, by omega, rfl⟩
  case round =>
    obtain ⟨j, hj, rfl⟩ := hrel
    by_cases hlt : j < o.length
    · obtain ⟨n, n1, n2, n3, _⟩ := HGO.out j hlt
      obtain ⟨ad, rfl, hcn⟩ := ints_at I1.out hlt
      have hmv : nthI o j = (n : Int) := by unfold nthI; rw [n1]; rfl
      rw [hmv] at hcn
      have HN3 := Lib.hid n3
      have t1 : decide (j < o.length) = true := decide_eq_true hlt
      have t1' : decide ((j : Int) < (o.length : Int)) = true := decide_eq_true (by omega)
      have t3 : (j : Int) < (o.length : Int) := by omega
      have t4 : (0 : Int) ≤ (j : Int) := by omega
      have t5 : decide ((n : Int) < 0) = false := decide_eq_false (by omega)
      have t6 : decide ((l.length : Int) ≤ (n : Int)) = false := decide_eq_false (by omega)
      have t6' : decide (l.length ≤ n) = false := decide_eq_false (by omega)
      have s1 : ∀ w, (Instr.slice 26 (.slice (some ad) o.length c2) none (some (.int .i64 (j : Int))) none).run Try.prog w = .ok (.slice (some ad) j c2) w := fun w => islice_to (some ad) o.length c2 j (by omega) HA2.out w
      clear hmv n1 n3
      go_wp2_with (go_at_call 17; refine (contains_take (some ad) c2 o j (by omega) (n : Int) ho24 _ I1.out).mono ?_; rintro e w' ⟨he, rfl⟩; rw [HN3.out] at he; subst he)
      go_round
      case rel => exact ⟨j + 1, by omega, by go_num⟩
      case measure => simp [intOf]; omega
    · have t1 : decide (j < o.length) = false := decide_eq_false hlt
      have t1' : decide ((j : Int) < (o.length : Int)) = false := decide_eq_false (by omega)
      go_wp2_with (first | (go_at_call 18; refine (rest_any A c l A2 c2 o (by omega) (by omega) _ S1.out I1.out).mono ?_; rintro e w2 ⟨he, hb⟩; rw [HRE.out] at he; subst he; have B2 := Lib.hid (B1.out.trans (hb.mono B1.out.size)); have S2 := Lib.hid (spans_below S1.out hb); have I2 := Lib.hid (ints_below I1.out hb); have X2 := Lib.hid (hp_below XH.out hb); clear hb) | (go_at_call 14; refine (oNewGood k size HGB.out _).mono ?_; rintro e w3 ⟨a, rfl, ho, hb⟩; have O3 := Lib.hid ho; have B3 := Lib.hid hb; clear hb ho))
      clear t1 t1' hlt hj x1
      go_loopw [57] (fun i wr => ∃ (j : Nat) (st' : St), j ≤ o.length ∧ i = .int .i64 j ∧ Hid (OAt w2.heap.size wr (.pointer (some a)) st') ∧ Hid (runF l (stNew k size) o 0 = runF l st' (o.drop j) j) ∧ Hid (Below w2.heap.size w2 wr)) (fun i _ => o.length - (intOf i).toNat)
      case atStart => exact ⟨0, _, by omega, rfl, O3, Lib.hid rfl, B3⟩
      case round =>
        obtain ⟨j, st', hj, rfl, HO, HRF, HB⟩ := hrel
        clear O3 B3
        by_cases hlt : j < o.length
        · obtain ⟨n, n1, n2, _, _⟩ := HGO.out j hlt
          have HNL := Lib.hid (good_later HGO.out hlt n1)
          have hbW : Below wr.heap.size wr (wr.alloc (.cells #[.int .i64 n] 3)) := (Below.refl _ _).alloc (Nat.le_refl _) _
          have S3 := Lib.hid (spans_below S2.out HB.out)
          have I3 := Lib.hid (ints_below I2.out HB.out)
          have X3 := Lib.hid (hp_below X2.out HB.out)
          have HW3 := Lib.hid (show OAt w2.heap.size (wr.alloc (.cells #[.int .i64 n] 3)) (.pointer (some a)) st' ∧ Below w2.heap.size w2 (wr.alloc (.cells #[.int .i64 n] 3)) ∧ SpansAt (wr.alloc (.cells #[.int .i64 n] 3)) A l ∧ (wr.alloc (.cells #[.int .i64 n] 3)).heap[w.heap.size]? = some (.cells #[.slice A l.length c] 22 (0, 0)) ∧ (wr.alloc (.cells #[.int .i64 n] 3)).heap[wr.heap.size]? = some (.cells #[.int .i64 n] 3 (0, 0)) from ⟨OAt_below HO.out hbW, HB.out.alloc HB.out.size _, spans_below S3.out hbW, hp_below X3.out hbW, heap_alloc_new wr _⟩)
          have hfl := findLater l A c hl n n2 w.heap.size wr.heap.size (o.drop (j + 1)) (idropAt A2 c2 (j + 1)) (c2 - (j + 1)) (by simp; omega) HNL.out (wr.alloc (.cells #[.int .i64 n] 3)) HW3.out.2.2.1 (ints_below (ints_drop I3.out c2 (j + 1) hc (by omega)) hbW) (hp_cell HW3.out.2.2.2.1 0) (hp_cell HW3.out.2.2.2.2 0)
          rw [List.length_drop] at hfl
          have HFL := Lib.hid hfl
          have s2 : ∀ w, (Instr.slice 26 (.slice A2 o.length c2) (some (.int .i64 ((j : Int) + 1))) none none).run Try.prog w = .ok (.slice (idropAt A2 c2 (j + 1)) (o.length - (j + 1)) (c2 - (j + 1))) w := fun w => islice_from A2 o.length c2 j (by omega) hc HA2.out w
          have HRN : Hid (runF l st' (o.drop j) j = bif (whyF st' (sp l n)).1 != 0 then ((j : Int), (whyF st' (sp l n)).1) else runF l (whyF st' (sp l n)).2 (o.drop (j + 1)) (j + 1)) := Lib.hid (by
            rw [List.drop_eq_getElem_cons hlt, show o[j] = (n : Int) by rw [List.getElem?_eq_getElem hlt] at n1; exact Option.some.inj n1]
            show (bif (whyF st' (sp l (n : Int).toNat)).1 != 0 then _ else _) = _
            rw [Int.toNat_natCast])
          obtain ⟨ad2, hA2e, hcn⟩ := ints_at I3.out hlt
          have hmv : nthI o j = (n : Int) := by unfold nthI; rw [n1]; rfl
          rw [hmv] at hcn
          subst hA2e
          have t1 : decide (j < o.length) = true := decide_eq_true hlt
          have t1' : decide ((j : Int) < (o.length : Int)) = true := decide_eq_true (by omega)
          have t3 : (j : Int) < (o.length : Int) := by omega
          have t4 : (0 : Int) ≤ (j : Int) := by omega
          have u3 : (n : Int) < (l.length : Int) := by omega
          have u4 : (0 : Int) ≤ (n : Int) := by omega
          clear hmv n1 hfl hbW
          obtain ⟨ad, hAe, _⟩ := sp_at S3.out n2
          subst hAe
          cases hq : ((whyF st' (sp l n)).1 != 0)
          all_goals
            go_wp2_with (first | (go_at_call 20; go_in) | (go_at_call 33; refine HFL.out.mono ?_; rintro e w5 ⟨rfl, hd⟩; have hb5 := below_of_drewN hd; have O5 := Lib.hid (OAt_below HW3.out.1 hb5); have B5 := Lib.hid (HW3.out.2.1.trans (hb5.mono HW3.out.2.1.size)); have x5 : w5.cell? ⟨w.heap.size, 0, none⟩ = some (.slice (some ad) l.length c) := hp_cell (hp_below HW3.out.2.2.2.1 hb5) 0; have y5 : w5.cell? ⟨wr.heap.size, 0, none⟩ = some (.int .i64 n) := hp_cell (hp_below HW3.out.2.2.2.2 hb5) 0; obtain ⟨hok, a0, a1, a2, a3, a4, a5⟩ := sp_some (spans_below HW3.out.2.2.1 hb5) n2; clear hd hb5) | (go_at_call 21; refine (why_any w2 (.pointer (some a)) st' (sp l n) hok w5 O5.out B5.out).mono ?_; rintro e w6 ⟨rfl, ho6, hb6⟩; have O6 := Lib.hid ho6; have B6 := Lib.hid hb6; clear ho6 hb6 x5 y5 a0 a1 a2 a3 a4 a5))
          · go_roundw
            case rel => exact ⟨j + 1, _, by omega, by go_num, O6, Lib.hid (by rw [HRF.out, HRN.out, hq]; rfl), B6⟩
            case measure => simp [intOf]; omega
          · go_ret2
            exact ⟨by rw [HRF.out, HRN.out, hq]; rfl, B2.out.trans (B6.out.mono B2.out.size)⟩
        · have t1 : decide (j < o.length) = false := decide_eq_false hlt
          have t1' : decide ((j : Int) < (o.length : Int)) = false := decide_eq_false (by omega)
          have HE : Hid (runF l (stNew k size) o 0 = (0, 0)) := Lib.hid (by rw [HRF.out, List.drop_eq_nil_of_le (by omega)]; rfl)
          go_wp2_with fail
          go_ret2
          exact ⟨by rw [HE.out]; rfl, B2.out.trans (HB.out.mono B2.out.size)⟩
end Go.Proofs.Ytbanfaboimachaa
