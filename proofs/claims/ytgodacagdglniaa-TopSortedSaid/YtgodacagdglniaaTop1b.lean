
/-
  rowlocktop.TopSorted: for every slice of values it returns true.
-/
import Derived.Test.YtgodacagdglniaaRowv
import Derived.Test.YtgodacagdglniaaTop1a
import Derived.Handy
import Derived.LoopTactic
import Derived.Deep.DeepCutAuto
import Derived.Deep.CutBlock
import Derived.Deep.QuietTactic
import Derived.BigQuiet
import Derived.BigRegion
import Derived.ChangeSlices
import Derived.Outline
namespace Go.Proofs.Ytgodacagdglniaa
open Go.RowKit Go.ChangeShapes Go.WideShapes
set_option linter.unusedSimpArgs false
set_option linter.unusedVariables false

/-- A slice of values that came in. -/
def ValsIn (w : World) (A : Option Addr) (n : Nat) : Prop := n ≤ maxLen ∧ ∀ j, j < n → ∃ ad v, A = some ad ∧ W64 v ∧ w.cell? (ad.add j) = some (.int .u64 v)
theorem vals_of {H : Type} {enc : TypeId × Value → H} {W : World} {base : Nat} {spare : Nat → Bool} {held : Bool} {a : Option Addr} {len cap : Nat} {d : DataW H} {p : List MemPlace} (h : DataW.Trod enc Try.prog W base spare held 22 (.slice a len cap) d p) : ValsIn W a len := by
  obtain ⟨fuel, h⟩ := h
  rcases open_ints Try.underlying22 Try.underlying24 (by kernel_rfl) h with ⟨h0, _⟩ | ⟨a', len', cap', zs, hcs, hb, hl, hm, hlen, _, hx, hz⟩
  · obtain ⟨rfl, rfl, rfl⟩ : a = none ∧ len = 0 ∧ cap = 0 := by simpa [Value.cells] using h0
    exact ⟨Nat.zero_le _, fun j hj => absurd hj (Nat.not_lt_zero _)⟩
  · obtain ⟨rfl, rfl, rfl⟩ : a = some a' ∧ len = len' ∧ cap = cap' := by simpa [Value.cells] using hcs
    refine ⟨Nat.le_trans hl hm, fun j hj => ?_⟩
    have hj' : j < zs.length := by rw [hlen]; split <;> omega
    have hq := hz (zs.getD j 0) (by rw [List.getD_eq_getElem?_getD, List.getElem?_eq_getElem hj']; exact List.getElem_mem hj')
    refine ⟨a', zs.getD j 0, rfl, ?_, hx j hj'⟩
    have := bounds_u64 hq
    exact ⟨by omega, by omega⟩
theorem row_cell {w : World} {base c : Nat} {A : Option Addr} {l : List Int} (h : RowAt w base A c l) {k : Nat} (hk : k < l.length) : ∃ ad, A = some ad ∧ w.cell? (ad.add k) = some (.int .u64 (at0 l k)) := by
  cases A with
  | none => have := vals_none (row_vals h).1; subst this; simp at hk
  | some ad =>
    refine ⟨ad, rfl, vals_cell (row_vals h).1 k _ ?_⟩
    rw [valsC_get, List.getElem?_eq_getElem hk]
    unfold at0
    rw [List.getElem?_eq_getElem hk]
    rfl
theorem vals_take {ok : Nat → Prop} {w : World} {A : Option Addr} {l : List Int} (h : ValsAt ok w A l) (k : Nat) : ValsAt ok w A (l.take k) := by
  obtain ⟨h0, h | ⟨g, o, cells, hA, hg, hc, hk⟩⟩ := h
  · exact ⟨fun v hv => h0 v (List.mem_of_mem_take hv), .inl ⟨h.1, by rw [h.2]; simp⟩⟩
  · refine ⟨fun v hv => h0 v (List.mem_of_mem_take hv), .inr ⟨g, o, cells, hA, hg, fun j v hv => hc j v ?_, hk⟩⟩
    rw [List.getElem?_take] at hv
    split at hv
    · exact hv
    · cases hv
theorem row_cell0 {w : World} {base c : Nat} {A : Option Addr} {l : List Int} (h : RowAt w base A c l) {k : Nat} (hk : k < l.length) : ∃ g, A = some ⟨g, 0, none⟩ ∧ w.cell? ⟨g, k, none⟩ = some (.int .u64 (at0 l k)) := by
  obtain ⟨ad, rfl, hc⟩ := row_cell h hk
  rcases h.1.2 with ⟨hn, _⟩ | ⟨g, cap, cur, hv, _⟩
  · simp at hn
  · simp only [Value.slice.injEq, Option.some.injEq] at hv
    obtain ⟨rfl, _⟩ := hv
    rw [add_at, Nat.zero_add] at hc
    exact ⟨g, rfl, hc⟩
def dropAt (A : Option Addr) (c k : Nat) : Option Addr := A.map fun a => if c = k then a else a.add k
theorem vals_drop {ok : Nat → Prop} {w : World} {A : Option Addr} {l : List Int} (h : ValsAt ok w A l) (c k : Nat) (hlc : l.length ≤ c) (hk : k ≤ l.length) : ValsAt ok w (dropAt A c k) (l.drop k) := by
  obtain ⟨h0, h | ⟨g, o, cells, hA, hg, hc, hk'⟩⟩ := h
  · refine ⟨fun v hv => h0 v (List.mem_of_mem_drop hv), .inl ⟨by rw [h.1]; rfl, by rw [h.2]; simp⟩⟩
  · refine ⟨fun v hv => h0 v (List.mem_of_mem_drop hv), .inr ?_⟩
    subst hA
    by_cases e : c = k
    · refine ⟨g, o, cells, by simp [dropAt, e], hg, fun j v hv => ?_, hk'⟩
      have : l.drop k = [] := List.drop_eq_nil_of_le (by omega)
      rw [this] at hv
      simp at hv
    · refine ⟨g, o + k, cells, by simp [dropAt, e, add_at], hg, fun j v hv => ?_, hk'⟩
      rw [List.getElem?_drop] at hv
      have := hc (k + j) v hv
      rwa [show o + (k + j) = o + k + j by omega] at this
theorem slice_to (A : Option Addr) (n c k : Nat) (hk : k ≤ c) (hA : A = none → c = 0) (w : World) : (Instr.slice 22 (.slice A n c) none (some (.int .i64 (k : Int))) none).run Try.prog w = .ok (.slice A k c) w := by
  have hu := run_underlying (P := Try.prog) Try.underlying22
  have hs : ∀ w, (sizeOf 24).run Try.prog w = .ok 1 w := fun w => by kernel_rfl
  cases A with
  | none =>
    obtain rfl := hA rfl
    obtain rfl : k = 0 := by omega
    simp [Instr.slice, Instr.sliceBounds, Instr.sliceBound, asIntOf, hu, hs]
  | some a =>
    simp [Instr.slice, Instr.sliceBounds, Instr.sliceBound, asIntOf, hu, hs]
    rw [if_pos (by omega)]
    simp [Addr.add]
theorem slice_from (A : Option Addr) (n c k : Nat) (hk : k ≤ n) (hn : n ≤ c) (hA : A = none → c = 0) (w : World) : (Instr.slice 22 (.slice A n c) (some (.int .i64 (k : Int))) none none).run Try.prog w = .ok (.slice (dropAt A c k) (n - k) (c - k)) w := by
  have hu := run_underlying (P := Try.prog) Try.underlying22
  have hs : ∀ w, (sizeOf 24).run Try.prog w = .ok 1 w := fun w => by kernel_rfl
  cases A with
  | none =>
    obtain rfl := hA rfl
    obtain rfl : n = 0 := by omega
    obtain rfl : k = 0 := by omega
    simp [Instr.slice, Instr.sliceBounds, Instr.sliceBound, asIntOf, hu, hs, dropAt]
  | some a =>
    simp [Instr.slice, Instr.sliceBounds, Instr.sliceBound, asIntOf, hu, hs]
    rw [if_pos (by omega)]
    by_cases h : c = k <;> simp [h, dropAt]
theorem neg_inf (w : World) : Calls Try.prog 9 #[.int .u64 9218868437227405312] w fun e w' => e = .returned (.int .u64 18442240474082181120) ∧ w = w' :=
  (neg_any 9218868437227405312 ⟨by decide, by decide⟩ w).mono fun e w' ⟨h1, h2⟩ => ⟨by rw [h1]; congr 2, h2⟩
theorem less_end1 (w : World) : Calls Try.prog 7 #[.int .u64 18442240474082181120, .int .u64 9223372036854775808] w fun e w' => e = .returned (.bool true) ∧ w = w' :=
  (less_any _ _ ⟨by decide, by decide⟩ ⟨by decide, by decide⟩ w).mono fun e w' ⟨h1, h2⟩ => ⟨by rw [h1]; congr 2, h2⟩
theorem less_end2 (w : World) : Calls Try.prog 7 #[.int .u64 9218868437227405312, .int .u64 9221120237041090560] w fun e w' => e = .returned (.bool true) ∧ w = w' :=
  (less_any _ _ ⟨by decide, by decide⟩ ⟨by decide, by decide⟩ w).mono fun e w' ⟨h1, h2⟩ => ⟨by rw [h1]; congr 2, h2⟩
theorem row_ok3 {w : World} {base c : Nat} {A : Option Addr} {l : List Int} (h : RowAt w base A c l) : l.length ≤ c ∧ (A = none → c = 0) ∧ ValsAt (fun k => base ≤ k) w A l := by
  obtain ⟨A', c', hv, h2, _, h3, h4, _⟩ := vals_own (ok := fun k => base ≤ k) h.1 h.2 (fun _ h => h)
  simp only [Value.slice.injEq, true_and] at hv
  obtain ⟨rfl, rfl⟩ := hv
  exact ⟨h2, h4, h3⟩
def SrtAt (W : World) (A : Option Addr) (c : Nat) (l : List Int) (w : World) : Prop := RowAt w W.heap.size A c l ∧ Below W.heap.size W w ∧ Srt l
theorem hp_drew' {w : World} {g : Nat} {o : Obj} (h : w.heap[g]? = some o) : w.drew.heap[g]? = some o := h
theorem row_base {w : World} {base base' c : Nat} {A : Option Addr} {l : List Int} (h : RowAt w base A c l) (hb : base' ≤ base) : RowAt w base' A c l := by
  refine ⟨⟨h.1.1, ?_⟩, h.2⟩
  rcases h.1.2 with h | ⟨g, cap, cur, hv, hg, h⟩
  · exact .inl h
  · exact .inr ⟨g, cap, cur, hv, Nat.le_trans hb hg, h⟩
theorem srt_at {W wr w5 : World} {A : Option Addr} {c : Nat} {l : List Int} (hb : Below W.heap.size W wr) (h5 : Below wr.heap.size wr w5) (hr : RowAt w5 wr.heap.size A c l) (hs : Srt l) : Hid (SrtAt W A c l w5) :=
  Lib.hid ⟨row_base hr hb.size, hb.trans (h5.mono hb.size), hs⟩
theorem srt_drew {W w : World} {A : Option Addr} {c : Nat} {l : List Int} (h : SrtAt W A c l w) (n : Nat) : SrtAt W A c l (w.drewN n) :=
  ⟨row_below h.1 (bl_drewN (Below.refl _ _) n), bl_drewN h.2.1 n, h.2.2⟩
set_option maxHeartbeats 16000000 in
set_option maxRecDepth 100000 in
theorem topSorted_walk (W : World) (A : Option Addr) (len cap : Nat) (hC : ValsIn W A len) :
    Calls Try.prog 3 #[.slice A len cap] W fun e w' => e = .returned (.bool true) ∧ Below W.heap.size W w' := by
  have HC := Lib.hid hC
  have hlm : len ≤ 9223372036854775807 := by have := hC.1; unfold maxLen at this; omega
  clear hC
  go_enter Try.func3, Try.ntmps3
  go_wp2_with fail
  go_loopw [4, 3] (fun i s wr => ∃ (j : Nat) (l : List Int) (A' : Option Addr) (c' : Nat), j ≤ 20 ∧ i = .int .i64 j ∧ s = .slice A' l.length c' ∧ l.length = j ∧ Hid (SrtAt W A' c' l wr)) (fun i _ _ => 20 - (intOf i).toNat)
  case atStart => exact ⟨0, [], none, 0, by omega, rfl, rfl, rfl, ⟨row_nil _ _, Below.refl _ _, fun x hx => (List.not_mem_nil hx).elim, fun j hj => absurd hj (by simp)⟩⟩
  case round =>
    obtain ⟨j, l, A', c', hj, rfl, rfl, hlj, HS⟩ := hrel
    subst hlj
    by_cases hlt : l.length < len ∧ l.length < 20
    · obtain ⟨ad, v0, rfl, hv0, hc0⟩ := HC.out.2 l.length hlt.1
      have c0 : wr.cell? (ad.add l.length) = some (.int .u64 v0) := (HS.out.2.1.cell (p := ad.add l.length) (World.block_lt_of_cell? W _ hc0)).trans hc0
      clear hc0
      obtain ⟨h1, h2⟩ := hlt
      have t1 : decide (l.length < len) = true := decide_eq_true h1
      have t1' : decide ((l.length : Int) < (len : Int)) = true := decide_eq_true (by omega)
      have t2 : decide ((l.length : Int) < 20) = true := decide_eq_true (by omega)
      have t3 : (l.length : Int) < (len : Int) := by omega
      have t4 : (0 : Int) ≤ (l.length : Int) := by omega
      have hv : W64 (canon v0) := canon_w64 hv0
      have hr : rightB (canon v0) = true := canon_right
      go_wp2_with (go_at_call 6; refine (canon_any v0 hv0 _).mono ?_; rintro e w' ⟨rfl, rfl⟩)
      generalize canon v0 = v at *
      go_loop [6] (fun k => ∃ n : Nat, n ≤ l.length ∧ k = .int .i64 n ∧ Hid (∀ j, j < n → lessB v (at0 l j) = false)) (fun k => l.length - (intOf k).toNat)
      case atStart => exact ⟨0, by omega, rfl, fun j hj => absurd hj (by omega)⟩
      case round =>
        obtain ⟨k, hk, rfl, HK⟩ := hrel
        clear c0 t1 t1' t2 t3 t4
        have hx : (k < l.length ∧ lessB v (at0 l k) = false) ∨ decide (k < l.length) = false ∨ (k < l.length ∧ lessB v (at0 l k) = true) := by
          by_cases h : k < l.length
          · cases hb : lessB v (at0 l k)
            · exact .inl ⟨h, rfl⟩
            · exact .inr (.inr ⟨h, rfl⟩)
          · exact .inr (.inl (decide_eq_false h))
        rcases hx with ⟨hx, hb⟩ | hx
        · obtain ⟨ad', rfl, hck⟩ := row_cell HS.out.1 hx
          have hw : W64 (at0 l k) := (HS.out.2.2.1 _ (at0_mem hx)).1
          have t1 : decide (k < l.length) = true := decide_eq_true hx
          have t1' : decide ((k : Int) < (l.length : Int)) = true := decide_eq_true (by omega)
          have t3 : (k : Int) < (l.length : Int) := by omega
          have t4 : (0 : Int) ≤ (k : Int) := by omega
          go_wp2_with (go_at_call 7; refine (less_any v (at0 l k) hv hw _).mono ?_; rintro e w' ⟨rfl, rfl⟩)
          go_round
          case rel => exact ⟨k + 1, by omega, by go_num, Lib.hid (fun j hj => by
            by_cases e : j = k
            · rw [e]; exact hb
            · exact HK.out j (by omega))⟩
          case measure => simp [intOf]; omega
        · have HX0 : Srt ((l.take k ++ [v]) ++ l.drop k) := srt_ins hk HS.out.2.2 hv hr HK.out (by
            intro h
            rcases hx with hx | ⟨_, hb⟩
            · exact absurd h (of_decide_eq_false hx)
            · exact hb)
          have hrow := row_ok3 HS.out.1
          have HR := Lib.hid hrow
          have HT0 := vals_take hrow.2.2 k
          have HD0 := vals_drop hrow.2.2 c' k hrow.1 hk
          obtain ⟨lt, hlt⟩ : ∃ x, x = l.take k := ⟨_, rfl⟩
          obtain ⟨ld, hld⟩ : ∃ x, x = l.drop k := ⟨_, rfl⟩
          obtain ⟨l1, hl1⟩ : ∃ x, x = lt ++ [v] := ⟨_, rfl⟩
          obtain ⟨l2, hl2⟩ : ∃ x, x = l1 ++ ld := ⟨_, rfl⟩
          rw [← hlt, ← hld, ← hl1, ← hl2] at HX0
          rw [← hlt] at HT0
          rw [← hld] at HD0
          have HX := Lib.hid HX0
          have HT := Lib.hid HT0
          have HD1 := Lib.hid HD0
          have HLT : Hid (lt.length = k) := Lib.hid (by rw [hlt]; simp; omega)
          have HLD : Hid (ld.length = l.length - k) := Lib.hid (by rw [hld]; simp)
          have HL1 : Hid (l1.length = k + 1) := Lib.hid (by rw [hl1]; simp [HLT.out])
          have HL2 : Hid (l2.length = l.length + 1) := Lib.hid (by rw [hl2]; simp [HL1.out, HLD.out]; omega)
          have HE1 := Lib.hid hl1.symm
          have HE2 := Lib.hid hl2.symm
          have s1 : ∀ w, (Instr.slice 22 (.slice A' l.length c') none (some (.int .i64 (k : Int))) none).run Try.prog w = .ok (.slice A' k c') w := fun w => slice_to A' l.length c' k (Nat.le_trans hk hrow.1) hrow.2.1 w
          have s2 : ∀ w, (Instr.slice 22 (.slice A' l.length c') (some (.int .i64 (k : Int))) none none).run Try.prog w = .ok (.slice (dropAt A' c' k) (l.length - k) (c' - k)) w := fun w => slice_from A' l.length c' k hk hrow.1 hrow.2.1 w
          have HAD0 : dropAt A' c' k = none → c' - k = 0 := fun h => by
            cases A' with
            | none => have := hrow.2.1 rfl; omega
            | some a => simp [dropAt] at h
          clear hrow hlt hld hl1 hl2 HX0 HT0 HD0
          generalize dropAt A' c' k = Ad at *
          generalize c' - k = cd at *
          have HD := HD1
          have HAD := Lib.hid HAD0
          clear HD1 HAD0
          have HB := Lib.hid HS.out.2.1
          have hck : ∀ b, lessB v (at0 l k) = b → k < l.length → ∃ ad, A' = some ad ∧ wr.cell? (ad.add k) = some (.int .u64 (at0 l k)) := fun b _ h => row_cell HS.out.1 h
          have HCK := Lib.hid hck
          clear hck
          rcases hx with t1 | ⟨hx, hb⟩
          · go_wp2_with fail
            clear t1
            first | (go_region_law (first | (refine step_append_vals (ok := fun k => W.heap.size ≤ k) rfl (.tmp 38) (.tmp 41) rfl wr.heap.size (some ⟨_, 0, none⟩) 0 [] rfl (row_at0 (by first | exact (congrArg _ (by simp)).trans (heap_alloc_new _ _) | exact hp_drew' ((congrArg _ (by simp)).trans (heap_alloc_new _ _)) | exact hp_alloc ((congrArg _ (by simp)).trans (heap_alloc_new _ _)) _ | exact hp_drew' (hp_alloc ((congrArg _ (by simp)).trans (heap_alloc_new _ _)) _) | exact hp_alloc (hp_drew' ((congrArg _ (by simp)).trans (heap_alloc_new _ _))) _) (by first | omega | (simp; done) | (simp; omega))) A' c' lt (by rw [HLT.out]; rfl) HR.out.2.1 (vals_below HT.out (by (repeat (with_reducible first | (refine bl_alloc ?_ (by first | omega | (simp; done) | (simp; omega)) _) | apply bl_drewN | apply Below.drew)); exact Below.refl _ _)) (by have := HLT.out; simp; omega) (by first | omega | (simp; done) | (simp; omega)) lt (List.nil_append _) ?_; intro A3 c3 w3 hr3 hg3; have hb3 : Below wr.heap.size wr w3 := Below.grown (by (repeat (with_reducible first | (refine bl_alloc ?_ (by first | omega | (simp; done) | (simp; omega)) _) | apply bl_drewN | apply Below.drew)); exact Below.refl _ _ : Below wr.heap.size wr _) hg3 (by first | omega | (simp; done) | (simp; omega)) (fun k hk => by simp [blk] at hk; omega); have ROW3 := Lib.hid hr3; have HB3 := Lib.hid hb3; have KP3 := Lib.hid (fun j hj hr => hg3.block j hj hr); clear hr3 hg3 hb3) | (refine step_append_vals (ok := fun _ => True) rfl (.tmp 42) (.tmp 44) rfl wr.heap.size A3 c3 lt rfl (row_below ROW3.out (by (repeat (with_reducible first | (refine bl_alloc ?_ (by first | omega | (simp; done) | (simp; omega)) _) | apply bl_drewN | apply Below.drew)); exact Below.refl _ _)) (some ⟨_, 0, none⟩) 1 [v] rfl (fun h => by cases h) (vals_at1 hv (by first | exact (congrArg _ (by simp)).trans (heap_alloc_new _ _) | exact hp_drew' ((congrArg _ (by simp)).trans (heap_alloc_new _ _)) | exact hp_alloc ((congrArg _ (by simp)).trans (heap_alloc_new _ _)) _ | exact hp_drew' (hp_alloc ((congrArg _ (by simp)).trans (heap_alloc_new _ _)) _) | exact hp_alloc (hp_drew' ((congrArg _ (by simp)).trans (heap_alloc_new _ _))) _ | exact (KP3.out _ (by first | (simp; done) | (simp; omega)) (by simp [blk])).trans (by first | exact (congrArg _ (by simp)).trans (heap_alloc_new _ _) | exact hp_drew' ((congrArg _ (by simp)).trans (heap_alloc_new _ _)) | exact hp_alloc ((congrArg _ (by simp)).trans (heap_alloc_new _ _)) _ | exact hp_drew' (hp_alloc ((congrArg _ (by simp)).trans (heap_alloc_new _ _)) _) | exact hp_alloc (hp_drew' ((congrArg _ (by simp)).trans (heap_alloc_new _ _))) _) | exact hp_drew' ((KP3.out _ (by first | (simp; done) | (simp; omega)) (by simp [blk])).trans (by first | exact (congrArg _ (by simp)).trans (heap_alloc_new _ _) | exact hp_drew' ((congrArg _ (by simp)).trans (heap_alloc_new _ _)) | exact hp_alloc ((congrArg _ (by simp)).trans (heap_alloc_new _ _)) _ | exact hp_drew' (hp_alloc ((congrArg _ (by simp)).trans (heap_alloc_new _ _)) _) | exact hp_alloc (hp_drew' ((congrArg _ (by simp)).trans (heap_alloc_new _ _))) _)))) (by have := HLT.out; simp; omega) (by have := HB3.out.size; first | omega | (simp; omega)) l1 HE1.out ?_; intro A4 c4 w4 hr4 hg4; have hb4 : Below wr.heap.size wr w4 := Below.grown (by (repeat (with_reducible first | (refine bl_alloc ?_ (by have := HB3.out.size; first | omega | (simp; done) | (simp; omega)) _) | apply bl_drewN | apply Below.drew)); exact HB3.out : Below wr.heap.size wr _) hg4 (by have := HB3.out.size; first | omega | (simp; omega)) (fun k hk => (row_lt ROW3.out k hk).1); have ROW4 := Lib.hid hr4; have HB4 := Lib.hid hb4; clear hr4 hg4 hb4) | (refine step_append_vals (ok := fun k => W.heap.size ≤ k) rfl (.tmp 45) (.tmp 48) rfl wr.heap.size A4 c4 l1 rfl (row_below ROW4.out (by (repeat (with_reducible first | (refine bl_alloc ?_ (by first | omega | (simp; done) | (simp; omega)) _) | apply bl_drewN | apply Below.drew)); exact Below.refl _ _)) Ad cd ld (by rw [HLD.out]; rfl) HAD.out (vals_below HD.out (by (repeat (with_reducible first | (refine bl_alloc ?_ (by have := HB4.out.size; first | omega | (simp; done) | (simp; omega)) _) | apply bl_drewN | apply Below.drew)); exact HB4.out : Below wr.heap.size wr _)) (by have := HL1.out; have := HLD.out; omega) (by have := HB4.out.size; first | omega | (simp; omega)) l2 HE2.out ?_; intro A5 c5 w5 hr5 hg5; have hb5 : Below wr.heap.size wr w5 := Below.grown (by (repeat (with_reducible first | (refine bl_alloc ?_ (by have := HB4.out.size; first | omega | (simp; done) | (simp; omega)) _) | apply bl_drewN | apply Below.drew)); exact HB4.out : Below wr.heap.size wr _) hg5 (by have := HB4.out.size; first | omega | (simp; omega)) (fun k hk => (row_lt ROW4.out k hk).1); have ROW5 := Lib.hid hr5; have HB5 := Lib.hid hb5; clear hr5 hg5 hb5))) | fail "law"
            all_goals
              clear s1 s2
              go_wp2_with fail
              go_roundw
              case rel => exact ⟨l2.length, l2, A5, c5, by have := HL2.out; omega, by rw [HL2.out]; go_num, rfl, rfl, srt_at HB.out HB5.out ROW5.out HX.out⟩
              case measure => simp [intOf]; omega
          · obtain ⟨ad', hA', hck⟩ := HCK.out _ hb hx
            subst hA'
            have hw : W64 (at0 l k) := (HS.out.2.2.1 _ (at0_mem hx)).1
            have t1 : decide (k < l.length) = true := decide_eq_true hx
            have t1' : decide ((k : Int) < (l.length : Int)) = true := decide_eq_true (by omega)
            have t3 : (k : Int) < (l.length : Int) := by omega
            have t4 : (0 : Int) ≤ (k : Int) := by omega
            go_wp2_with (go_at_call 7; refine (less_any v (at0 l k) hv hw _).mono ?_; rintro e w' ⟨rfl, rfl⟩)
            clear t1 t1' hck hb HCK
            generalize (some ad' : Option Addr) = A' at *
            first | (go_region_law (first | (refine step_append_vals (ok := fun k => W.heap.size ≤ k) rfl (.tmp 38) (.tmp 41) rfl wr.heap.size (some ⟨_, 0, none⟩) 0 [] rfl (row_at0 (by first | exact (congrArg _ (by simp)).trans (heap_alloc_new _ _) | exact hp_drew' ((congrArg _ (by simp)).trans (heap_alloc_new _ _)) | exact hp_alloc ((congrArg _ (by simp)).trans (heap_alloc_new _ _)) _ | exact hp_drew' (hp_alloc ((congrArg _ (by simp)).trans (heap_alloc_new _ _)) _) | exact hp_alloc (hp_drew' ((congrArg _ (by simp)).trans (heap_alloc_new _ _))) _) (by first | omega | (simp; done) | (simp; omega))) A' c' lt (by rw [HLT.out]; rfl) HR.out.2.1 (vals_below HT.out (by (repeat (with_reducible first | (refine bl_alloc ?_ (by first | omega | (simp; done) | (simp; omega)) _) | apply bl_drewN | apply Below.drew)); exact Below.refl _ _)) (by have := HLT.out; simp; omega) (by first | omega | (simp; done) | (simp; omega)) lt (List.nil_append _) ?_; intro A3 c3 w3 hr3 hg3; have hb3 : Below wr.heap.size wr w3 := Below.grown (by (repeat (with_reducible first | (refine bl_alloc ?_ (by first | omega | (simp; done) | (simp; omega)) _) | apply bl_drewN | apply Below.drew)); exact Below.refl _ _ : Below wr.heap.size wr _) hg3 (by first | omega | (simp; done) | (simp; omega)) (fun k hk => by simp [blk] at hk; omega); have ROW3 := Lib.hid hr3; have HB3 := Lib.hid hb3; have KP3 := Lib.hid (fun j hj hr => hg3.block j hj hr); clear hr3 hg3 hb3) | (refine step_append_vals (ok := fun _ => True) rfl (.tmp 42) (.tmp 44) rfl wr.heap.size A3 c3 lt rfl (row_below ROW3.out (by (repeat (with_reducible first | (refine bl_alloc ?_ (by first | omega | (simp; done) | (simp; omega)) _) | apply bl_drewN | apply Below.drew)); exact Below.refl _ _)) (some ⟨_, 0, none⟩) 1 [v] rfl (fun h => by cases h) (vals_at1 hv (by first | exact (congrArg _ (by simp)).trans (heap_alloc_new _ _) | exact hp_drew' ((congrArg _ (by simp)).trans (heap_alloc_new _ _)) | exact hp_alloc ((congrArg _ (by simp)).trans (heap_alloc_new _ _)) _ | exact hp_drew' (hp_alloc ((congrArg _ (by simp)).trans (heap_alloc_new _ _)) _) | exact hp_alloc (hp_drew' ((congrArg _ (by simp)).trans (heap_alloc_new _ _))) _ | exact (KP3.out _ (by first | (simp; done) | (simp; omega)) (by simp [blk])).trans (by first | exact (congrArg _ (by simp)).trans (heap_alloc_new _ _) | exact hp_drew' ((congrArg _ (by simp)).trans (heap_alloc_new _ _)) | exact hp_alloc ((congrArg _ (by simp)).trans (heap_alloc_new _ _)) _ | exact hp_drew' (hp_alloc ((congrArg _ (by simp)).trans (heap_alloc_new _ _)) _) | exact hp_alloc (hp_drew' ((congrArg _ (by simp)).trans (heap_alloc_new _ _))) _) | exact hp_drew' ((KP3.out _ (by first | (simp; done) | (simp; omega)) (by simp [blk])).trans (by first | exact (congrArg _ (by simp)).trans (heap_alloc_new _ _) | exact hp_drew' ((congrArg _ (by simp)).trans (heap_alloc_new _ _)) | exact hp_alloc ((congrArg _ (by simp)).trans (heap_alloc_new _ _)) _ | exact hp_drew' (hp_alloc ((congrArg _ (by simp)).trans (heap_alloc_new _ _)) _) | exact hp_alloc (hp_drew' ((congrArg _ (by simp)).trans (heap_alloc_new _ _))) _)))) (by have := HLT.out; simp; omega) (by have := HB3.out.size; first | omega | (simp; omega)) l1 HE1.out ?_; intro A4 c4 w4 hr4 hg4; have hb4 : Below wr.heap.size wr w4 := Below.grown (by (repeat (with_reducible first | (refine bl_alloc ?_ (by have := HB3.out.size; first | omega | (simp; done) | (simp; omega)) _) | apply bl_drewN | apply Below.drew)); exact HB3.out : Below wr.heap.size wr _) hg4 (by have := HB3.out.size; first | omega | (simp; omega)) (fun k hk => (row_lt ROW3.out k hk).1); have ROW4 := Lib.hid hr4; have HB4 := Lib.hid hb4; clear hr4 hg4 hb4) | (refine step_append_vals (ok := fun k => W.heap.size ≤ k) rfl (.tmp 45) (.tmp 48) rfl wr.heap.size A4 c4 l1 rfl (row_below ROW4.out (by (repeat (with_reducible first | (refine bl_alloc ?_ (by first | omega | (simp; done) | (simp; omega)) _) | apply bl_drewN | apply Below.drew)); exact Below.refl _ _)) Ad cd ld (by rw [HLD.out]; rfl) HAD.out (vals_below HD.out (by (repeat (with_reducible first | (refine bl_alloc ?_ (by have := HB4.out.size; first | omega | (simp; done) | (simp; omega)) _) | apply bl_drewN | apply Below.drew)); exact HB4.out : Below wr.heap.size wr _)) (by have := HL1.out; have := HLD.out; omega) (by have := HB4.out.size; first | omega | (simp; omega)) l2 HE2.out ?_; intro A5 c5 w5 hr5 hg5; have hb5 : Below wr.heap.size wr w5 := Below.grown (by (repeat (with_reducible first | (refine bl_alloc ?_ (by have := HB4.out.size; first | omega | (simp; done) | (simp; omega)) _) | apply bl_drewN | apply Below.drew)); exact HB4.out : Below wr.heap.size wr _) hg5 (by have := HB4.out.size; first | omega | (simp; omega)) (fun k hk => (row_lt ROW4.out k hk).1); have ROW5 := Lib.hid hr5; have HB5 := Lib.hid hb5; clear hr5 hg5 hb5))) | fail "law"
            all_goals
              clear s1 s2
              go_wp2_with fail
              go_roundw
              case rel => exact ⟨l2.length, l2, A5, c5, by have := HL2.out; omega, by rw [HL2.out]; go_num, rfl, rfl, srt_at HB.out HB5.out ROW5.out HX.out⟩
              case measure => simp [intOf]; omega
    · have t : decide (l.length < len) = false ∨ decide (l.length < len) = true ∧ decide ((l.length : Int) < 20) = false := by
        by_cases h : l.length < len
        · exact .inr ⟨decide_eq_true h, decide_eq_false (by omega)⟩
        · exact .inl (decide_eq_false h)
      clear hlt
      rcases t with t1 | ⟨t1, t2⟩
      all_goals
        go_wp2_with fail
        go_loopw [7] (fun i wq => ∃ n : Nat, n ≤ 20 ∧ i = .int .i64 ((n : Int) + 1) ∧ Hid (SrtAt W A' c' l wq)) (fun i _ => 22 - (intOf i).toNat)
        case atStart => exact ⟨0, by omega, rfl, HS⟩
        case round =>
          obtain ⟨n, hn, rfl, HQ⟩ := hrel
          clear HS t1
          by_cases hlt : n + 1 < l.length
          · obtain ⟨g, rfl, hca⟩ := row_cell0 HQ.out.1 hlt
            obtain ⟨g', ha', hcb⟩ := row_cell0 HQ.out.1 (show n < l.length by omega)
            obtain rfl : g = g' := by simpa using ha'
            have ha : W64 (at0 l (n + 1)) := (HQ.out.2.2.1 _ (at0_mem hlt)).1
            have hb : W64 (at0 l n) := (HQ.out.2.2.1 _ (at0_mem (by omega))).1
            obtain ⟨k1, k2, k3, k4⟩ := srt_above HQ.out.2.2 hlt
            generalize at0 l (n + 1) = a at *
            generalize at0 l n = b at *
            have K1 := Lib.hid k1
            have t1 : decide ((n : Int) + 1 < (l.length : Int)) = true := decide_eq_true (by omega)
            have t3 : (n : Int) + 1 < (l.length : Int) := by omega
            have t4 : (n : Int) < (l.length : Int) := by omega
            have t5 : (0 : Int) ≤ (n : Int) + 1 := by omega
            have t6 : (0 : Int) ≤ (n : Int) := by omega
            have e1 : (n : Int) + 1 - 1 = (n : Int) := by omega
            have e2 : ((n : Int) + 1).toNat = n + 1 := by omega
            clear k1
            have hq : ((classOf b == 3) = false) ∨ ((classOf b == 3) = true ∧ (classOf a != 3) = false) := by
              cases h : (classOf b == 3)
              · exact .inl rfl
              · exact .inr ⟨rfl, k2 h⟩
            have hz : ((a == 9223372036854775808) = false) ∨ ((a == 9223372036854775808) = true ∧ (b == 0) = false) := by
              cases h : (a == 9223372036854775808)
              · exact .inl rfl
              · exact .inr ⟨rfl, k3 h⟩
            have hy : ((a == 18442240474082181120) = false) ∨ ((a == 18442240474082181120) = true ∧ (b != a) = false) := by
              cases h : (a == 18442240474082181120)
              · exact .inl rfl
              · exact .inr ⟨rfl, k4 h⟩
            have HY := Lib.hid hy
            have HZ := Lib.hid hz
            clear k2 k3 k4 hy hz
            go_wp2_with fail
            rcases hq with q1 | ⟨q1, q2⟩
            · go_quiet (first | (go_at_call 7; refine Calls.quiet_of_same ((less_any a b ha hb _).mono (fun _ _ h => ⟨by rw [h.1, K1.out], h.2.symm⟩))) | (go_at_call 8; refine Calls.quiet_of_same ((classOf_any b hb _).mono (fun _ _ h => ⟨h.1, h.2.symm⟩))))
              have HQ2 := Lib.hid (srt_drew HQ.out nq)
              have hca2 : (wr.drewN nq).cell? ⟨g, n + 1, none⟩ = some (.int .u64 a) := hca
              have hcb2 : (wr.drewN nq).cell? ⟨g, n, none⟩ = some (.int .u64 b) := hcb
              clear hca hcb HQ
              generalize wr.drewN nq = wq at *
              rcases HZ.out with z1 | ⟨z1, z2⟩ <;> rcases HY.out with y1 | ⟨y1, y2⟩
              all_goals
                go_wp2_with fail
                go_quiet ((go_at_call 9; exact Calls.quiet_of_same ((neg_inf _).mono (fun _ _ h => ⟨h.1, h.2.symm⟩))))
                go_wp2_with fail
                go_roundw
                case rel => exact ⟨n + 1, by omega, by go_num, Lib.hid (srt_drew HQ2.out _)⟩
                case measure => simp [intOf]; omega
            · go_quiet (first | (go_at_call 7; refine Calls.quiet_of_same ((less_any a b ha hb _).mono (fun _ _ h => ⟨by rw [h.1, K1.out], h.2.symm⟩))) | (go_at_call 8; refine Calls.quiet_of_same ((classOf_any _ (by assumption) _).mono (fun _ _ h => ⟨h.1, h.2.symm⟩))))
              have HQ2 := Lib.hid (srt_drew HQ.out nq)
              have hca2 : (wr.drewN nq).cell? ⟨g, n + 1, none⟩ = some (.int .u64 a) := hca
              have hcb2 : (wr.drewN nq).cell? ⟨g, n, none⟩ = some (.int .u64 b) := hcb
              clear hca hcb HQ
              generalize wr.drewN nq = wq at *
              rcases HZ.out with z1 | ⟨z1, z2⟩ <;> rcases HY.out with y1 | ⟨y1, y2⟩
              all_goals
                go_wp2_with fail
                go_quiet ((go_at_call 9; exact Calls.quiet_of_same ((neg_inf _).mono (fun _ _ h => ⟨h.1, h.2.symm⟩))))
                go_wp2_with fail
                go_roundw
                case rel => exact ⟨n + 1, by omega, by go_num, Lib.hid (srt_drew HQ2.out _)⟩
                case measure => simp [intOf]; omega
          · have t1 : decide ((n : Int) + 1 < (l.length : Int)) = false := decide_eq_false (by omega)
            go_wp2_with (first | (go_at_call 9; refine (neg_inf _).mono ?_; rintro e w' ⟨rfl, rfl⟩) | (go_at_call 7; ((with_reducible refine (less_end1 _).mono ?_); rintro e w' ⟨rfl, rfl⟩)) | (go_at_call 7; ((with_reducible refine (less_end2 _).mono ?_); rintro e w' ⟨rfl, rfl⟩)))
            go_ret
            exact ⟨by first | rfl | simp, HQ.out.2.1⟩
end Go.Proofs.Ytgodacagdglniaa
