
/-
  ThreadNone: the walk.
-/
import Derived.Test.YtdkcmnnhjnapiaaTh9
namespace Go.Proofs.Ytdkcmnnhjnapiaa
open Go.RowKit Go.ChangeShapes Go.WideShapes
set_option linter.unusedSimpArgs false
set_option linter.unusedVariables false

set_option maxRecDepth 20000 in
set_option maxHeartbeats 8000000 in
theorem new_arg (g o c : Nat) (l : List Ins3) (h : l.length ≤ c) (h1 : 1 ≤ l.length) (h4 : l.length ≤ 64) (w W : World) (hi : InssAt w (some ⟨g, o, none⟩) l) (hW : Below W.heap.size W w) : Calls Try.prog 16 #[.slice (some ⟨g, o, none⟩) l.length c] w fun e w' => (∃ t f p c', e = .returned (.pointer (some ⟨t, 0, none⟩)) ∧ w'.heap[t]? = some (.cells (thC f p l.length c' .nilIface 0 0 0 0 0) 56 (0, 0)) ∧ RsX W w' t f p l sZ none 0) ∧ Below w.heap.size w w' := by
  have HI := Lib.hid hi
  have HW := Lib.hid hW
  have HL := Lib.hid (And.intro h (And.intro h1 h4))
  have t1 : decide ((l.length : Int) < 1) = false := decide_eq_false (by omega)
  have t2 : decide ((l.length : Int) > 64) = false := decide_eq_false (by omega)
  have t3 : decide ((64 : Int) < (l.length : Int)) = false := t2
  have X1 := Lib.hid (show (w.alloc (.cells #[.int .i64 0, .slice none 0 0, .int .u64 0, .int .u64 0, .int .u64 0, .int .u64 0, .slice none 0 0] 58)).heap[w.heap.size]? = some (.cells (stC sZ none 0 none 0) 58 (0, 0)) from heap_alloc_new w _)
  have B1 := Lib.hid ((Below.refl w.heap.size w).alloc (Nat.le_refl _) (.cells #[.int .i64 0, .slice none 0 0, .int .u64 0, .int .u64 0, .int .u64 0, .int .u64 0, .slice none 0 0] 58))
  clear hi hW h h1 h4
  go_enter Try.func16, Try.ntmps16
  go_wp2_with (go_at_call 30; refine (clone_inss ⟨g, o, none⟩ c l HL.out.1 (by have := HL.out; omega) (fun x hx => by obtain ⟨j, hj, rfl⟩ := List.getElem_of_mem hx; obtain ⟨_, _, hh⟩ := HI.out.2 j _ (List.getElem?_eq_getElem hj); exact hh.1) _ (fun j u hu => by exact (B1.out.cell (World.block_lt_of_cell? w _ (inss_cells HI.out j u hu))).trans (inss_cells HI.out j u hu))).mono ?_; rintro e w3 ⟨A', c', rfl, hr3, hb3⟩; have R3 := Lib.hid hr3; have B3 := Lib.hid hb3; clear hr3 hb3)
  go_ret
  obtain ⟨p, hp, hpb, hpx⟩ := prX_of R3.out HL.out.2.1
  subst hp
  obtain ⟨cs, h1, h2⟩ := hpx
  have hz := (Below.refl w3.heap.size w3).alloc (Nat.le_refl _) (.cells (thC w.heap.size p l.length c' .nilIface 0 0 0 0 0) 56)
  have hb : Below w.heap.size w (w3.alloc (.cells (thC w.heap.size p l.length c' .nilIface 0 0 0 0 0) 56)) := (B1.out.trans (B3.out.mono B1.out.size)).trans (hz.mono (Nat.le_trans B1.out.size B3.out.size))
  exact ⟨⟨_, _, _, _, rfl, heap_alloc_new w3 _, hp_below (hp_below X1.out B3.out) hz, ⟨cs, hp_below h1 hz, h2⟩, row_nil _ 0, HW.out.trans (hb.mono HW.out.size), by have a := HW.out.size; have b := (B1.out.trans (B3.out.mono B1.out.size)).size; omega, HW.out.size⟩, hb⟩
theorem new_both (A : Option Addr) (c : Nat) (l : List Ins3) (hc : l.length ≤ c) (w : World) (hi : InssAt w A l) : Calls Try.prog 16 #[.slice A l.length c] w fun e w' => (∃ q, e = .returned (.pointer q) ∧ ∀ (w : World), (binOp .neq 25 (.pointer q) (.pointer none)).run Try.prog w = .ok (.bool (decide (1 ≤ l.length ∧ l.length ≤ 64))) w) ∧ Below w.heap.size w w' := by
  by_cases h : 1 ≤ l.length ∧ l.length ≤ 64
  · obtain ⟨ad, rfl, h0⟩ := hi.2 0 _ (List.getElem?_eq_getElem (show 0 < l.length by omega))
    have hsp : ad.spot = none := by simpa [Addr.add] using World.cell?_spot h0.2.1
    obtain ⟨g, o, sp⟩ := ad
    simp only at hsp
    subst hsp
    refine (new_arg g o c l hc h.1 h.2 w w hi (Below.refl _ _)).mono ?_
    rintro e w' ⟨⟨t, f, p, c', rfl, _, _⟩, hb⟩
    refine ⟨⟨_, rfl, fun w => ?_⟩, hb⟩
    rw [decide_eq_true h]
    kernel_rfl
  · refine (new_nil A c l h w).mono ?_
    rintro e w' ⟨rfl, hb⟩
    refine ⟨⟨none, rfl, fun w => ?_⟩, hb⟩
    rw [decide_eq_false h]
    kernel_rfl
def Bw (W w : World) : Prop := Below W.heap.size W w
theorem bw_next {W w w1 : World} (h : Hid (Bw W w)) (hb : Below w.heap.size w w1) : Hid (Bw W w1) := Lib.hid (show Below W.heap.size W w1 from (show Below W.heap.size W w from h.out).trans (hb.mono (show Below W.heap.size W w from h.out).size))
set_option maxRecDepth 20000 in
set_option maxHeartbeats 16000000 in
theorem threadNone_walk (W : World) (v : Int) (hv : (Lit.int .u64 v).wf = true) (a0 : Option Addr) (n0 c0 : Nat) (h0 : InsIn W a0 n0 c0) : Calls Try.prog 3 #[.int .u64 v, .slice a0 n0 c0] W fun e w' => e = .returned (.bool true) ∧ Below W.heap.size W w' := by
  obtain ⟨l0, rfl, hil, hc0, _⟩ := h0
  have HF := Lib.hid (show ∀ w : World, Calls Try.prog 17 #[.slice a0 l0.length c0] w (fun e w' => e = .returned (.slice a0 (l0.take 65).length c0) ∧ w = w') from fun w => few18 a0 c0 l0 hc0 w)
  have HM := Lib.hid (show ∀ w : World, Calls Try.prog 18 #[.slice a0 l0.length c0] w (fun e w' => e = .returned (.bool (decide (1 ≤ (l0.take 65).length ∧ (l0.take 65).length ≤ 64))) ∧ w = w') from fun w => may18 a0 c0 l0 hc0 w)
  have HN := Lib.hid (show ∀ w : World, Hid (Bw W w) → Calls Try.prog 16 #[.slice a0 (l0.take 65).length c0] w (fun e w' => (∃ q, e = .returned (.pointer q) ∧ ∀ (w : World), (binOp .neq 25 (.pointer q) (.pointer none)).run Try.prog w = .ok (.bool (decide (1 ≤ (l0.take 65).length ∧ (l0.take 65).length ≤ 64))) w) ∧ Below w.heap.size w w') from fun w hb => new_both a0 c0 (l0.take 65) (by rw [List.length_take]; omega) w (inss_below (inss_take hil 65) hb.out))
  obtain ⟨n1, hn1⟩ : ∃ n, l0.length = n := ⟨_, rfl⟩
  obtain ⟨n2, hn2⟩ : ∃ n, (l0.take 65).length = n := ⟨_, rfl⟩
  obtain ⟨bm, hbm⟩ : ∃ b, decide (1 ≤ (l0.take 65).length ∧ (l0.take 65).length ≤ 64) = b := ⟨_, rfl⟩
  rw [hbm] at HM HN
  rw [hn1] at HF HM ⊢
  rw [hn2] at HF HN
  have hbb : ∀ w : World, (binOp .eql 4 (.bool bm) (.bool bm)).run Try.prog w = .ok (.bool true) w := by intro w; cases bm <;> kernel_rfl
  have BW := Lib.hid (show Bw W W from Below.refl _ _)
  clear hil hc0 hn1 hn2 hbm
  go_enter Try.func3, Try.ntmps3
  go_wp2_with (first | (go_at_call 4; refine (live18 _).mono ?_; rintro e wn ⟨rfl, hb⟩; have BW' := bw_next BW hb; clear hb BW; have BW := BW'; clear BW') | (go_at_call 5; refine (nil_step _).mono ?_; rintro e wn ⟨rfl, hb⟩; have BW' := bw_next BW hb; clear hb BW; have BW := BW'; clear BW') | (go_at_call 6; refine (nil_began _).mono ?_; rintro e wn ⟨rfl, hb⟩; have BW' := bw_next BW hb; clear hb BW; have BW := BW'; clear BW') | (go_at_call 7; refine (nil_give v _).mono ?_; rintro e wn ⟨rfl, hb⟩; have BW' := bw_next BW hb; clear hb BW; have BW := BW'; clear BW') | (go_at_call 8; refine (nil_restart _).mono ?_; rintro e wn ⟨rfl, hb⟩; have BW' := bw_next BW hb; clear hb BW; have BW := BW'; clear BW') | (go_at_call 10; refine (nil_state _).mono ?_; rintro e wn ⟨rfl, hb⟩; have BW' := bw_next BW hb; clear hb BW; have BW := BW'; clear BW') | (go_at_call 9; refine (sameState_zero _).mono ?_; rintro e wn ⟨rfl, hb⟩; have BW' := bw_next BW hb; clear hb BW; have BW := BW'; clear BW') | (go_at_call 11; refine (nil_inside _).mono ?_; rintro e wn ⟨rfl, hb⟩; have BW' := bw_next BW hb; clear hb BW; have BW := BW'; clear BW') | (go_at_call 12; refine (nil_marks _).mono ?_; rintro e wn ⟨rfl, hb⟩; have BW' := bw_next BW hb; clear hb BW; have BW := BW'; clear BW') | (go_at_call 13; refine (nil_needs _).mono ?_; rintro e wn ⟨rfl, hb⟩; have BW' := bw_next BW hb; clear hb BW; have BW := BW'; clear BW') | (go_at_call 14; refine (nil_left _).mono ?_; rintro e wn ⟨rfl, hb⟩; have BW' := bw_next BW hb; clear hb BW; have BW := BW'; clear BW') | (go_at_call 15; refine (nil_fork _).mono ?_; rintro e wn ⟨rfl, hb⟩; have BW' := bw_next BW hb; clear hb BW; have BW := BW'; clear BW') | (go_at_call 17; refine (HF.out _).mono ?_; rintro e wq ⟨rfl, rfl⟩) | (go_at_call 18; refine (HM.out _).mono ?_; rintro e wq ⟨rfl, rfl⟩) | (go_at_call 16; refine (HN.out _ BW).mono ?_; rintro e wn ⟨⟨q, rfl, hq⟩, hb⟩; have BW' := bw_next BW hb; clear hb BW; have BW := BW'; clear BW'))
  go_ret
  exact ⟨rfl, BW.out⟩
end Go.Proofs.Ytdkcmnnhjnapiaa
