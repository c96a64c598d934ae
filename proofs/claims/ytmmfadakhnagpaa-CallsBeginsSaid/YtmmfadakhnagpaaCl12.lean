
/-
  CallsBegins: the walk.
-/
import Derived.Test.YtmmfadakhnagpaaCl11
import Derived.Test.YtmmfadakhnagpaaRef7
import Derived.OpenShut
import Derived.Deep.RegionHeld3
import Derived.Deep.CutBlock
import Derived.RegionTactic
import Derived.BigRegion
import Derived.Handy
namespace Go.Proofs.Ytmmfadakhnagpaa
open Go.RowKit Go.ChangeShapes Go.WideShapes
set_option linter.unusedSimpArgs false
set_option linter.unusedVariables false

def allB (_ : Nat) : Prop := True
/-- What the law's end looks at. -/
def BS (W : World) (b r : Nat) (K sz cnt : Int) (w : World) : Prop := w.cell? ⟨b, 0, none⟩ = some (.int .i64 (-1)) ∧ w.cell? ⟨b, 1, none⟩ = some (.int .i64 cnt) ∧ w.cell? ⟨b, 2, none⟩ = some (.int .i64 0) ∧ w.cell? ⟨b, 3, none⟩ = some (.slice none 0 0) ∧ (w.heap[b]? = some (.cells #[.int .i64 (-1), .int .i64 cnt, .int .i64 0, .slice none 0 0] 42 (0, 0)) ∧ RIn allB w r K sz (-1) cnt 0 [] ∧ Below W.heap.size W w)
theorem BS.mk {W w : World} {b r : Nat} {K sz cnt : Int} (h : w.heap[b]? = some (.cells #[.int .i64 (-1), .int .i64 cnt, .int .i64 0, .slice none 0 0] 42 (0, 0))) (hr : RIn allB w r K sz (-1) cnt 0 []) (hb : Below W.heap.size W w) : BS W b r K sz cnt w := ⟨hp_cell h 0, hp_cell h 1, hp_cell h 2, hp_cell h 3, h, hr, hb⟩
theorem BS.below {W w w1 : World} {b r : Nat} {K sz cnt : Int} (h : BS W b r K sz cnt w) (hb : Below w.heap.size w w1) : BS W b r K sz cnt w1 :=
  BS.mk (hp_below h.2.2.2.2.1 hb) (RIn_below h.2.2.2.2.2.1 hb) (h.2.2.2.2.2.2.trans (hb.mono h.2.2.2.2.2.2.size))
theorem BS.drew {W w : World} {b r : Nat} {K sz cnt : Int} (h : BS W b r K sz cnt w) : BS W b r K sz cnt w.drew := h.below (Below.drew (Below.refl _ _))
set_option maxRecDepth 100000 in
set_option maxHeartbeats 16000000 in
theorem begins_case (K sz cnt : Int) (n : Nat) (vals : List Int)
    (HB : ∀ w : World, Calls Try.prog 13 #[.int .u8 K, .int .i64 sz] w fun e w' => ∃ g, e = .returned (.tuple #[.slice (some ⟨g, 0, none⟩) n n, .int .i64 0]) ∧ w'.heap[g]? = some (.cells (valsC vals).toArray 53 (0, 0)) ∧ Below w.heap.size w w')
    (HT : ∀ w : World, Calls Try.prog 12 #[.int .u8 K, .int .i64 sz] w fun e w' => e = .returned (.int .i64 n) ∧ Below w.heap.size w w')
    (HN : ∀ w : World, Calls Try.prog 14 #[.int .u8 K, .int .i64 sz] w fun e w' => ∃ r, e = .returned (.pointer (some ⟨r, 0, none⟩)) ∧ RIn allB w' r K sz (-1) cnt 0 [] ∧ Below w.heap.size w w')
    (HS : ∀ (g : Nat) (w : World), w.heap[g]? = some (.cells (valsC vals).toArray 53 (0, 0)) → Calls Try.prog 15 #[.int .u8 K, .int .i64 sz, .slice (some ⟨g, 0, none⟩) n n] w fun e w' => e = .returned (.tuple #[.agg #[.int .i64 (-1), .int .i64 cnt, .int .i64 0, .slice none 0 0], .int .i64 0]) ∧ Below w.heap.size w w')
    (W : World) : Calls Try.prog 5 #[.int .u8 K, .int .i64 sz] W fun e w' => e = .returned (.bool true) ∧ Below W.heap.size W w' := by
  have HB' := Lib.hid HB
  have HT' := Lib.hid HT
  have HN' := Lib.hid HN
  have HS' := Lib.hid HS
  clear HB HT HN HS
  go_enter Try.func5, Try.ntmps5
  go_upto_region 5 with (first | (go_at_call 13; refine (HB'.out _).mono ?_; rintro e w1 ⟨g, rfl, hg, hb⟩; have G1 := Lib.hid hg; have B1 := Lib.hid hb; clear hg hb) | (go_at_call 14; refine (HN'.out _).mono ?_; rintro e w2 ⟨r, rfl, hr, hb⟩; have G2 := Lib.hid (hp_below G1.out hb); have R2 := Lib.hid hr; have B2 := Lib.hid (B1.out.trans (hb.mono B1.out.size)); clear hr hb))
  go_upto_region 6 with (go_at_call 15; refine (HS'.out g _ G2.out).mono ?_; rintro e w3 ⟨rfl, hb⟩; have R3 := Lib.hid (RIn_below R2.out hb); have B3 := Lib.hid (B2.out.trans (hb.mono B2.out.size)); clear hb)
  have hS0 : BS W w3.heap.size r K sz cnt (w3.alloc (.cells #[.int .i64 (-1), .int .i64 cnt, .int .i64 0, .slice none 0 0] 42)) := BS.mk (heap_alloc_new w3 _) (RIn_alloc R3.out _) (B3.out.alloc B3.out.size _)
  clear G1 B1 G2 R2 B2 R3 B3 HB' HN' HS'
  generalize World.alloc _ _ = w4 at hS0 ⊢
  obtain ⟨b8, hb8⟩ : ∃ b, w3.heap.size = b := ⟨_, rfl⟩
  rw [hb8] at hS0
  try rw [hb8]
  clear hb8
  have yl : b8 < w4.heap.size := hp_lt hS0.2.2.2.2.1
  have HA1 := Lib.hid (fun (w : World) (h : BS W b8 r K sz cnt w) => (live24 w).mono (R' := fun e w' => e = .returned (.bool true) ∧ BS W b8 r K sz cnt w') (fun e w' hh => ⟨hh.1, h.below hh.2⟩))
  have HA2 := Lib.hid (fun (w : World) (h : BS W b8 r K sz cnt w) => (HT'.out w).mono (R' := fun e w' => e = .returned (.int .i64 n) ∧ BS W b8 r K sz cnt w') (fun e w' hh => ⟨hh.1, h.below hh.2⟩))
  have HA3 := Lib.hid (fun (w : World) (h : BS W b8 r K sz cnt w) => (rShape w h.2.2.2.2.2.1).mono (R' := fun e w' => ∃ A c, e = .returned (.agg #[.int .i64 (-1), .int .i64 cnt, .int .i64 0, .slice A 0 c]) ∧ Hid (∃ okk, ValsAt okk w' A []) ∧ BS W b8 r K sz cnt w') (fun e w' hh => by obtain ⟨⟨A, c, he, _, _, hv⟩, hb⟩ := hh; exact ⟨A, c, he, Lib.hid ⟨_, hv⟩, h.below hb⟩))
  have HA4 := Lib.hid (fun (A : Option Addr) (c : Nat) (w : World) (hv : Hid (∃ okk, ValsAt okk w A [])) (h : BS W b8 r K sz cnt w) => by
    obtain ⟨okk, hv⟩ := hv.out
    exact (sameShape_any (ok := fun _ => True) (ok' := okk) (-1) cnt 0 none A 0 c [] [] w ⟨fun v h => (List.not_mem_nil h).elim, .inl ⟨rfl, rfl⟩⟩ hv (by decide) (by decide)).mono (R' := fun e w' => e = .returned (.bool true) ∧ BS W b8 r K sz cnt w') (fun e w' hh => ⟨by rw [hh.1]; simp, h.below hh.2⟩))
  clear HT'
  go_region_held3 (fun w' => w'.cell? ⟨b8, 0, none⟩ = some (.int .i64 (-1)) ∧ w'.cell? ⟨b8, 1, none⟩ = some (.int .i64 cnt) ∧ w'.cell? ⟨b8, 2, none⟩ = some (.int .i64 0) ∧ w'.cell? ⟨b8, 3, none⟩ = some (.slice none 0 0) ∧ (w'.heap[b8]? = some (.cells #[.int .i64 (-1), .int .i64 cnt, .int .i64 0, .slice none 0 0] 42 (0, 0)) ∧ RIn allB w' r K sz (-1) cnt 0 [] ∧ Below W.heap.size W w'))
    (first | assumption | (show BS W b8 r K sz cnt _; (repeat (with_reducible apply BS.drew)); first | assumption | exact hS0))
    (first | (go_at_call 9; refine (HA1.out _ (by assumption)).mono ?_; rintro e w5 ⟨rfl, s5⟩) | (go_at_call 12; refine (HA2.out _ (by assumption)).mono ?_; rintro e w6 ⟨rfl, s6⟩) | (go_at_call 17; refine (HA3.out _ (by assumption)).mono ?_; rintro e w7 ⟨A7, c7, rfl, v7, s7⟩) | (go_at_call 16; refine (HA4.out A7 c7 _ v7 (by assumption)).mono ?_; rintro e w8 ⟨rfl, s8⟩))
  all_goals
    go_wp2_with fail
    go_ret
    exact ⟨rfl, s8.2.2.2.2.2.2⟩
theorem begin_bad (K sz : Int) (h : goodK K sz = false) (w : World) : Calls Try.prog 13 #[.int .u8 K, .int .i64 sz] w fun e w' => e = .returned (.tuple #[.slice none 0 0, .int .i64 3]) ∧ Below w.heap.size w w' := by
  have HT := Lib.hid (by have := ctv K sz w; rw [show tvI K sz = 0 by unfold tvI; rw [h]; rfl] at this; exact this)
  clear h
  go_enter Try.func13, Try.ntmps13
  go_wp2_with (go_at_call 12; refine HT.out.mono ?_; rintro e w1 ⟨rfl, hb⟩; have HB := Lib.hid hb; clear hb)
  go_ret2
  exact ⟨rfl, HB.out⟩
set_option maxHeartbeats 4000000 in
theorem begins_bad (K sz : Int) (h : goodK K sz = false) (W : World) : Calls Try.prog 5 #[.int .u8 K, .int .i64 sz] W fun e w' => e = .returned (.bool true) ∧ Below W.heap.size W w' := by
  have HB := Lib.hid (begin_bad K sz h)
  have HN := Lib.hid (rNew0 K sz (by rw [← goodK_eq]; exact h))
  have HT := Lib.hid (fun w => by have := ctv K sz w; rw [show tvI K sz = 0 by unfold tvI; rw [h]; rfl] at this; exact this)
  clear h
  go_enter Try.func5, Try.ntmps5
  go_wp2_with (first | (go_at_call 13; refine (HB.out _).mono ?_; rintro e w1 ⟨rfl, hb⟩; have B1 := Lib.hid hb; clear hb) | (go_at_call 14; refine (HN.out _).mono ?_; rintro e w2 ⟨rfl, hb⟩; have B2 := Lib.hid (B1.out.trans (hb.mono B1.out.size)); clear hb) | (go_at_call 9; refine (live24 _).mono ?_; rintro e w3 ⟨rfl, hb⟩; have B3 := Lib.hid (B2.out.trans (hb.mono B2.out.size)); clear hb) | (go_at_call 12; refine (HT.out _).mono ?_; rintro e w4 ⟨rfl, hb⟩; have B4 := Lib.hid (B3.out.trans (hb.mono B3.out.size)); clear hb))
  go_ret
  exact ⟨rfl, B4.out⟩
theorem callsBegins_walk (K : Int) (hK : (Lit.int .u8 K).wf = true) (sz : Int) (hs : (Lit.int .i64 sz).wf = true) (W : World) : Calls Try.prog 5 #[.int .u8 K, .int .i64 sz] W fun e w' => e = .returned (.bool true) ∧ Below W.heap.size W w' := by
  cases hg : goodK K sz
  · exact begins_bad K sz hg W
  · rcases good_cases hg with ⟨rfl, rfl⟩ | ⟨rfl, h1, h2⟩ | ⟨rfl, h1, h2⟩ | ⟨rfl, h1, h2⟩
    · exact begins_case 1 0 0 1 [0]
            (fun w => (begin_good 1 0 hg w).mono (fun e w' h => by obtain ⟨g, he, hh, hb, _⟩ := h; rw [show bgL 1 0 = [0] by kernel_rfl] at he hh; exact ⟨g, he, hh, hb⟩))
            (fun w => by have := ctv 1 0 w; rw [show tvI 1 0 = 1 by kernel_rfl] at this; exact this)
            (fun w => (rNew1 (ok := allB) (fun _ => trivial) w).mono (fun e w' h => by obtain ⟨r, he, hr, hb, _⟩ := h; exact ⟨r, he, hr, hb⟩))
            (fun g w h => shape_1 g w h) W
    · exact begins_case 2 sz sz 1 [intV sz]
            (fun w => (begin_good 2 sz hg w).mono (fun e w' h => by obtain ⟨g, he, hh, hb, _⟩ := h; rw [show bgL 2 sz = [intV sz] from rfl] at he hh; exact ⟨g, he, hh, hb⟩))
            (fun w => by have := ctv 2 sz w; rw [show tvI 2 sz = 1 by unfold tvI; rw [hg]; rfl] at this; exact this)
            (fun w => (rNew2 (ok := allB) (fun _ => trivial) sz h1 h2 w).mono (fun e w' h => by obtain ⟨r, he, hr, hb, _⟩ := h; exact ⟨r, he, hr, hb⟩))
            (fun g w h => shape_2 sz ⟨h1, h2⟩ g w h) W
    · rcases (show sz = 1 ∨ sz = 2 ∨ sz = 3 ∨ sz = 4 by omega) with rfl | rfl | rfl | rfl
      · exact begins_case 3 1 0 3 [0, 0, 0]
            (fun w => (begin_good 3 1 hg w).mono (fun e w' h => by obtain ⟨g, he, hh, hb, _⟩ := h; rw [show bgL 3 1 = [0, 0, 0] by kernel_rfl] at he hh; exact ⟨g, he, hh, hb⟩))
            (fun w => by have := ctv 3 1 w; rw [show tvI 3 1 = 3 by kernel_rfl] at this; exact this)
            (fun w => (rNew3 (ok := allB) (fun _ => trivial) 1 h1 h2 w).mono (fun e w' h => by obtain ⟨r, he, hr, hb, _⟩ := h; exact ⟨r, he, hr, hb⟩))
            (fun g w h => shape_31 g w h) W
      · exact begins_case 3 2 0 4 [0, 0, 0, 0]
            (fun w => (begin_good 3 2 hg w).mono (fun e w' h => by obtain ⟨g, he, hh, hb, _⟩ := h; rw [show bgL 3 2 = [0, 0, 0, 0] by kernel_rfl] at he hh; exact ⟨g, he, hh, hb⟩))
            (fun w => by have := ctv 3 2 w; rw [show tvI 3 2 = 4 by kernel_rfl] at this; exact this)
            (fun w => (rNew3 (ok := allB) (fun _ => trivial) 2 h1 h2 w).mono (fun e w' h => by obtain ⟨r, he, hr, hb, _⟩ := h; exact ⟨r, he, hr, hb⟩))
            (fun g w h => shape_32 g w h) W
      · exact begins_case 3 3 0 5 [0, 0, 0, 0, 0]
            (fun w => (begin_good 3 3 hg w).mono (fun e w' h => by obtain ⟨g, he, hh, hb, _⟩ := h; rw [show bgL 3 3 = [0, 0, 0, 0, 0] by kernel_rfl] at he hh; exact ⟨g, he, hh, hb⟩))
            (fun w => by have := ctv 3 3 w; rw [show tvI 3 3 = 5 by kernel_rfl] at this; exact this)
            (fun w => (rNew3 (ok := allB) (fun _ => trivial) 3 h1 h2 w).mono (fun e w' h => by obtain ⟨r, he, hr, hb, _⟩ := h; exact ⟨r, he, hr, hb⟩))
            (fun g w h => shape_33 g w h) W
      · exact begins_case 3 4 0 6 [0, 0, 0, 0, 0, 0]
            (fun w => (begin_good 3 4 hg w).mono (fun e w' h => by obtain ⟨g, he, hh, hb, _⟩ := h; rw [show bgL 3 4 = [0, 0, 0, 0, 0, 0] by kernel_rfl] at he hh; exact ⟨g, he, hh, hb⟩))
            (fun w => by have := ctv 3 4 w; rw [show tvI 3 4 = 6 by kernel_rfl] at this; exact this)
            (fun w => (rNew3 (ok := allB) (fun _ => trivial) 4 h1 h2 w).mono (fun e w' h => by obtain ⟨r, he, hr, hb, _⟩ := h; exact ⟨r, he, hr, hb⟩))
            (fun g w h => shape_34 g w h) W
    · exact begins_case 4 sz 0 2 [0, 0]
            (fun w => (begin_good 4 sz hg w).mono (fun e w' h => by obtain ⟨g, he, hh, hb, _⟩ := h; rw [show bgL 4 sz = [0, 0] by unfold bgL; rw [show tvI 4 sz = 2 by unfold tvI; rw [hg]; rfl]; rfl] at he hh; exact ⟨g, he, hh, hb⟩))
            (fun w => by have := ctv 4 sz w; rw [show tvI 4 sz = 2 by unfold tvI; rw [hg]; rfl] at this; exact this)
            (fun w => (rNew4 (ok := allB) (fun _ => trivial) sz h1 h2 w).mono (fun e w' h => by obtain ⟨r, he, hr, hb, _⟩ := h; exact ⟨r, he, hr, hb⟩))
            (fun g w h => shape_4 sz ⟨h1, h2⟩ g w h) W
end Go.Proofs.Ytmmfadakhnagpaa
