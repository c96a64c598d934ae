
/-
  The reference's Shape.
-/
import Derived.Test.YtmmfadakhnagpaaRef7
import Derived.Test.YtmmfadakhnagpaaRef8
import Derived.Deep.RegionHeld3
namespace Go.Proofs.Ytmmfadakhnagpaa
open Go.RowKit
set_option linter.unusedSimpArgs false
set_option linter.unusedVariables false
variable {ok : Nat → Prop} {r : Nat} {k size owner n gen : Int} {l : List Int}

theorem row_ok2 {W : World} {base c : Nat} {A : Option Addr} {l : List Int} (h : RowAt W base A c l) (hok : ∀ k, base ≤ k → ok k) : l.length ≤ c ∧ (A = none → c = 0) ∧ ValsAt ok W A l := by
  obtain ⟨A', c', hv, h2, _, h3, h4, _⟩ := vals_own (ok := ok) h.1 h.2 hok
  simp only [Value.slice.injEq, true_and] at hv
  obtain ⟨rfl, rfl⟩ := hv
  exact ⟨h2, h4, h3⟩
set_option maxHeartbeats 4000000 in
set_option maxRecDepth 100000 in
theorem rShape (w : World) (H : RIn ok w r k size owner n gen l) : Calls Try.prog 17 #[.pointer (some ⟨r, 0, none⟩)] w fun e w' => RShape w.heap.size owner n gen l e w' ∧ Below w.heap.size w w' := by
  obtain ⟨_, h0, A, cc, hh, q1, q2, q3⟩ := H
  have h4 := h0.1
  simp only [RCells] at hh
  have hb := (Below.refl w.heap.size w).alloc (Nat.le_refl _) (.cells #[.int .i64 0, .int .i64 0, .int .i64 0, .slice none 0 0] 42)
  have hS := ShS.mk (ok := ok) (W := w) (q := w.heap.size) (hp_alloc hh (.cells #[.int .i64 0, .int .i64 0, .int .i64 0, .slice none 0 0] 42)) ⟨_, _, _, _, heap_alloc_new w _⟩ (vals_below q3 hb) hb (Nat.le_refl _)
  have H2 := Lib.hid q2
  have HS := Lib.hid hS
  clear hh q1 q2 q3 hb hS h0
  go_enter Try.func17, Try.ntmps17
  go_wp2_with fail
  generalize w.alloc (.cells #[.int .i64 0, .int .i64 0, .int .i64 0, .slice none 0 0] 42) = W0 at *
  have hS0 := HS.out
  have HS0 := HS
  have HV0 := Lib.hid (ShS.vals hS0)
  unfold ShS at hS0
  clear HS
  go_region_held3 (fun w' => w'.cell? ⟨r, 2, none⟩ = some (.int .i64 owner) ∧ w'.cell? ⟨r, 3, none⟩ = some (.int .i64 n) ∧ w'.cell? ⟨r, 4, none⟩ = some (.int .i64 gen) ∧ w'.cell? ⟨r, 5, none⟩ = some (.slice A l.length cc) ∧
      w'.cell? ⟨w.heap.size, 0, none⟩ = some (cellV w' ⟨w.heap.size, 0, none⟩) ∧ w'.cell? ⟨w.heap.size, 1, none⟩ = some (cellV w' ⟨w.heap.size, 1, none⟩) ∧ w'.cell? ⟨w.heap.size, 2, none⟩ = some (cellV w' ⟨w.heap.size, 2, none⟩) ∧ w'.cell? ⟨w.heap.size, 3, none⟩ = some (cellV w' ⟨w.heap.size, 3, none⟩) ∧
      w'.frozen? ⟨w.heap.size, 0, none⟩ = false ∧ w'.frozen? ⟨w.heap.size, 1, none⟩ = false ∧ w'.frozen? ⟨w.heap.size, 2, none⟩ = false ∧ w'.frozen? ⟨w.heap.size, 3, none⟩ = false ∧
      (w'.heap[r]? = some (.cells #[.int .u8 k, .int .i64 size, .int .i64 owner, .int .i64 n, .int .i64 gen, .slice A l.length cc] 77 (0, 0)) ∧ (∃ a b c d, w'.heap[w.heap.size]? = some (.cells #[a, b, c, d] 42 (0, 0))) ∧ ValsAt ok w' A l ∧ Below w.heap.size w w' ∧ w.heap.size ≤ w.heap.size))
    (first | assumption | (show ShS ok w r w.heap.size k size owner n gen l A cc _; (repeat (with_reducible first | apply ShS.drew | apply ShS.alloc | apply ShS.set)); first | assumption | exact hS0))
    (first | (refine step_append_vals (ok := ok) rfl (.tmp 18) (.tmp 22) rfl W0.heap.size (some ⟨_, 0, none⟩) 0 [] rfl (row_at0 (by first | exact (congrArg _ (by simp)).trans (heap_alloc_new _ _) | exact (show _ from ((congrArg _ (by simp)).trans (heap_alloc_new _ _) : (World.alloc _ _).heap[_]? = _))) (by first | omega | (simp; done) | (simp; omega))) A cc l rfl H2.out (vals_below HV0.out (by (repeat (with_reducible first | (refine bl_alloc ?_ (by first | omega | (simp; done) | (simp; omega)) _) | apply bl_drewN | apply Below.drew)); exact Below.refl _ _)) (by simp; omega) (by first | omega | (simp; done) | (simp; omega)) l (List.nil_append l) ?_; intro A3 c3 w3 hr3 hg3; have hb3 : Below W0.heap.size W0 w3 := Below.grown (by (repeat (with_reducible first | (refine bl_alloc ?_ (by first | omega | (simp; done) | (simp; omega)) _) | apply bl_drewN | apply Below.drew)); exact Below.refl _ _ : Below W0.heap.size W0 _) hg3 (by first | omega | (simp; done) | (simp; omega)) (fun k hk => by simp [blk] at hk; omega); have hS3 := ShS.below HS0.out hb3; unfold ShS at hS3; have ROW3 := Lib.hid hr3; clear hr3 hg3 hb3))
  all_goals
    clear hS0
    obtain ⟨_, _, _, _, y0, y1, y2, y3, z0, z1, z2, z3, m⟩ := hS3
    have HM := Lib.hid m
    clear m
    go_wp2_with fail
    refine bodyPost_ret (by simp [results, Try.results17, go_sem, y0, y1, y2, y3]; try rfl) rfl ?_
    obtain ⟨_, ⟨a, b, c, d, hq⟩, _, hb, _⟩ := HM.out
    have hw0 : w.heap.size ≤ W0.heap.size := (HS0.out.2.2.2.2.2.2.2.2.2.2.2.2.2.2.2.1).size
    obtain ⟨u1, u2, u3⟩ := row_ok2 (ok := fun k => w.heap.size ≤ k) ROW3.out (fun j hj => Nat.le_trans hw0 hj)
    exact ⟨⟨A3, c3, rfl, u1, u2, vals_new4 u3 hq (by decide) _ _ _ _⟩, bl_new (bl_new (bl_new (bl_new hb (Nat.le_refl _) _) (Nat.le_refl _) _) (Nat.le_refl _) _) (Nat.le_refl _) _⟩
end Go.Proofs.Ytmmfadakhnagpaa
