
/-
  Fork of an object and of the reference's: another one with the same.
-/
import Derived.Test.YtbanfaboimachaaPlay5
import Derived.Test.YtbanfaboimachaaPlays
import Derived.Deep.RegionHeld3
import Derived.Outline
namespace Go.Proofs.Ytbanfaboimachaa
open Go.RowKit
set_option linter.unusedSimpArgs false
set_option linter.unusedVariables false

def ThForkMu (s : Int) (w : World) (e : Ending) (w' : World) : Prop := ∃ b, e = .returned (.iface 61 (.pointer (some ⟨b, 0, none⟩))) ∧ muIn w' b s ∧ Below w.heap.size w w' ∧ w.heap.size ≤ b
def ThForkSe (s : Int) (w : World) (e : Ending) (w' : World) : Prop := ∃ b, e = .returned (.iface 68 (.pointer (some ⟨b, 0, none⟩))) ∧ seIn w' b s ∧ Below w.heap.size w w' ∧ w.heap.size ≤ b
def ThForkQu (s : Int × List Int) (w : World) (e : Ending) (w' : World) : Prop := ∃ b, e = .returned (.iface 71 (.pointer (some ⟨b, 0, none⟩))) ∧ quIn okAll w' b s ∧ Below w.heap.size w w' ∧ w.heap.size ≤ b
def ThForkBa (s : Int × Int × Int) (w : World) (e : Ending) (w' : World) : Prop := ∃ b, e = .returned (.iface 75 (.pointer (some ⟨b, 0, none⟩))) ∧ baIn w' b s ∧ Below w.heap.size w w' ∧ w.heap.size ≤ b
theorem muForkM (a : Nat) (s : Int) (w : World) (H : muIn w a s) : Calls Try.prog 69 #[.pointer (some ⟨a, 0, none⟩)] w (ThForkMu s w) := by
  have hc : w.cell? ⟨a, 0, none⟩ = some (.int .i64 s) := hp_cell H 0
  clear H
  go_enter Try.func69, Try.ntmps69
  go_wp2
  go_ret
  exact ⟨_, rfl, heap_alloc_new w _, (Below.refl _ _).alloc (Nat.le_refl _) _, Nat.le_refl _⟩
theorem seForkM (a : Nat) (s : Int) (w : World) (H : seIn w a s) : Calls Try.prog 74 #[.pointer (some ⟨a, 0, none⟩)] w (ThForkSe s w) := by
  have hc : w.cell? ⟨a, 0, none⟩ = some (.int .i64 s) := hp_cell H.1 0
  have HR := Lib.hid H.2
  clear H
  go_enter Try.func74, Try.ntmps74
  go_wp2
  go_ret
  exact ⟨_, rfl, ⟨heap_alloc_new w _, HR.out⟩, (Below.refl _ _).alloc (Nat.le_refl _) _, Nat.le_refl _⟩
theorem baForkM (a : Nat) (s : Int × Int × Int) (w : World) (H : baIn w a s) : Calls Try.prog 84 #[.pointer (some ⟨a, 0, none⟩)] w (ThForkBa s w) := by
  obtain ⟨s0, s1, s2⟩ := s
  have c0 : w.cell? ⟨a, 0, none⟩ = some (.int .i64 s0) := hp_cell H 0
  have c1 : w.cell? ⟨a, 1, none⟩ = some (.int .i64 s1) := hp_cell H 1
  have c2 : w.cell? ⟨a, 2, none⟩ = some (.int .i64 s2) := hp_cell H 2
  have hlt := hp_lt H
  clear H
  go_enter Try.func84, Try.ntmps84
  go_wp2
  go_ret
  exact ⟨_, rfl, heap_alloc_new w _, (Below.refl _ _).alloc (Nat.le_refl _) _, Nat.le_refl _⟩
def QFS (W : World) (a : Nat) (sz : Int) (A : Option Addr) (l : List Int) (c : Nat) (w' : World) : Prop :=
  w'.cell? ⟨a, 0, none⟩ = some (.int .i64 sz) ∧ w'.cell? ⟨a, 1, none⟩ = some (.slice A l.length c) ∧
  (w'.heap[a]? = some (.cells #[.int .i64 sz, .slice A l.length c] 74 (0, 0)) ∧ ValsAt okAll w' A l ∧ Below W.heap.size W w')
variable {W w w1 : World} {a : Nat} {sz : Int} {A : Option Addr} {l : List Int} {c : Nat}
theorem QFS.mk (h1 : w.heap[a]? = some (.cells #[.int .i64 sz, .slice A l.length c] 74 (0, 0))) (h2 : ValsAt okAll w A l) (h3 : Below W.heap.size W w) : QFS W a sz A l c w := ⟨hp_cell h1 0, hp_cell h1 1, h1, h2, h3⟩
theorem QFS.below (h : QFS W a sz A l c w) (hb : Below w.heap.size w w1) : QFS W a sz A l c w1 := by
  obtain ⟨_, _, h1, h2, h3⟩ := h
  exact QFS.mk (hp_below h1 hb) (vals_below h2 hb) (h3.trans (hb.mono h3.size))
theorem QFS.drew (h : QFS W a sz A l c w) : QFS W a sz A l c w.drew := h.below ⟨rfl, rfl, rfl, Nat.le_refl _, fun _ _ => rfl⟩
theorem QFS.alloc (h : QFS W a sz A l c w) (o : Obj) : QFS W a sz A l c (w.alloc o) := h.below ((Below.refl _ _).alloc (Nat.le_refl _) o)
def QFClone (W : World) (a : Nat) (sz : Int) (A : Option Addr) (l : List Int) (c : Nat) (e : Ending) (w' : World) : Prop := ∃ A' c', e = .returned (.slice A' l.length c') ∧ Hid (l.length ≤ c' ∧ (A' = none → c' = 0) ∧ ValsAt okAll w' A' l) ∧ QFS W a sz A l c w'
theorem qfClone (h : QFS W a sz A l c w) (h1 : l.length ≤ c) (h4 : l.length ≤ 4) (hA : Hid (A = none → c = 0)) : Calls Try.prog 82 #[.slice A l.length c] w (QFClone W a sz A l c) :=
  (clone_any A c l h1 (by omega) hA.out w h.2.2.2.1).mono fun e w' ⟨A', c', k1, k2, _, k4, k5, hb⟩ => ⟨A', c', k1, Lib.hid ⟨k2, k5, vals_mono k4 (fun _ _ _ => trivial)⟩, h.below hb⟩
set_option maxHeartbeats 2000000 in
theorem quForkM (a : Nat) (s : Int × List Int) (w : World) (H : quIn okAll w a s) : Calls Try.prog 78 #[.pointer (some ⟨a, 0, none⟩)] w (ThForkQu s w) := by
  obtain ⟨sz, l⟩ := s
  obtain ⟨_, h0, A, c, hh, q1, q2, q3⟩ := H
  dsimp only at h0 hh q1 q3
  have l4 : l.length ≤ 4 := by omega
  have H2 := Lib.hid q2
  have H0 := Lib.hid h0
  have hS0 : QFS w a sz A l c w := QFS.mk hh q3 (Below.refl _ _)
  clear hh q2 q3 h0
  go_enter Try.func78, Try.ntmps78
  go_wp2_with fail
  have HS0 := Lib.hid hS0
  unfold QFS at hS0
  go_region_held3 (fun w' => w'.cell? ⟨a, 0, none⟩ = some (.int .i64 sz) ∧ w'.cell? ⟨a, 1, none⟩ = some (.slice A l.length c) ∧ (w'.heap[a]? = some (.cells #[.int .i64 sz, .slice A l.length c] 74 (0, 0)) ∧ ValsAt okAll w' A l ∧ Below w.heap.size w w'))
    (first | assumption | (show QFS w a sz A l c _; (repeat (with_reducible first | apply QFS.drew | apply QFS.alloc)); first | assumption | exact hS0))
    (first | (go_at_call 82; refine (qfClone (W := w) (a := a) (sz := sz) (by assumption) q1 l4 H2).mono ?_; rintro e w7 ⟨A7, c7, rfl, v7, s7⟩))
  all_goals
    go_wp2_with fail
    go_ret
    obtain ⟨_, _, _, _, hb⟩ := s7
    exact ⟨w7.heap.size, rfl, ⟨fun _ _ => trivial, H0.out, A7, c7, heap_alloc_new w7 _, v7.out.1, v7.out.2.1, vals_below v7.out.2.2 ((Below.refl _ _).alloc (Nat.le_refl _) _)⟩, bl_alloc hb hb.size _, hb.size⟩
end Go.Proofs.Ytbanfaboimachaa
