
/-
  Fork of an object and of the reference's: in one state, again.
-/
import Derived.Test.YtbanfaboimachaaForks1
namespace Go.Proofs.Ytbanfaboimachaa
open Go.RowKit
set_option linter.unusedSimpArgs false
set_option linter.unusedVariables false

def OForkPost (st : St) (w : World) (e : Ending) (w' : World) : Prop := ∃ x', e = .returned x' ∧ OAt w.heap.size w' x' st ∧ Below w.heap.size w w'
def RForkPost (st : St) (w : World) (e : Ending) (w' : World) : Prop := ∃ x', e = .returned x' ∧ RAt w.heap.size w' x' st ∧ Below w.heap.size w w'
theorem oFork_any {B : Nat} {w : World} {x : Value} {st : St} (H : OAt B w x st) : Calls Try.prog 27 #[x] w (OForkPost st w) := by
  cases st with
  | nil =>
    obtain rfl : x = .pointer none := H
    go_enter Try.func27, Try.ntmps27
    go_wp2
    go_ret
    exact ⟨_, rfl, rfl, Below.refl _ _⟩
  | mu o =>
    obtain ⟨p, a, rfl, h, _⟩ := H
    have hc : w.cell? ⟨p, 0, none⟩ = some (.iface 61 (.pointer (some ⟨a, 0, none⟩))) := hp_cell h.1 0
    have HM := Lib.hid h.2
    clear h
    go_enter Try.func27, Try.ntmps27
    go_wp2_with (go_at_call 69; refine (muForkM a o _ HM.out).mono ?_; rintro e w1 ⟨b, rfl, hi, hb, hB⟩; have HI := Lib.hid hi; have HB := Lib.hid hb; clear hi hb)
    go_ret
    exact ⟨_, rfl, ⟨w1.heap.size, b, rfl, ⟨heap_alloc_new w1 _, hp_alloc HI.out _⟩, hB⟩, bl_alloc HB.out HB.out.size _⟩
  | se n =>
    obtain ⟨p, a, rfl, h, _⟩ := H
    have hc : w.cell? ⟨p, 0, none⟩ = some (.iface 68 (.pointer (some ⟨a, 0, none⟩))) := hp_cell h.1 0
    have HM := Lib.hid h.2
    clear h
    go_enter Try.func27, Try.ntmps27
    go_wp2_with (go_at_call 74; refine (seForkM a n _ HM.out).mono ?_; rintro e w1 ⟨b, rfl, hi, hb, hB⟩; have HI := Lib.hid hi; have HB := Lib.hid hb; clear hi hb)
    go_ret
    exact ⟨_, rfl, ⟨w1.heap.size, b, rfl, ⟨heap_alloc_new w1 _, hp_alloc HI.out.1 _, HI.out.2⟩, hB⟩, bl_alloc HB.out HB.out.size _⟩
  | qu size l =>
    obtain ⟨p, a, rfl, h, _⟩ := H
    have hc : w.cell? ⟨p, 0, none⟩ = some (.iface 71 (.pointer (some ⟨a, 0, none⟩))) := hp_cell h.1 0
    have HM := Lib.hid h.2
    clear h
    go_enter Try.func27, Try.ntmps27
    go_wp2_with (go_at_call 78; refine (quForkM a (size, l) _ HM.out).mono ?_; rintro e w1 ⟨b, rfl, hi, hb, hB⟩; have HI := Lib.hid hi; have HB := Lib.hid hb; clear hi hb)
    go_ret
    exact ⟨_, rfl, ⟨w1.heap.size, b, rfl, ⟨heap_alloc_new w1 _, quIn_below HI.out ((Below.refl _ _).alloc (Nat.le_refl _) _)⟩, hB⟩, bl_alloc HB.out HB.out.size _⟩
  | ba s =>
    obtain ⟨p, a, rfl, h, _⟩ := H
    have hc : w.cell? ⟨p, 0, none⟩ = some (.iface 75 (.pointer (some ⟨a, 0, none⟩))) := hp_cell h.1 0
    have HM := Lib.hid h.2
    clear h
    go_enter Try.func27, Try.ntmps27
    go_wp2_with (go_at_call 84; refine (baForkM a s _ HM.out).mono ?_; rintro e w1 ⟨b, rfl, hi, hb, hB⟩; have HI := Lib.hid hi; have HB := Lib.hid hb; clear hi hb)
    go_ret
    exact ⟨_, rfl, ⟨w1.heap.size, b, rfl, ⟨heap_alloc_new w1 _, baIn_below HI.out ((Below.refl _ _).alloc (Nat.le_refl _) _)⟩, hB⟩, bl_alloc HB.out HB.out.size _⟩
def RInFork (k size owner n gen : Int) (l : List Int) (w : World) (e : Ending) (w' : World) : Prop := ∃ r, e = .returned (.pointer (some ⟨r, 0, none⟩)) ∧ RIn okAll w' r k size owner n gen l ∧ Below w.heap.size w w' ∧ w.heap.size ≤ r
def BothK (W : World) (x y : Value) (st : St) (w0 w : World) : Prop := Both W x y st w ∧ Below w0.heap.size w0 w
theorem BothK.below {W w0 w w1 : World} {x y : Value} {st : St} (h : BothK W x y st w0 w) (hb : Below w.heap.size w w1) : BothK W x y st w0 w1 := ⟨h.1.below hb, h.2.trans (hb.mono h.2.size)⟩
end Go.Proofs.Ytbanfaboimachaa
