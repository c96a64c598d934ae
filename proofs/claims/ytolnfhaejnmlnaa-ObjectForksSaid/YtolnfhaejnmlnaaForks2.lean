
/-
  Fork of an object and of the reference's: in one state, again.
-/
import Derived.Test.YtolnfhaejnmlnaaForks1
namespace Go.Proofs.Ytolnfhaejnmlnaa
open Go.RowKit
set_option linter.unusedSimpArgs false
set_option linter.unusedVariables false

def OForkPost (st : St) (w : World) (e : Ending) (w' : World) : Prop := ∃ x', e = .returned x' ∧ OAt w.heap.size w' x' st ∧ Below w.heap.size w w'
def RForkPost (st : St) (w : World) (e : Ending) (w' : World) : Prop := ∃ x', e = .returned x' ∧ RAt w.heap.size w' x' st ∧ Below w.heap.size w w'
theorem oFork_any {B : Nat} {w : World} {x : Value} {st : St} (H : OAt B w x st) : Calls Try.prog 20 #[x] w (OForkPost st w) := by
  cases st with
  | nil =>
    obtain rfl : x = .pointer none := H
    go_enter Try.func20, Try.ntmps20
    go_wp2
    go_ret
    exact ⟨_, rfl, rfl, Below.refl _ _⟩
  | mu o =>
    obtain ⟨p, a, rfl, h, _⟩ := H
    have hc : w.cell? ⟨p, 0, none⟩ = some (.iface 59 (.pointer (some ⟨a, 0, none⟩))) := hp_cell h.1 0
    have HM := Lib.hid h.2
    clear h
    go_enter Try.func20, Try.ntmps20
    go_wp2_with (go_at_call 56; refine (muForkM a o _ HM.out).mono ?_; rintro e w1 ⟨b, rfl, hi, hb, hB⟩; have HI := Lib.hid hi; have HB := Lib.hid hb; clear hi hb)
    go_ret
    exact ⟨_, rfl, ⟨w1.heap.size, b, rfl, ⟨heap_alloc_new w1 _, hp_alloc HI.out _⟩, hB⟩, bl_alloc HB.out HB.out.size _⟩
  | se n =>
    obtain ⟨p, a, rfl, h, _⟩ := H
    have hc : w.cell? ⟨p, 0, none⟩ = some (.iface 66 (.pointer (some ⟨a, 0, none⟩))) := hp_cell h.1 0
    have HM := Lib.hid h.2
    clear h
    go_enter Try.func20, Try.ntmps20
    go_wp2_with (go_at_call 62; refine (seForkM a n _ HM.out).mono ?_; rintro e w1 ⟨b, rfl, hi, hb, hB⟩; have HI := Lib.hid hi; have HB := Lib.hid hb; clear hi hb)
    go_ret
    exact ⟨_, rfl, ⟨w1.heap.size, b, rfl, ⟨heap_alloc_new w1 _, hp_alloc HI.out.1 _, HI.out.2⟩, hB⟩, bl_alloc HB.out HB.out.size _⟩
  | qu size l =>
    obtain ⟨p, a, rfl, h, _⟩ := H
    have hc : w.cell? ⟨p, 0, none⟩ = some (.iface 69 (.pointer (some ⟨a, 0, none⟩))) := hp_cell h.1 0
    have HM := Lib.hid h.2
    clear h
    go_enter Try.func20, Try.ntmps20
    go_wp2_with (go_at_call 66; refine (quForkM a (size, l) _ HM.out).mono ?_; rintro e w1 ⟨b, rfl, hi, hb, hB⟩; have HI := Lib.hid hi; have HB := Lib.hid hb; clear hi hb)
    go_ret
    exact ⟨_, rfl, ⟨w1.heap.size, b, rfl, ⟨heap_alloc_new w1 _, quIn_below HI.out ((Below.refl _ _).alloc (Nat.le_refl _) _)⟩, hB⟩, bl_alloc HB.out HB.out.size _⟩
  | ba s =>
    obtain ⟨p, a, rfl, h, _⟩ := H
    have hc : w.cell? ⟨p, 0, none⟩ = some (.iface 72 (.pointer (some ⟨a, 0, none⟩))) := hp_cell h.1 0
    have HM := Lib.hid h.2
    clear h
    go_enter Try.func20, Try.ntmps20
    go_wp2_with (go_at_call 72; refine (baForkM a s _ HM.out).mono ?_; rintro e w1 ⟨b, rfl, hi, hb, hB⟩; have HI := Lib.hid hi; have HB := Lib.hid hb; clear hi hb)
    go_ret
    exact ⟨_, rfl, ⟨w1.heap.size, b, rfl, ⟨heap_alloc_new w1 _, baIn_below HI.out ((Below.refl _ _).alloc (Nat.le_refl _) _)⟩, hB⟩, bl_alloc HB.out HB.out.size _⟩
def RInFork (k size owner n gen : Int) (l : List Int) (w : World) (e : Ending) (w' : World) : Prop := ∃ r, e = .returned (.pointer (some ⟨r, 0, none⟩)) ∧ RIn okAll w' r k size owner n gen l ∧ Below w.heap.size w w' ∧ w.heap.size ≤ r
theorem rForkM {w : World} {r : Nat} {k size owner n gen : Int} {l : List Int} (H : RIn okAll w r k size owner n gen l) : Calls Try.prog 21 #[.pointer (some ⟨r, 0, none⟩)] w (RInFork k size owner n gen l w) := by
  have HH := Lib.hid H
  obtain ⟨_, _, A, c, hh, q1, q2, q3⟩ := H
  simp only [RCells] at hh
  have c0 : w.cell? ⟨r, 0, none⟩ = some (.int .u8 k) := hp_cell hh 0
  have c1 : w.cell? ⟨r, 1, none⟩ = some (.int .i64 size) := hp_cell hh 1
  have c2 : w.cell? ⟨r, 2, none⟩ = some (.int .i64 owner) := hp_cell hh 2
  have c3 : w.cell? ⟨r, 3, none⟩ = some (.int .i64 n) := hp_cell hh 3
  have c4 : w.cell? ⟨r, 4, none⟩ = some (.int .i64 gen) := hp_cell hh 4
  have c5 : w.cell? ⟨r, 5, none⟩ = some (.slice A l.length c) := hp_cell hh 5
  have hlt := hp_lt hh
  have H3 := Lib.hid q3
  have H2 := Lib.hid q2
  clear hh q2 q3
  go_enter Try.func21, Try.ntmps21
  go_wp2
  go_ret
  exact ⟨w.heap.size, rfl, ⟨fun _ _ => trivial, HH.out.2.1, A, c, heap_alloc_new w _, q1, H2.out, vals_below H3.out ((Below.refl _ _).alloc (Nat.le_refl _) _)⟩, (Below.refl _ _).alloc (Nat.le_refl _) _, Nat.le_refl _⟩
theorem rFork_any {B : Nat} {w : World} {x : Value} {st : St} (H : RAt B w x st) : Calls Try.prog 21 #[x] w (RForkPost st w) := by
  cases st with
  | nil =>
    obtain rfl : x = .pointer none := H
    go_enter Try.func21, Try.ntmps21
    go_wp2
    go_ret
    exact ⟨_, rfl, rfl, Below.refl _ _⟩
  | mu o => obtain ⟨r, rfl, h, _⟩ := H; exact (rForkM h).mono fun e w' ⟨r', h1, h2, h3, h4⟩ => ⟨_, h1, ⟨r', rfl, h2, h4⟩, h3⟩
  | se n => obtain ⟨r, size, rfl, h, _, hn⟩ := H; exact (rForkM h).mono fun e w' ⟨r', h1, h2, h3, h4⟩ => ⟨_, h1, ⟨r', size, rfl, h2, h4, hn⟩, h3⟩
  | qu size l => obtain ⟨r, rfl, h, _⟩ := H; exact (rForkM h).mono fun e w' ⟨r', h1, h2, h3, h4⟩ => ⟨_, h1, ⟨r', rfl, h2, h4⟩, h3⟩
  | ba s => obtain ⟨r, rfl, h, _⟩ := H; exact (rForkM h).mono fun e w' ⟨r', h1, h2, h3, h4⟩ => ⟨_, h1, ⟨r', rfl, h2, h4⟩, h3⟩

def BothK (W : World) (x y : Value) (st : St) (w0 w : World) : Prop := Both W x y st w ∧ Below w0.heap.size w0 w
theorem BothK.below {W w0 w w1 : World} {x y : Value} {st : St} (h : BothK W x y st w0 w) (hb : Below w.heap.size w w1) : BothK W x y st w0 w1 := ⟨h.1.below hb, h.2.trans (hb.mono h.2.size)⟩
set_option maxHeartbeats 4000000 in
set_option maxRecDepth 100000 in
theorem bothSameK (W w0 w : World) (x y : Value) (st : St) (H : BothK W x y st w0 w) : Calls Try.prog 16 #[x, y] w fun e w' => e = .returned (.bool true) ∧ BothK W x y st w0 w' := by
  have HB := Lib.hid H
  have hs := sh_short H.1.2.1
  clear H
  go_enter Try.func16, Try.ntmps16
  go_wp2_with fail
  go_loopw [5] (fun v wr => ∃ c : Nat, c ≤ 10 ∧ v = .int .u8 c ∧ wr = w) (fun v _ => 10 - (intOf v).toNat)
  case atStart => exact ⟨0, by omega, rfl, rfl⟩
  case round =>
    obtain ⟨c, hc, rfl, rfl⟩ := hrel
    by_cases hlt : c ≤ 9
    · have t1 : decide ((c : Int) ≤ 9) = true := decide_eq_true (by omega)
      go_wp2_with (first | (go_at_call 25; refine (oTakes_any (c : Int) HB.out.1.1).mono ?_; rintro e w' ⟨rfl, rfl⟩) | (go_at_call 30; refine (rTakes_any (c : Int) HB.out.1.2.1).mono ?_; rintro e w' ⟨rfl, rfl⟩))
      go_roundw
      case rel => exact ⟨c + 1, by omega, by go_num, trivial⟩
      case measure => simp [intOf]; omega
    · have t1 : decide ((c : Int) ≤ 9) = false := decide_eq_false (by omega)
      go_wp2_with (first | (go_at_call 12; refine (oShape_any HB.out.1.1).mono ?_; rintro e w1 ⟨⟨A1, c1, rfl, v1⟩, hb1⟩; have V1 := Lib.hid v1; have B1 := Lib.hid (HB.out.below hb1); clear v1 hb1) | (go_at_call 31; refine (rShape_any B1.out.1.2.1).mono ?_; rintro e w2 ⟨⟨A2, c2, rfl, v2⟩, hb2⟩; have V2 := Lib.hid v2; have V1' := Lib.hid (vals_below V1.out hb2); have B2 := Lib.hid (B1.out.below hb2); clear v2 hb2) | (go_at_call 19; refine (sameShape_any _ _ _ A1 A2 c1 c2 (shOf st).2.2.2 (shOf st).2.2.2 _ V1'.out V2.out hs hs).mono ?_; rintro e w3 ⟨he, hb3⟩; rw [decide_eq_true rfl] at he; subst he; have B3 := Lib.hid (B2.out.below hb3); clear hb3) | (go_at_call 24; refine (oKind_any B3.out.1.1).mono ?_; rintro e w' ⟨rfl, rfl⟩) | (go_at_call 32; refine (rKind_any B3.out.1.2.1).mono ?_; rintro e w' ⟨rfl, rfl⟩))
      go_ret
      exact ⟨by simp, B3.out⟩
end Go.Proofs.Ytolnfhaejnmlnaa
