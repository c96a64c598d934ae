
/-
  CallsPrograms: the walk.
-/
import Derived.Test.YtmmfadakhnagpaaCl8
import Derived.OpenShut
import Derived.Deep.CutBlock
import Derived.RegionTactic
import Derived.Deep.RegionHeld3
import Derived.BigRegion
import Derived.Handy
namespace Go.Proofs.Ytmmfadakhnagpaa
open Go.RowKit Go.ChangeShapes Go.WideShapes
set_option linter.unusedSimpArgs false
set_option linter.unusedVariables false

def LS (W : World) (g : Nat) (a b c : Int) (w : World) : Prop := w.cell? ⟨g, 0, none⟩ = some (.int .i64 a) ∧ w.cell? ⟨g, 1, none⟩ = some (.int .i64 b) ∧ w.cell? ⟨g, 2, none⟩ = some (.int .i64 c) ∧ (w.heap[g]? = some (.cells #[.int .i64 a, .int .i64 b, .int .i64 c] 23 (0, 0)) ∧ Below W.heap.size W w)
theorem LS.below {W w w1 : World} {g : Nat} {a b c : Int} (h : LS W g a b c w) (hb : Below w.heap.size w w1) : LS W g a b c w1 := by
  have hh := hp_below h.2.2.2.1 hb
  exact ⟨hp_cell hh 0, hp_cell hh 1, hp_cell hh 2, hh, h.2.2.2.2.trans (hb.mono h.2.2.2.2.size)⟩
theorem LS.drew {W w : World} {g : Nat} {a b c : Int} (h : LS W g a b c w) : LS W g a b c w.drew := h.below (Below.drew (Below.refl _ _))
def LS2 (W : World) (g : Nat) (a b c : Int) (A : Option Addr) (l : List Ins3) (w : World) : Prop := w.cell? ⟨g, 0, none⟩ = some (.int .i64 a) ∧ w.cell? ⟨g, 1, none⟩ = some (.int .i64 b) ∧ w.cell? ⟨g, 2, none⟩ = some (.int .i64 c) ∧ (w.heap[g]? = some (.cells #[.int .i64 a, .int .i64 b, .int .i64 c] 23 (0, 0)) ∧ InssAt w A l ∧ Below W.heap.size W w)
theorem LS2.below {W w w1 : World} {g : Nat} {a b c : Int} {A : Option Addr} {l : List Ins3} (h : LS2 W g a b c A l w) (hb : Below w.heap.size w w1) : LS2 W g a b c A l w1 := by
  have hh := hp_below h.2.2.2.1 hb
  exact ⟨hp_cell hh 0, hp_cell hh 1, hp_cell hh 2, hh, inss_below h.2.2.2.2.1 hb, h.2.2.2.2.2.trans (hb.mono h.2.2.2.2.2.size)⟩
theorem LS2.drew {W w : World} {g : Nat} {a b c : Int} {A : Option Addr} {l : List Ins3} (h : LS2 W g a b c A l w) : LS2 W g a b c A l w.drew := h.below (Below.drew (Below.refl _ _))
theorem adF_len {st : List Ins3 × Int} (h : StOk st) (r : Int × List Ins3) (hr : r.2.length ≤ 26) : (adF st r).1.length ≤ 90 := (h.ad r hr).1
theorem progF_len (K sz tv who : Int) (cs : List Cl) : (progF K sz tv who cs).2.length ≤ 90 := by
  have h := adF_len (StOk.fold (tv := tv) (sz := sz) cs ([], 0) ⟨by decide, fun _ => by decide⟩) (0, [haltI]) (show (1 : Nat) ≤ 26 by decide)
  unfold progF
  cases (!goodK K sz || cs.any (fun c => !fitF K who c))
  · cases (decide (tv < 0) || (decide (12 - tvI K sz < tv) || (decide (who < 0) || decide (4 ≤ who))))
    · dsimp only [cond_false]
      unfold finF
      split
      · exact h
      · exact Nat.zero_le _
    · exact Nat.zero_le _
  · exact Nat.zero_le _
/-- What the walk keeps of a list of instructions. -/
structure FK (W w : World) (A : Option Addr) (l : List Ins3) : Prop where
  ins : InssAt w A l
  bl : Below W.heap.size W w
theorem FK.of {W w w1 : World} {A : Option Addr} {c : Nat} {l : List Ins3} (hB : Below W.heap.size W w) (hn : NRow w1 w.heap.size A c l) (hb : Below w.heap.size w w1) (hl : l.length ≤ 100) : FK W w1 A l := ⟨(nrow_inss hn (by omega)).1, hB.trans (hb.mono hB.size)⟩
theorem FK.below {W w w1 : World} {A : Option Addr} {l : List Ins3} (h : FK W w A l) (hb : Below w.heap.size w w1) : FK W w1 A l := ⟨inss_below h.ins hb, h.bl.trans (hb.mono h.bl.size)⟩
theorem FK.drew {W w : World} {A : Option Addr} {l : List Ins3} (h : FK W w A l) : FK W w.drew A l := h.below (Below.drew (Below.refl _ _))
set_option maxRecDepth 100000 in
set_option maxHeartbeats 16000000 in
theorem callsPrograms_walk (W : World) (K : Int) (hK : (Lit.int .u8 K).wf = true) (v1 : Value) (h1 : I3 v1) (A : Option Addr) (len cap : Nat) (hC : CallsIn W A len cap) :
    Calls Try.prog 3 #[.int .u8 K, v1, .slice A len cap] W fun e w' => e = .returned (.bool true) ∧ Below W.heap.size W w' := by
  obtain ⟨sz, tv, who, rfl, _, _, _⟩ := h1
  obtain ⟨cs0', rfl, hcs, hcap, hnone⟩ := hC
  have HF := Lib.hid (few24 A cs0' cap hcap hnone)
  have HCS := Lib.hid (hcs.take 12)
  obtain ⟨cs, hcse⟩ : ∃ l, cs0'.take 12 = l := ⟨_, rfl⟩
  have hl12 : cs.length ≤ 12 := by rw [← hcse, List.length_take]; omega
  rw [hcse] at HF HCS
  obtain ⟨nl, hnl⟩ : ∃ n, cs0'.length = n := ⟨_, rfl⟩
  rw [hnl] at HF ⊢
  have hlen := progF_len K sz tv who cs
  have HP1 := Lib.hid (fun (w : World) (h : ClsAt w A cs) => program_any K sz tv who cs A cap (by omega) w h)
  have HP2 := Lib.hid (fun (w : World) (h : ClsAt w A cs) => by have := rprogram_any K sz tv who cs A cap (by omega) w h; rw [← prog_eq] at this; exact this)
  obtain ⟨⟨n, l⟩, hr⟩ : ∃ r, progF K sz tv who cs = r := ⟨_, rfl⟩
  rw [hr] at hlen HP1 HP2
  have L := Lib.hid (show l.length ≤ 100 from Nat.le_trans hlen (by decide))
  have L1 := Lib.hid (show l.length ≤ 1000 from Nat.le_trans hlen (by decide))
  have hb := (Below.refl W.heap.size W).alloc (Nat.le_refl _) (.cells #[.int .i64 sz, .int .i64 tv, .int .i64 who] 23)
  have HB := Lib.hid hb
  have X := Lib.hid (heap_alloc_new W (.cells #[.int .i64 sz, .int .i64 tv, .int .i64 who] 23))
  clear hK hcs hcap hnone hcse hl12 hnl hlen hr hb
  go_enter Try.func3, Try.ntmps3
  go_upto_region 1 with fail
  generalize World.alloc _ _ = w0 at HB X ⊢
  obtain ⟨g, hg⟩ : ∃ g, W.heap.size = g := ⟨_, rfl⟩
  rw [hg] at X
  try rw [hg]
  have G := Lib.hid hg
  clear hg
  have x0 : w0.drew.cell? ⟨g, 0, none⟩ = some (.int .i64 sz) := hp_cell (hp_dw X.out) 0
  have x1 : w0.drew.cell? ⟨g, 1, none⟩ = some (.int .i64 tv) := hp_cell (hp_dw X.out) 1
  have x2 : w0.drew.cell? ⟨g, 2, none⟩ = some (.int .i64 who) := hp_cell (hp_dw X.out) 2
  have xl := hp_lt X.out
  have HA1 := Lib.hid (fun (w : World) (h : LS W g sz tv who w) => (HP1.out w (HCS.out.below h.2.2.2.2)).mono (R' := fun e w1 => ∃ A1 c1, e = .returned (.tuple #[.slice A1 l.length c1, .int .i64 n]) ∧ FK W w1 A1 l ∧ LS W g sz tv who w1) (fun e w1 hp => by obtain ⟨A1, c1, he, hn, hb⟩ := hp; exact ⟨A1, c1, he, FK.of h.2.2.2.2 hn hb L.out, h.below hb⟩))
  have HA2 := Lib.hid (fun (A1 : Option Addr) (w : World) (h : LS2 W g sz tv who A1 l w) => (HP2.out w (HCS.out.below h.2.2.2.2.2)).mono (R' := fun e w1 => ∃ A2 c2, e = .returned (.tuple #[.slice A2 l.length c2, .int .i64 n]) ∧ FK W w1 A2 l ∧ LS2 W g sz tv who A1 l w1) (fun e w1 hp => by obtain ⟨A2, c2, he, hn, hb⟩ := hp; exact ⟨A2, c2, he, FK.of h.2.2.2.2.2 hn hb L.out, h.below hb⟩))
  have hS0 : LS W g sz tv who w0 := ⟨hp_cell X.out 0, hp_cell X.out 1, hp_cell X.out 2, X.out, HB.out⟩
  clear x0 x1 x2 xl
  have xl : g < w0.heap.size := hp_lt X.out
  go_region_held3 (fun w' => w'.cell? ⟨g, 0, none⟩ = some (.int .i64 sz) ∧ w'.cell? ⟨g, 1, none⟩ = some (.int .i64 tv) ∧ w'.cell? ⟨g, 2, none⟩ = some (.int .i64 who) ∧ (w'.heap[g]? = some (.cells #[.int .i64 sz, .int .i64 tv, .int .i64 who] 23 (0, 0)) ∧ Below W.heap.size W w'))
    (first | assumption | (show LS W g sz tv who _; (repeat (with_reducible apply LS.drew)); first | assumption | exact hS0))
    (first | (go_at_call 7; refine (HF.out _).mono ?_; rintro e w' ⟨rfl, rfl⟩) | (go_at_call 6; refine (HA1.out _ (by assumption)).mono ?_; rintro e w1 ⟨A1, c1, rfl, k1, s1⟩))
  all_goals
    go_upto_region 2 with fail
    have hS1 : LS2 W g sz tv who A1 l w1 := ⟨s1.1, s1.2.1, s1.2.2.1, s1.2.2.2.1, k1.ins, s1.2.2.2.2⟩
    have yl : g < w1.heap.size := hp_lt s1.2.2.2.1
    clear s1 k1 hS0 xl
    go_region_held3 (fun w' => w'.cell? ⟨g, 0, none⟩ = some (.int .i64 sz) ∧ w'.cell? ⟨g, 1, none⟩ = some (.int .i64 tv) ∧ w'.cell? ⟨g, 2, none⟩ = some (.int .i64 who) ∧ (w'.heap[g]? = some (.cells #[.int .i64 sz, .int .i64 tv, .int .i64 who] 23 (0, 0)) ∧ InssAt w' A1 l ∧ Below W.heap.size W w'))
      (first | assumption | (show LS2 W g sz tv who A1 l _; (repeat (with_reducible apply LS2.drew)); first | assumption | exact hS1))
      (first | (go_at_call 7; refine (HF.out _).mono ?_; rintro e w' ⟨rfl, rfl⟩) | (go_at_call 8; refine (HA2.out A1 _ (by assumption)).mono ?_; rintro e w2 ⟨A2, c2, rfl, k2, s2⟩))
    all_goals
      have M2 := Lib.hid k2
      have M1 := Lib.hid (show FK W w2 A1 l from ⟨s2.2.2.2.2.1, s2.2.2.2.2.2⟩)
      clear s2 k2 hS1 yl
      go_wp2_with (first | (go_at_call 9; refine (live24 _).mono ?_; rintro e w' ⟨rfl, hb⟩; replace M1 := Lib.hid (M1.out.below hb); replace M2 := Lib.hid (M2.out.below hb); clear hb) | (go_at_call 10; refine (sameIns_yes A1 A2 c1 c2 l L1.out _ M1.out.ins M2.out.ins).mono ?_; rintro e w' ⟨rfl, hb⟩; replace M1 := Lib.hid (M1.out.below hb); replace M2 := Lib.hid (M2.out.below hb); clear hb))
      go_ret
      exact ⟨rfl, M2.out.bl⟩
end Go.Proofs.Ytmmfadakhnagpaa
