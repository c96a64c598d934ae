
/-
  FlowsBarriers, FlowsQueues: the walks.
-/
import Derived.Test.YtcjkpeojjonpiaaFl9
import Derived.OpenShut
import Derived.Lib.SmallJoins
import Derived.Deep.CutBlock
namespace Go.Proofs.Ytcjkpeojjonpiaa
open Go.RowKit Go.ChangeShapes Go.WideShapes
set_option linter.unusedSimpArgs false
set_option linter.unusedVariables false

theorem arr2 {α : Type} {cs : Array α} (h : cs.size = 2) : ∃ c0 c1, cs = #[c0, c1] := by
  obtain ⟨l⟩ := cs
  match l, h with
  | [c0, c1], _ => exact ⟨c0, c1, rfl⟩
def I2 (v : Value) : Prop := ∃ f0 f1 : Int, v = .agg #[.int .i64 f0, .int .i64 f1] ∧ (-9223372036854775808 ≤ f0 ∧ f0 ≤ 9223372036854775807) ∧ (-9223372036854775808 ≤ f1 ∧ f1 ≤ 9223372036854775807)
set_option maxRecDepth 100000 in
theorem i2_of {H : Type} {enc : TypeId × Value → H} {W : World} {base base' : Nat} {spare : Nat → Bool} {held : Bool} {v : Value} {d : DataW H} {p : List MemPlace} (hv : Value.okWide Try.prog W .any base' 62 v) (h : DataW.Trod enc Try.prog W base spare held 62 v d p) : I2 v := by
  have hu := Try.underlying62
  simp only [Value.okWide, hu] at hv
  obtain ⟨cs, rfl, hsz, _⟩ := hv
  have hC : Program.cellsOf Try.prog 62 = 2 := by kernel_rfl
  obtain ⟨c0, c1, rfl⟩ := arr2 (hsz.trans hC)
  obtain ⟨fuel, hf⟩ := h
  obtain ⟨xs, m, _, _, _, hx, hi⟩ := DataW.trod_array hu hf
  match xs, hx with
  | [y0, y1], _ =>
    obtain ⟨n0, e0, _, b0⟩ := DataW.trod_int (cs := [c0]) Try.underlying3 ((congrArg _ (by kernel_rfl)).trans (hi 0 (by decide)))
    obtain ⟨n1, e1, _, b1⟩ := DataW.trod_int (cs := [c1]) Try.underlying3 ((congrArg _ (by kernel_rfl)).trans (hi 1 (by decide)))
    simp only [List.cons.injEq, and_true] at e0 e1
    subst e0 e1
    exact ⟨n0, n1, rfl, bounds_i64 b0, bounds_i64 b1⟩
/-- What the walk keeps of one block. -/
structure FK (W w : World) (A : Option Addr) (l : List Ins3) : Prop where
  ins : InssAt w A l
  bl : Below W.heap.size W w
theorem FK.of {W w w1 : World} {A : Option Addr} {c : Nat} {l : List Ins3} (hB : Below W.heap.size W w) (hn : NRow w1 w.heap.size A c l) (hb : Below w.heap.size w w1) (hl : l.length ≤ 100) : FK W w1 A l := ⟨(nrow_inss hn (by omega)).1, hB.trans (hb.mono hB.size)⟩
theorem FK.below {W w w1 : World} {A : Option Addr} {l : List Ins3} (h : FK W w A l) (hb : Below w.heap.size w w1) : FK W w1 A l := ⟨inss_below h.ins hb, h.bl.trans (hb.mono h.bl.size)⟩
set_option maxRecDepth 100000 in
set_option maxHeartbeats 16000000 in
theorem flowsBarriers_walk (a : Int) (ha : (Lit.int .i64 a).wf = true) (b : Int) (hb : (Lit.int .i64 b).wf = true) (c : Int) (hc : (Lit.int .i64 c).wf = true) (W : World) :
    Calls Try.prog 5 #[.int .i64 a, .int .i64 b, .int .i64 c] W fun e w' => e = .returned (.bool true) ∧ Below W.heap.size W w' := by
  have hl1 := arF_len a b c
  have hl2 := leF_len a b c
  have h1 := arrive_any a b c
  have h2 := ref_arrive a b c
  have h3 := leave_any a b c
  have h4 := ref_leave a b c
  rw [← arrive_eq] at h2
  rw [← leave_eq] at h4
  obtain ⟨⟨n, l⟩, hr⟩ : ∃ r, arF a b c = r := ⟨_, rfl⟩
  obtain ⟨⟨m, k⟩, hs⟩ : ∃ r, leF a b c = r := ⟨_, rfl⟩
  rw [hr] at hl1 h1 h2
  rw [hs] at hl2 h3 h4
  have H1 := Lib.hid h1
  have H2 := Lib.hid h2
  have H3 := Lib.hid h3
  have H4 := Lib.hid h4
  have L := Lib.hid hl1
  have M := Lib.hid hl2
  have Ll := Lib.hid (show l.length ≤ 1000 from Nat.le_trans hl1 (by decide))
  have Lk := Lib.hid (show k.length ≤ 1000 from Nat.le_trans hl2 (by decide))
  have K := Lib.hid (Below.refl W.heap.size W)
  clear hl1 hl2 h1 h2 h3 h4 hr hs
  clear ha hb hc
  go_enter Try.func5, Try.ntmps5
  go_wp2_with (first | (go_at_call 17; refine (H1.out _).mono ?_; rintro e w' ⟨A0, c0, rfl, hn, hb⟩; have K0 := Lib.hid (FK.of K.out hn hb L.out); clear hn hb) | (go_at_call 18; refine (H2.out _).mono ?_; rintro e w' ⟨A1, c1, rfl, hn, hb⟩; have K1 := Lib.hid (FK.of K0.out.bl hn hb L.out); replace K0 := Lib.hid (K0.out.below hb); clear hn hb) | (go_at_call 19; refine (H3.out _).mono ?_; rintro e w' ⟨A2, c2, rfl, hn, hb⟩; have K2 := Lib.hid (FK.of K1.out.bl hn hb M.out); replace K0 := Lib.hid (K0.out.below hb); replace K1 := Lib.hid (K1.out.below hb); clear hn hb) | (go_at_call 20; refine (H4.out _).mono ?_; rintro e w' ⟨A3, c3, rfl, hn, hb⟩; have K3 := Lib.hid (FK.of K2.out.bl hn hb M.out); replace K0 := Lib.hid (K0.out.below hb); replace K1 := Lib.hid (K1.out.below hb); replace K2 := Lib.hid (K2.out.below hb); clear hn hb) | (go_at_call 21; refine (live23 _).mono ?_; rintro e w' ⟨rfl, hb⟩; replace K0 := Lib.hid (K0.out.below hb); replace K1 := Lib.hid (K1.out.below hb); replace K2 := Lib.hid (K2.out.below hb); replace K3 := Lib.hid (K3.out.below hb); clear hb) | (go_at_call 22; (with_reducible refine (sameIns_yes A0 A1 c0 c1 l Ll.out _ ?h1 ?h2).mono ?_); (case h1 => exact K0.out.ins); (case h2 => exact K1.out.ins); rintro e w' ⟨rfl, hb⟩; replace K0 := Lib.hid (K0.out.below hb); replace K1 := Lib.hid (K1.out.below hb); replace K2 := Lib.hid (K2.out.below hb); replace K3 := Lib.hid (K3.out.below hb); clear hb) | (go_at_call 22; (with_reducible refine (sameIns_yes A2 A3 c2 c3 k Lk.out _ ?h1 ?h2).mono ?_); (case h1 => exact K2.out.ins); (case h2 => exact K3.out.ins); rintro e w' ⟨rfl, hb⟩; replace K0 := Lib.hid (K0.out.below hb); replace K1 := Lib.hid (K1.out.below hb); replace K2 := Lib.hid (K2.out.below hb); replace K3 := Lib.hid (K3.out.below hb); clear hb))
  go_ret
  exact ⟨rfl, K3.out.bl⟩
set_option maxRecDepth 100000 in
set_option maxHeartbeats 16000000 in
theorem flowsQueues_walk (W : World) (v0 : Value) (h0 : I2 v0) (c : Int) (hc : (Lit.int .i64 c).wf = true) (v : Int) (hv0 : (Lit.int .u64 v).wf = true) :
    Calls Try.prog 6 #[v0, .int .i64 c, .int .u64 v] W fun e w' => e = .returned (.bool true) ∧ Below W.heap.size W w' := by
  have hv : W64 v := by have := bounds_u64 hv0; exact ⟨by omega, by omega⟩
  clear hv0
  obtain ⟨a, b, rfl, ha, hb⟩ := h0
  have hl1 := enF_len a b c v
  have hl2 := taF_len a b c
  have h1 := enter_any a b c v hv
  have h2 := ref_enter a b c v hv
  have h3 := take_any a b c
  have h4 := ref_take a b c
  rw [← enter_eq] at h2
  rw [← take_eq] at h4
  obtain ⟨⟨n, l⟩, hr⟩ : ∃ r, enF a b c v = r := ⟨_, rfl⟩
  obtain ⟨⟨m, k⟩, hs⟩ : ∃ r, taF a b c = r := ⟨_, rfl⟩
  rw [hr] at hl1 h1 h2
  rw [hs] at hl2 h3 h4
  have H1 := Lib.hid h1
  have H2 := Lib.hid h2
  have H3 := Lib.hid h3
  have H4 := Lib.hid h4
  have L := Lib.hid hl1
  have M := Lib.hid hl2
  have Ll := Lib.hid (show l.length ≤ 1000 from Nat.le_trans hl1 (by decide))
  have Lk := Lib.hid (show k.length ≤ 1000 from Nat.le_trans hl2 (by decide))
  have K := Lib.hid ((Below.refl W.heap.size W).alloc (Nat.le_refl _) (.cells #[.int .i64 a, .int .i64 b] 62))
  have X := Lib.hid (heap_alloc_new W (.cells #[.int .i64 a, .int .i64 b] 62))
  clear hl1 hl2 h1 h2 h3 h4 hr hs
  clear hc ha hb hv
  go_enter Try.func6, Try.ntmps6
  go_upto_region 1 with fail
  generalize World.alloc _ _ = w0 at K X ⊢
  obtain ⟨g, hg⟩ : ∃ g, W.heap.size = g := ⟨_, rfl⟩
  rw [hg] at X
  try rw [hg]
  have GL := Lib.hid (show g < w0.heap.size from hp_lt X.out)
  have x0 : w0.cell? ⟨g, 0, none⟩ = some (.int .i64 a) := hp_cell X.out 0
  have x1 : w0.cell? ⟨g, 1, none⟩ = some (.int .i64 b) := hp_cell X.out 1
  have gl := hp_lt X.out
  go_wp2_with (first | (go_at_call 23; refine (H1.out _).mono ?_; rintro e w' ⟨A0, c0, rfl, hn, hb⟩; have K0 := Lib.hid (FK.of K.out hn hb L.out); replace X := Lib.hid (hp_below X.out hb); clear hn hb x0 x1 gl; have x0 : w'.cell? ⟨g, 0, none⟩ = some (.int .i64 a) := hp_cell X.out 0; have x1 : w'.cell? ⟨g, 1, none⟩ = some (.int .i64 b) := hp_cell X.out 1; have gl := hp_lt X.out) | (go_at_call 24; refine (H2.out _).mono ?_; rintro e w' ⟨A1, c1, rfl, hn, hb⟩; have K1 := Lib.hid (FK.of K0.out.bl hn hb L.out); replace K0 := Lib.hid (K0.out.below hb); replace X := Lib.hid (hp_below X.out hb); clear hn hb x0 x1 gl; have x0 : w'.cell? ⟨g, 0, none⟩ = some (.int .i64 a) := hp_cell X.out 0; have x1 : w'.cell? ⟨g, 1, none⟩ = some (.int .i64 b) := hp_cell X.out 1; have gl := hp_lt X.out) | (go_at_call 25; refine (H3.out _).mono ?_; rintro e w' ⟨A2, c2, rfl, hn, hb⟩; have K2 := Lib.hid (FK.of K1.out.bl hn hb M.out); replace K0 := Lib.hid (K0.out.below hb); replace K1 := Lib.hid (K1.out.below hb); replace X := Lib.hid (hp_below X.out hb); clear hn hb x0 x1 gl; have x0 : w'.cell? ⟨g, 0, none⟩ = some (.int .i64 a) := hp_cell X.out 0; have x1 : w'.cell? ⟨g, 1, none⟩ = some (.int .i64 b) := hp_cell X.out 1; have gl := hp_lt X.out) | (go_at_call 26; refine (H4.out _).mono ?_; rintro e w' ⟨A3, c3, rfl, hn, hb⟩; have K3 := Lib.hid (FK.of K2.out.bl hn hb M.out); replace K0 := Lib.hid (K0.out.below hb); replace K1 := Lib.hid (K1.out.below hb); replace K2 := Lib.hid (K2.out.below hb); replace X := Lib.hid (hp_below X.out hb); clear hn hb x0 x1 gl; have x0 : w'.cell? ⟨g, 0, none⟩ = some (.int .i64 a) := hp_cell X.out 0; have x1 : w'.cell? ⟨g, 1, none⟩ = some (.int .i64 b) := hp_cell X.out 1; have gl := hp_lt X.out) | (go_at_call 21; refine (live23 _).mono ?_; rintro e w' ⟨rfl, hb⟩; replace K0 := Lib.hid (K0.out.below hb); replace K1 := Lib.hid (K1.out.below hb); replace K2 := Lib.hid (K2.out.below hb); replace K3 := Lib.hid (K3.out.below hb); clear hb) | (go_at_call 22; (with_reducible refine (sameIns_yes A0 A1 c0 c1 l Ll.out _ ?h1 ?h2).mono ?_); (case h1 => exact K0.out.ins); (case h2 => exact K1.out.ins); rintro e w' ⟨rfl, hb⟩; replace K0 := Lib.hid (K0.out.below hb); replace K1 := Lib.hid (K1.out.below hb); replace K2 := Lib.hid (K2.out.below hb); replace K3 := Lib.hid (K3.out.below hb); clear hb) | (go_at_call 22; (with_reducible refine (sameIns_yes A2 A3 c2 c3 k Lk.out _ ?h1 ?h2).mono ?_); (case h1 => exact K2.out.ins); (case h2 => exact K3.out.ins); rintro e w' ⟨rfl, hb⟩; replace K0 := Lib.hid (K0.out.below hb); replace K1 := Lib.hid (K1.out.below hb); replace K2 := Lib.hid (K2.out.below hb); replace K3 := Lib.hid (K3.out.below hb); clear hb))
  go_ret
  exact ⟨rfl, K3.out.bl⟩
end Go.Proofs.Ytcjkpeojjonpiaa
