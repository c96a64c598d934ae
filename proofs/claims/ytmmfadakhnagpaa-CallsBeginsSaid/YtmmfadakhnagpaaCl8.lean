
/-
  rowlocklaw24: the parameters, few, Begin, live.
-/
import Derived.Test.YtmmfadakhnagpaaCl7
import Derived.OpenShut
import Derived.Lib.SmallJoins
import Derived.Laws.MakeOwn
import Derived.Deep.CutBlock
import Derived.Handy
namespace Go.Proofs.Ytmmfadakhnagpaa
open Go.RowKit Go.ChangeShapes Go.WideShapes
set_option linter.unusedSimpArgs false
set_option linter.unusedVariables false

theorem arr3 {α : Type} {cs : Array α} (h : cs.size = 3) : ∃ c0 c1 c2, cs = #[c0, c1, c2] := by
  obtain ⟨l⟩ := cs
  match l, h with
  | [c0, c1, c2], _ => exact ⟨c0, c1, c2, rfl⟩
def I3 (v : Value) : Prop := ∃ f0 f1 f2 : Int, v = .agg #[.int .i64 f0, .int .i64 f1, .int .i64 f2] ∧ (-9223372036854775808 ≤ f0 ∧ f0 ≤ 9223372036854775807) ∧ (-9223372036854775808 ≤ f1 ∧ f1 ≤ 9223372036854775807) ∧ (-9223372036854775808 ≤ f2 ∧ f2 ≤ 9223372036854775807)
set_option maxRecDepth 100000 in
theorem i3_of {H : Type} {enc : TypeId × Value → H} {W : World} {base base' : Nat} {spare : Nat → Bool} {held : Bool} {v : Value} {d : DataW H} {p : List MemPlace} (hv : Value.okWide Try.prog W .any base' 23 v) (h : DataW.Trod enc Try.prog W base spare held 23 v d p) : I3 v := by
  have hu := Try.underlying23
  simp only [Value.okWide, hu] at hv
  obtain ⟨cs, rfl, hsz, _⟩ := hv
  have hC : Program.cellsOf Try.prog 23 = 3 := by kernel_rfl
  obtain ⟨c0, c1, c2, rfl⟩ := arr3 (hsz.trans hC)
  obtain ⟨fuel, hf⟩ := h
  obtain ⟨xs, m, _, _, _, hx, hi⟩ := DataW.trod_array hu hf
  match xs, hx with
  | [y0, y1, y2], _ =>
    obtain ⟨n0, e0, _, b0⟩ := DataW.trod_int (cs := [c0]) Try.underlying3 ((congrArg _ (by kernel_rfl)).trans (hi 0 (by decide)))
    obtain ⟨n1, e1, _, b1⟩ := DataW.trod_int (cs := [c1]) Try.underlying3 ((congrArg _ (by kernel_rfl)).trans (hi 1 (by decide)))
    obtain ⟨n2, e2, _, b2⟩ := DataW.trod_int (cs := [c2]) Try.underlying3 ((congrArg _ (by kernel_rfl)).trans (hi 2 (by decide)))
    simp only [List.cons.injEq, and_true] at e0 e1 e2
    subst e0 e1 e2
    exact ⟨n0, n1, n2, rfl, bounds_i64 b0, bounds_i64 b1, bounds_i64 b2⟩
/-- A list of calls that came in. -/
def CallsIn (w : World) (A : Option Addr) (n c : Nat) : Prop := ∃ cs : List Cl, cs.length = n ∧ ClsAt w A cs ∧ n ≤ c ∧ (A = none → c = 0)
set_option maxRecDepth 100000 in
theorem calls_in {H : Type} {enc : TypeId × Value → H} {W : World} {base : Nat} {spare : Nat → Bool} {held : Bool} {a : Option Addr} {len cap : Nat} {d : DataW H} {p : List MemPlace} (h : DataW.Trod enc Try.prog W base spare held 24 (.slice a len cap) d p) : CallsIn W a len cap := by
  have h1 := calls_of h
  obtain ⟨cs, h2, h3⟩ := cls_of h1
  obtain ⟨fuel, h⟩ := h
  refine ⟨cs, h2, h3, ?_⟩
  rcases Go.Deep.open_slice Try.underlying24 h with ⟨h0, _⟩ | ⟨a', len', cap', m, n, D, Pl, hcs, hb, hl, hm, hmm, hx, hi⟩
  · obtain ⟨rfl, rfl, rfl⟩ : a = none ∧ len = 0 ∧ cap = 0 := by simpa [Value.cells] using h0
    exact ⟨Nat.le_refl _, fun _ => rfl⟩
  · obtain ⟨rfl, rfl, rfl⟩ : a = some a' ∧ len = len' ∧ cap = cap' := by simpa [Value.cells] using hcs
    exact ⟨hl, fun h => by cases h⟩
theorem ClsAt.take {w : World} {A : Option Addr} {cs : List Cl} (h : ClsAt w A cs) (n : Nat) : ClsAt w A (cs.take n) :=
  ⟨Nat.le_trans (by rw [List.length_take]; omega) h.1, fun j c hj => h.2 j c (by
    rw [List.getElem?_take] at hj
    split at hj
    · exact hj
    · cases hj)⟩
theorem few24 (A : Option Addr) (cs : List Cl) (cap : Nat) (hc : cs.length ≤ cap) (hn : A = none → cap = 0) (w : World) : Calls Try.prog 7 #[.slice A cs.length cap] w fun e w' => e = .returned (.slice A (cs.take 12).length cap) ∧ w = w' := by
  by_cases hl : cs.length ≤ 12
  · have t0 : decide ((cs.length : Int) > 12) = false := decide_eq_false (by omega)
    have t0' : decide ((12 : Int) < (cs.length : Int)) = false := decide_eq_false (by omega)
    have HL := Lib.hid (show (cs.take 12).length = cs.length by rw [List.length_take]; omega)
    clear hn hc hl
    go_enter Try.func7, Try.ntmps7
    go_wp2
    go_ret
    exact ⟨by rw [HL.out]; rfl, rfl⟩
  · have t0 : decide ((cs.length : Int) > 12) = true := decide_eq_true (by omega)
    have t0' : decide ((12 : Int) < (cs.length : Int)) = true := decide_eq_true (by omega)
    have h12 : 12 ≤ cap := by omega
    have HL := Lib.hid (show (cs.take 12).length = 12 by rw [List.length_take]; omega)
    cases A with
    | none => have := hn rfl; omega
    | some a =>
      clear hn hc hl
      go_enter Try.func7, Try.ntmps7
      go_wp2
      go_ret
      exact ⟨by rw [HL.out]; rfl, rfl⟩
def bgL (K sz : Int) : List Int := bif K == 2 then [intV sz] else List.replicate (tvI K sz).toNat 0
def BgPost (K sz : Int) (w : World) (e : Ending) (w' : World) : Prop := ∃ g, e = .returned (.tuple #[.slice (some ⟨g, 0, none⟩) (bgL K sz).length (bgL K sz).length, .int .i64 0]) ∧ w'.heap[g]? = some (.cells (valsC (bgL K sz)).toArray 53 (0, 0)) ∧ Below w.heap.size w w' ∧ w.heap.size ≤ g
set_option maxRecDepth 100000 in
set_option maxHeartbeats 8000000 in
theorem begin_10 (w : World) : Calls Try.prog 13 #[.int .u8 1, .int .i64 0] w (BgPost 1 0 w) := by
  have ET := Lib.hid (show tvI 1 0 = 1 by kernel_rfl)
  have HT := Lib.hid (by have := ctv 1 0 w; rw [ET.out] at this; exact this)
  have EL := Lib.hid (show bgL 1 0 = [0] by unfold bgL; rw [ET.out]; rfl)
  skip
  unfold BgPost
  obtain ⟨i0, hi, hz0, hz1, hz2⟩ := info_parts Val_info
  have hmk : ∀ w : World, (Instr.makeSlice 36 (.int .i64 1) (.int .i64 1)).run Try.prog w = .ok (.slice (some ⟨w.heap.size, 0, none⟩) 1 1) (w.alloc (.cells #[.int .u64 0] 53)) := fun w => by
    have := run_makeSlice (P := Try.prog) w 36 53 i0 _ Try.underlying36 hi hz0 .i64 .i64 1 1 (by decide) (by decide) (by rw [hz1]; decide) (by rw [hz2]; decide) (by decide)
    rw [hz1, show madeCells (Value.int .u64 0).cells (Int.toNat 1 * 1) = #[.int .u64 0] by kernel_rfl] at this
    exact this
  clear hi hz0 hz1 hz2
  go_enter Try.func13, Try.ntmps13
  go_wp2_with (first | (go_at_call 12; refine HT.out.mono ?_; rintro e w1 ⟨rfl, hb⟩; have HB := Lib.hid hb; clear hb))
  go_ret2
  rw [EL.out]
  exact ⟨w1.heap.size, rfl, heap_alloc_new w1 _, HB.out.alloc HB.out.size _, HB.out.size⟩
set_option maxRecDepth 100000 in
set_option maxHeartbeats 8000000 in
theorem begin_31 (w : World) : Calls Try.prog 13 #[.int .u8 3, .int .i64 1] w (BgPost 3 1 w) := by
  have ET := Lib.hid (show tvI 3 1 = 3 by kernel_rfl)
  have HT := Lib.hid (by have := ctv 3 1 w; rw [ET.out] at this; exact this)
  have EL := Lib.hid (show bgL 3 1 = [0, 0, 0] by unfold bgL; rw [ET.out]; rfl)
  skip
  unfold BgPost
  obtain ⟨i0, hi, hz0, hz1, hz2⟩ := info_parts Val_info
  have hmk : ∀ w : World, (Instr.makeSlice 36 (.int .i64 3) (.int .i64 3)).run Try.prog w = .ok (.slice (some ⟨w.heap.size, 0, none⟩) 3 3) (w.alloc (.cells #[.int .u64 0, .int .u64 0, .int .u64 0] 53)) := fun w => by
    have := run_makeSlice (P := Try.prog) w 36 53 i0 _ Try.underlying36 hi hz0 .i64 .i64 3 3 (by decide) (by decide) (by rw [hz1]; decide) (by rw [hz2]; decide) (by decide)
    rw [hz1, show madeCells (Value.int .u64 0).cells (Int.toNat 3 * 1) = #[.int .u64 0, .int .u64 0, .int .u64 0] by kernel_rfl] at this
    exact this
  clear hi hz0 hz1 hz2
  go_enter Try.func13, Try.ntmps13
  go_wp2_with (first | (go_at_call 12; refine HT.out.mono ?_; rintro e w1 ⟨rfl, hb⟩; have HB := Lib.hid hb; clear hb))
  go_ret2
  rw [EL.out]
  exact ⟨w1.heap.size, rfl, heap_alloc_new w1 _, HB.out.alloc HB.out.size _, HB.out.size⟩
set_option maxRecDepth 100000 in
set_option maxHeartbeats 8000000 in
theorem begin_32 (w : World) : Calls Try.prog 13 #[.int .u8 3, .int .i64 2] w (BgPost 3 2 w) := by
  have ET := Lib.hid (show tvI 3 2 = 4 by kernel_rfl)
  have HT := Lib.hid (by have := ctv 3 2 w; rw [ET.out] at this; exact this)
  have EL := Lib.hid (show bgL 3 2 = [0, 0, 0, 0] by unfold bgL; rw [ET.out]; rfl)
  skip
  unfold BgPost
  obtain ⟨i0, hi, hz0, hz1, hz2⟩ := info_parts Val_info
  have hmk : ∀ w : World, (Instr.makeSlice 36 (.int .i64 4) (.int .i64 4)).run Try.prog w = .ok (.slice (some ⟨w.heap.size, 0, none⟩) 4 4) (w.alloc (.cells #[.int .u64 0, .int .u64 0, .int .u64 0, .int .u64 0] 53)) := fun w => by
    have := run_makeSlice (P := Try.prog) w 36 53 i0 _ Try.underlying36 hi hz0 .i64 .i64 4 4 (by decide) (by decide) (by rw [hz1]; decide) (by rw [hz2]; decide) (by decide)
    rw [hz1, show madeCells (Value.int .u64 0).cells (Int.toNat 4 * 1) = #[.int .u64 0, .int .u64 0, .int .u64 0, .int .u64 0] by kernel_rfl] at this
    exact this
  clear hi hz0 hz1 hz2
  go_enter Try.func13, Try.ntmps13
  go_wp2_with (first | (go_at_call 12; refine HT.out.mono ?_; rintro e w1 ⟨rfl, hb⟩; have HB := Lib.hid hb; clear hb))
  go_ret2
  rw [EL.out]
  exact ⟨w1.heap.size, rfl, heap_alloc_new w1 _, HB.out.alloc HB.out.size _, HB.out.size⟩
set_option maxRecDepth 100000 in
set_option maxHeartbeats 8000000 in
theorem begin_33 (w : World) : Calls Try.prog 13 #[.int .u8 3, .int .i64 3] w (BgPost 3 3 w) := by
  have ET := Lib.hid (show tvI 3 3 = 5 by kernel_rfl)
  have HT := Lib.hid (by have := ctv 3 3 w; rw [ET.out] at this; exact this)
  have EL := Lib.hid (show bgL 3 3 = [0, 0, 0, 0, 0] by unfold bgL; rw [ET.out]; rfl)
  skip
  unfold BgPost
  obtain ⟨i0, hi, hz0, hz1, hz2⟩ := info_parts Val_info
  have hmk : ∀ w : World, (Instr.makeSlice 36 (.int .i64 5) (.int .i64 5)).run Try.prog w = .ok (.slice (some ⟨w.heap.size, 0, none⟩) 5 5) (w.alloc (.cells #[.int .u64 0, .int .u64 0, .int .u64 0, .int .u64 0, .int .u64 0] 53)) := fun w => by
    have := run_makeSlice (P := Try.prog) w 36 53 i0 _ Try.underlying36 hi hz0 .i64 .i64 5 5 (by decide) (by decide) (by rw [hz1]; decide) (by rw [hz2]; decide) (by decide)
    rw [hz1, show madeCells (Value.int .u64 0).cells (Int.toNat 5 * 1) = #[.int .u64 0, .int .u64 0, .int .u64 0, .int .u64 0, .int .u64 0] by kernel_rfl] at this
    exact this
  clear hi hz0 hz1 hz2
  go_enter Try.func13, Try.ntmps13
  go_wp2_with (first | (go_at_call 12; refine HT.out.mono ?_; rintro e w1 ⟨rfl, hb⟩; have HB := Lib.hid hb; clear hb))
  go_ret2
  rw [EL.out]
  exact ⟨w1.heap.size, rfl, heap_alloc_new w1 _, HB.out.alloc HB.out.size _, HB.out.size⟩
set_option maxRecDepth 100000 in
set_option maxHeartbeats 8000000 in
theorem begin_34 (w : World) : Calls Try.prog 13 #[.int .u8 3, .int .i64 4] w (BgPost 3 4 w) := by
  have ET := Lib.hid (show tvI 3 4 = 6 by kernel_rfl)
  have HT := Lib.hid (by have := ctv 3 4 w; rw [ET.out] at this; exact this)
  have EL := Lib.hid (show bgL 3 4 = [0, 0, 0, 0, 0, 0] by unfold bgL; rw [ET.out]; rfl)
  skip
  unfold BgPost
  obtain ⟨i0, hi, hz0, hz1, hz2⟩ := info_parts Val_info
  have hmk : ∀ w : World, (Instr.makeSlice 36 (.int .i64 6) (.int .i64 6)).run Try.prog w = .ok (.slice (some ⟨w.heap.size, 0, none⟩) 6 6) (w.alloc (.cells #[.int .u64 0, .int .u64 0, .int .u64 0, .int .u64 0, .int .u64 0, .int .u64 0] 53)) := fun w => by
    have := run_makeSlice (P := Try.prog) w 36 53 i0 _ Try.underlying36 hi hz0 .i64 .i64 6 6 (by decide) (by decide) (by rw [hz1]; decide) (by rw [hz2]; decide) (by decide)
    rw [hz1, show madeCells (Value.int .u64 0).cells (Int.toNat 6 * 1) = #[.int .u64 0, .int .u64 0, .int .u64 0, .int .u64 0, .int .u64 0, .int .u64 0] by kernel_rfl] at this
    exact this
  clear hi hz0 hz1 hz2
  go_enter Try.func13, Try.ntmps13
  go_wp2_with (first | (go_at_call 12; refine HT.out.mono ?_; rintro e w1 ⟨rfl, hb⟩; have HB := Lib.hid hb; clear hb))
  go_ret2
  rw [EL.out]
  exact ⟨w1.heap.size, rfl, heap_alloc_new w1 _, HB.out.alloc HB.out.size _, HB.out.size⟩
set_option maxRecDepth 100000 in
set_option maxHeartbeats 8000000 in
theorem begin_4 (sz : Int) (h : 1 ≤ sz ∧ sz ≤ 4) (w : World) : Calls Try.prog 13 #[.int .u8 4, .int .i64 sz] w (BgPost 4 sz w) := by
  have ET := Lib.hid (show tvI 4 sz = 2 by unfold tvI; rw [show goodK 4 sz = true by unfold goodK; simp; omega]; rfl)
  have HT := Lib.hid (by have := ctv 4 sz w; rw [ET.out] at this; exact this)
  have EL := Lib.hid (show bgL 4 sz = [0, 0] by unfold bgL; rw [ET.out]; rfl)
  clear h
  unfold BgPost
  obtain ⟨i0, hi, hz0, hz1, hz2⟩ := info_parts Val_info
  have hmk : ∀ w : World, (Instr.makeSlice 36 (.int .i64 2) (.int .i64 2)).run Try.prog w = .ok (.slice (some ⟨w.heap.size, 0, none⟩) 2 2) (w.alloc (.cells #[.int .u64 0, .int .u64 0] 53)) := fun w => by
    have := run_makeSlice (P := Try.prog) w 36 53 i0 _ Try.underlying36 hi hz0 .i64 .i64 2 2 (by decide) (by decide) (by rw [hz1]; decide) (by rw [hz2]; decide) (by decide)
    rw [hz1, show madeCells (Value.int .u64 0).cells (Int.toNat 2 * 1) = #[.int .u64 0, .int .u64 0] by kernel_rfl] at this
    exact this
  clear hi hz0 hz1 hz2
  go_enter Try.func13, Try.ntmps13
  go_wp2_with (first | (go_at_call 12; refine HT.out.mono ?_; rintro e w1 ⟨rfl, hb⟩; have HB := Lib.hid hb; clear hb))
  go_ret2
  rw [EL.out]
  exact ⟨w1.heap.size, rfl, heap_alloc_new w1 _, HB.out.alloc HB.out.size _, HB.out.size⟩
set_option maxRecDepth 100000 in
set_option maxHeartbeats 8000000 in
theorem begin_2 (sz : Int) (h : 0 ≤ sz ∧ sz ≤ 9) (w : World) : Calls Try.prog 13 #[.int .u8 2, .int .i64 sz] w (BgPost 2 sz w) := by
  have ET := Lib.hid (show tvI 2 sz = 1 by unfold tvI; rw [show goodK 2 sz = true by unfold goodK; simp; omega]; rfl)
  have HT := Lib.hid (by have := ctv 2 sz w; rw [ET.out] at this; exact this)
  obtain ⟨iv, hiv⟩ : ∃ x, intV sz = x := ⟨_, rfl⟩
  have HI := Lib.hid (fun w => by have := int_any sz w; rw [hiv] at this; exact this)
  have EL := Lib.hid (show bgL 2 sz = [iv] by unfold bgL; rw [hiv]; rfl)
  clear hiv
  clear h
  unfold BgPost
  obtain ⟨i0, hi, hz0, hz1, hz2⟩ := info_parts Val_info
  have hmk : ∀ w : World, (Instr.makeSlice 36 (.int .i64 1) (.int .i64 1)).run Try.prog w = .ok (.slice (some ⟨w.heap.size, 0, none⟩) 1 1) (w.alloc (.cells #[.int .u64 0] 53)) := fun w => by
    have := run_makeSlice (P := Try.prog) w 36 53 i0 _ Try.underlying36 hi hz0 .i64 .i64 1 1 (by decide) (by decide) (by rw [hz1]; decide) (by rw [hz2]; decide) (by decide)
    rw [hz1, show madeCells (Value.int .u64 0).cells (Int.toNat 1 * 1) = #[.int .u64 0] by kernel_rfl] at this
    exact this
  clear hi hz0 hz1 hz2
  go_enter Try.func13, Try.ntmps13
  go_wp2_with (first | (go_at_call 12; refine HT.out.mono ?_; rintro e w1 ⟨rfl, hb⟩; have HB := Lib.hid hb; clear hb) | (go_at_call 34; refine (HI.out _).mono ?_; rintro e w7 ⟨rfl, rfl⟩))
  go_ret2
  rw [EL.out]
  first | exact ⟨w1.heap.size, rfl, heap_alloc_new w1 _, HB.out.alloc HB.out.size _, HB.out.size⟩ | exact ⟨w1.heap.size, rfl, hp_put (heap_alloc_new w1 _) 0 (.int .u64 iv) rfl, (HB.out.alloc HB.out.size _).setCell (p := ⟨w1.heap.size, 0, none⟩) HB.out.size _, HB.out.size⟩
theorem begin_good (K sz : Int) (hg : goodK K sz = true) (w : World) : Calls Try.prog 13 #[.int .u8 K, .int .i64 sz] w (BgPost K sz w) := by
  rcases good_cases hg with ⟨rfl, rfl⟩ | ⟨rfl, h1, h2⟩ | ⟨rfl, h1, h2⟩ | ⟨rfl, h1, h2⟩
  · exact begin_10 w
  · exact begin_2 sz ⟨h1, h2⟩ w
  · rcases (show sz = 1 ∨ sz = 2 ∨ sz = 3 ∨ sz = 4 by omega) with rfl | rfl | rfl | rfl
    · exact begin_31 w
    · exact begin_32 w
    · exact begin_33 w
    · exact begin_34 w
  · exact begin_4 sz ⟨h1, h2⟩ w
def cs0 : List Cl := [⟨1, 0, 0⟩, ⟨2, 0, 0⟩]
def L22 : List Ins3 := (progF 1 0 0 0 cs0).2
theorem live_p : progF 1 0 0 0 cs0 = (0, L22) := by kernel_rfl
theorem live_n : L22.length = 22 := by kernel_rfl
theorem live_c : (insC L22)[63]? = some (.int .u8 28) := by kernel_rfl
theorem cls0 {w : World} {g : Nat} (h : w.heap[g]? = some (.cells #[.int .u8 1, .int .i64 0, .int .u64 0, .int .u8 2, .int .i64 0, .int .u64 0] 55 (0, 0))) : ClsAt w (some ⟨g, 0, none⟩) cs0 := by
  refine ⟨by unfold maxLen; decide, fun j c hj => ⟨_, rfl, ?_⟩⟩
  have h' := fun i => hp_cell h i
  match j, hj with
  | 0, hj => obtain rfl := Option.some.inj hj; exact ⟨by decide, by decide, by constructor <;> decide, h' 0, h' 1, h' 2⟩
  | 1, hj => obtain rfl := Option.some.inj hj; exact ⟨by decide, by decide, by constructor <;> decide, h' 3, h' 4, h' 5⟩
  | j + 2, hj => simp [cs0] at hj
set_option maxRecDepth 100000 in
set_option maxHeartbeats 8000000 in
theorem live24 (w : World) : Calls Try.prog 9 #[] w fun e w' => e = .returned (.bool true) ∧ Below w.heap.size w w' := by
  have hb := (Below.refl w.heap.size w).alloc (Nat.le_refl _) (.cells #[.int .u8 1, .int .i64 0, .int .u64 0, .int .u8 2, .int .i64 0, .int .u64 0] 55)
  have HB := Lib.hid hb
  have HP := Lib.hid (by have := program_any 1 0 0 0 cs0 (some ⟨w.heap.size, 0, none⟩) 2 (by decide) (w.alloc (.cells #[.int .u8 1, .int .i64 0, .int .u64 0, .int .u8 2, .int .i64 0, .int .u64 0] 55)) (cls0 (heap_alloc_new w _)); rw [live_p] at this; exact this)
  have HT := Lib.hid (fun w => by have := ctv 4 3 w; rw [show tvI 4 3 = 2 by kernel_rfl] at this; exact this)
  have LN := Lib.hid live_n
  clear hb
  go_enter Try.func9, Try.ntmps9
  go_upto_region 2 with (go_at_call 6; refine HP.out.mono ?_; rintro e w1 ⟨A, c, rfl, hn, hb⟩; have HN := Lib.hid hn; have HB1 := Lib.hid (HB.out.trans (hb.mono HB.out.size)); clear hn hb)
  obtain ⟨g, rfl⟩ := nrow_g HN.out (by show L22.length ≠ 0; rw [LN.out]; decide)
  have hcell := inss_cells (nrow_inss HN.out (by show L22.length ≤ 1000; rw [LN.out]; decide)).1 63 _ live_c
  rw [add_at, Nat.zero_add] at hcell
  have HC := Lib.hid hcell
  clear hcell
  try dsimp only
  rw [LN.out]
  go_wp2_with (first | (go_at_call 13; refine (begin_32 _).mono ?_; rintro e w2 ⟨g2, rfl, _, hb, _⟩; have x63 : w2.cell? ⟨g, 63, none⟩ = some (.int .u8 28) := (hb.cell (p := ⟨g, 63, none⟩) (World.block_lt_of_cell? w1 _ HC.out)).trans HC.out; have xl := World.block_lt_of_cell? w2 _ x63; have HB2 := Lib.hid (HB1.out.trans (hb.mono HB1.out.size)); clear hb) | (go_at_call 12; refine (HT.out _).mono ?_; rintro e w3 ⟨rfl, hb⟩; have HB3 := Lib.hid (HB2.out.trans (hb.mono HB2.out.size)); clear hb))
  go_ret
  exact ⟨rfl, HB3.out⟩
end Go.Proofs.Ytmmfadakhnagpaa
