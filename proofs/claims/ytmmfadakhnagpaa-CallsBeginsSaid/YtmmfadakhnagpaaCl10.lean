
/-
  calls.ShapeOf of the variables at first.
-/
import Derived.Test.YtmmfadakhnagpaaCl8
import Derived.Test.YtmmfadakhnagpaaRef11
import Derived.Deep.LoopGhost
import Derived.Deep.CutBlock
import Derived.LoopTactic
import Derived.Handy
namespace Go.Proofs.Ytmmfadakhnagpaa
open Go.RowKit Go.ChangeShapes Go.WideShapes
set_option linter.unusedSimpArgs false
set_option linter.unusedVariables false

set_option maxHeartbeats 4000000 in
theorem cwhole (v n0 hi : Int) (hv : W64 v) (e1 : wholeN v = n0) (e2 : wholeOk v = true) (h : 0 ≤ n0 ∧ n0 ≤ hi) (h3 : v ≠ 9223372036854775808) (w : World) : Calls Try.prog 39 #[.int .u64 v, .int .i64 hi] w fun e w' => e = .returned (.tuple #[.int .i64 n0, .bool true]) ∧ w = w' := by
  have HW := Lib.hid (fun w => by have := whole_any v hv w; rw [e1, e2] at this; exact this)
  have t1 : decide (0 ≤ n0) = true := decide_eq_true h.1
  have t1' : decide (n0 ≥ 0) = true := t1
  have t2 : decide (n0 ≤ hi) = true := decide_eq_true h.2
  have t3 : (v == 9223372036854775808) = false := by simpa using h3
  have t4 : (v != 9223372036854775808) = true := by simpa using h3
  clear hv e1 e2 h h3
  go_enter Try.func39, Try.ntmps39
  go_wp2_with (go_at_call 78; refine (HW.out _).mono ?_; rintro e w' ⟨rfl, rfl⟩)
  go_ret2
  exact ⟨rfl, rfl⟩
set_option maxHeartbeats 4000000 in
theorem also_any (n : Int) (b : Nat) (w : World) (h : w.heap[b]? = some (.cells #[.bool true] 4 (0, 0))) : Calls Try.prog 38 #[.int .i64 n, .bool true, .pointer (some ⟨b, 0, none⟩)] w fun e w' => e = .returned (.int .i64 n) ∧ w.setCell ⟨b, 0, none⟩ (.bool true) = w' := by
  have x0 : w.cell? ⟨b, 0, none⟩ = some (.bool true) := hp_cell h 0
  have xz := hp_frozen h 0
  have xl := hp_lt h
  clear h
  go_enter Try.func38, Try.ntmps38
  go_wp2_with fail
  go_ret
  exact ⟨rfl, rfl⟩
theorem en_also (args : Array Value) (w : World) : (callFunc 38 args).run Try.prog w = .ok (.enter 38 args) w := by kernel_rfl
set_option maxHeartbeats 4000000 in
theorem notRight (v : Int) (hv : W64 v) (hr : rightB v = true) (w : World) : Calls Try.prog 36 #[.int .u64 v] w fun e w' => e = .returned (.bool false) ∧ w = w' := by
  have HR := Lib.hid (fun w => by have := right_any v hv w; rw [hr] at this; exact this)
  clear hv hr
  go_enter Try.func36, Try.ntmps36
  go_wp2_with (go_at_call 37; refine (HR.out _).mono ?_; rintro e w' ⟨rfl, rfl⟩)
  go_ret
  exact ⟨rfl, rfl⟩
theorem vc_at {w : World} {g : Nat} {l : List Int} (h : w.heap[g]? = some (.cells (valsC l).toArray 53 (0, 0))) {j : Nat} {v : Int} (hj : l[j]? = some v) : w.cell? ⟨g, j, none⟩ = some (.int .u64 v) := by
  rw [hp_cell h]
  have : (valsC l)[j]? = some (.int .u64 v) := by rw [valsC_get, hj]; rfl
  simpa using this
set_option maxRecDepth 20000 in
set_option maxHeartbeats 8000000 in
theorem indexV (g : Nat) (l : List Int) (hl : l.length ≤ 10) (hok : ∀ x ∈ l, W64 x ∧ rightB x = true) (w : World) (h : w.heap[g]? = some (.cells (valsC l).toArray 53 (0, 0))) : Calls Try.prog 77 #[.slice (some ⟨g, 0, none⟩) l.length l.length, .func (.func 36) #[] #[]] w fun e w' => e = .returned (.int .i64 (-1)) ∧ w = w' := by
  have H := Lib.hid h
  have HO := Lib.hid hok
  have HL := Lib.hid hl
  clear h hok hl
  go_enter Try.func77, Try.ntmps77
  go_wp2_with fail
  go_loopg [5, 8] l.length (fun gm s5 s8 wx => ∃ j : Nat, j ≤ l.length ∧ gm = l.length - j ∧ s8 = .int .i64 j ∧ w = wx)
  case atStart => exact ⟨0, Nat.zero_le _, rfl, rfl, rfl⟩
  case round =>
    obtain ⟨j, hj, rfl, rfl, rfl⟩ := hrel
    by_cases hlt : j < l.length
    · obtain ⟨x, hx⟩ : ∃ x, l[j]? = some x := ⟨_, List.getElem?_eq_getElem hlt⟩
      have t1 : decide (j < l.length) = true := decide_eq_true hlt
      have t1' : decide ((j : Int) < (l.length : Int)) = true := decide_eq_true (by omega)
      have t3 : (j : Int) < (l.length : Int) := by omega
      have t4 : (0 : Int) ≤ (j : Int) := by omega
      have s5 : wrap64 ((j : Int) + 1) = (j : Int) + 1 := by have := HL.out; unfold wrap64; omega
      have x0 := vc_at H.out hx
      have xl := World.block_lt_of_cell? w _ x0
      have hh := HO.out x (List.mem_of_getElem? hx)
      have HN := Lib.hid (notRight x hh.1 hh.2)
      have HLT := Lib.hid hlt
      clear hx hlt hj hh
      go_wp2_with (go_at_call 36; refine (HN.out _).mono ?_; rintro e w' ⟨rfl, rfl⟩)
      go_roundg (l.length - (j + 1))
      case measure => have := HLT.out; omega
      case rel => exact ⟨j + 1, HLT.out, rfl, by first | rfl | (rw [s5]; rfl), rfl⟩
    · obtain rfl : j = l.length := by omega
      have t1 : decide (l.length < l.length) = false := decide_eq_false (by omega)
      have t1' : decide ((l.length : Int) < (l.length : Int)) = false := decide_eq_false (by omega)
      go_wp2_with fail
      go_ret
      exact ⟨rfl, rfl⟩
set_option maxHeartbeats 4000000 in
theorem containsV (g : Nat) (l : List Int) (hl : l.length ≤ 10) (hok : ∀ x ∈ l, W64 x ∧ rightB x = true) (w : World) (h : w.heap[g]? = some (.cells (valsC l).toArray 53 (0, 0))) : Calls Try.prog 35 #[.slice (some ⟨g, 0, none⟩) l.length l.length, .func (.func 36) #[] #[]] w fun e w' => e = .returned (.bool false) ∧ w = w' := by
  have HI := Lib.hid (indexV g l hl hok w h)
  clear h hok hl
  go_enter Try.func35, Try.ntmps35
  go_wp2_with (go_at_call 77; refine HI.out.mono ?_; rintro e w' ⟨rfl, rfl⟩)
  go_ret
  exact ⟨rfl, rfl⟩
end Go.Proofs.Ytmmfadakhnagpaa
