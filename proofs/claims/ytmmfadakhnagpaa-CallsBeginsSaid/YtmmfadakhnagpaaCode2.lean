
/-
  code.Right, Uses, Effect, Word, limit.
-/
import Derived.Test.YtmmfadakhnagpaaCode
import Derived.Test.YtmmfadakhnagpaaIns
import Derived.Handy
import Derived.LoopTactic
import Derived.Deep.QuietTactic
import Derived.BigQuiet
import Derived.Outline
namespace Go.Proofs.Ytmmfadakhnagpaa
open Go.RowKit
set_option linter.unusedSimpArgs false
set_option linter.unusedVariables false

def argB (o : Int) : Bool := (formAt o.toNat).2.1
def valB (o : Int) : Bool := (formAt o.toNat).2.2.1
def popsI (o : Int) : Int := (formAt o.toNat).2.2.2.1
def pushI (o : Int) : Int := (formAt o.toNat).2.2.2.2
def wordL (o : Int) : List UInt8 := (formAt o.toNat).1
def limI (o : Int) : Int := bif o == 2 then 4 else bif o == 3 then 4 else bif o == 4 then 12 else bif o == 5 then 12 else bif o == 6 then 12 else bif o == 7 then 12 else 64
def rightI (x : Ins3) : Bool := decide (x.op < 29) && (argB x.op || x.arg == 0) && (valB x.op || x.val == 0) && decide (0 ≤ x.arg) && decide (x.arg < limI x.op) && rightB x.val
theorem code_as (o : Int) (h0 : 0 ≤ o) (h1 : o ≤ 255) (F : List UInt8 × Bool × Bool × Int × Int) (hF : formAt o.toNat = F) (w : World) : Calls Try.prog 115 #[.int .u8 o] w fun e w' => e = .returned (.agg #[.string ⟨F.1.toArray⟩, .bool F.2.1, .bool F.2.2.1, .int .i64 F.2.2.2.1, .int .i64 F.2.2.2.2]) ∧ Below w.heap.size w w' := by
  subst hF
  exact code_of o h0 h1 w
theorem uses_any (o : Int) (h0 : 0 ≤ o) (h1 : o ≤ 255) (w : World) : Calls Try.prog 110 #[.int .u8 o] w fun e w' => e = .returned (.tuple #[.bool (argB o), .bool (valB o)]) ∧ Below w.heap.size w w' := by
  unfold argB valB
  obtain ⟨F, hF⟩ : ∃ F, formAt o.toNat = F := ⟨_, rfl⟩
  have HC := Lib.hid (fun w => code_as o h0 h1 F hF w)
  rw [hF]
  clear hF
  obtain ⟨F1, F2, F3, F4, F5⟩ := F
  go_enter Try.func110, Try.ntmps110
  go_wp2_with (go_at_call 115; refine (HC.out _).mono ?_; rintro e w1 ⟨rfl, hb⟩; have HB := Lib.hid hb; clear hb)
  go_quiet (fail)
  go_wp2_with fail
  go_ret2
  exact ⟨rfl, bl_drewN (HB.out.alloc HB.out.size _) _⟩
theorem word_halt (w : World) : Calls Try.prog 118 #[.int .u8 28] w fun e w' => e = .returned (.string ⟨#[104, 97, 108, 116]⟩) ∧ Below w.heap.size w w' := by
  have HC := Lib.hid (fun w => code_as 28 (by decide) (by decide) ([104, 97, 108, 116], false, false, 0, 0) rfl w)
  have hfd : ∀ w, (Instr.field 152 (.agg #[.string ⟨#[104, 97, 108, 116]⟩, .bool false, .bool false, .int .i64 0, .int .i64 0]) 0).run Try.prog w = .ok (.string ⟨#[104, 97, 108, 116]⟩) w := fun w => by kernel_rfl
  go_enter Try.func118, Try.ntmps118
  go_wp2_with (go_at_call 115; refine (HC.out _).mono ?_; rintro e w1 ⟨rfl, hb⟩; have HB := Lib.hid hb; clear hb)
  go_ret
  exact ⟨rfl, HB.out⟩
theorem form_word (o : Int) (h0 : 0 ≤ o) : (wordL o).isEmpty = !decide (o < 29) := by
  unfold wordL formAt
  by_cases h : o < 29
  · have : o.toNat < 29 := by omega
    rw [decide_eq_true h]
    generalize o.toNat = n at *
    revert n
    decide
  · rw [decide_eq_false h, List.getD_eq_getElem?_getD, List.getElem?_eq_none (by show 29 ≤ o.toNat; omega)]
    rfl
end Go.Proofs.Ytmmfadakhnagpaa
