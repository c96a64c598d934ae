
/-
  locks.jumps and locks.block: a block's instructions from a place on.
-/
import Derived.Test.YtcjkpeojjonpiaaCode
import Derived.Test.YtcjkpeojjonpiaaBlk1
import Derived.WalkSmall
import Derived.LoopTactic
import Derived.Deep.LoopGhost
import Derived.Deep.AppendSrc
import Derived.Laws.OwnMore
namespace Go.Proofs.Ytcjkpeojjonpiaa
open Go.RowKit
set_option linter.unusedSimpArgs false

theorem uses_any (o : Int) (h0 : 0 ≤ o) (h2 : o ≤ 255) (w : World) : Calls Try.prog 97 #[.int .u8 o] w fun e w' => e = .returned (.tuple #[.bool (formAt o.toNat).2.1, .bool (formAt o.toNat).2.2.1]) ∧ Below w.heap.size w w' := by
  generalize hF : formAt o.toNat = F
  have HF := Lib.hid hF
  clear hF
  have C : ∀ w : World, Calls Try.prog 102 #[.int .u8 o] w fun e w' => e = .returned (formV F) ∧ Below w.heap.size w w' := by
    intro w
    refine (code_of o h0 h2 w).mono ?_
    rintro e w' ⟨rfl, hb⟩
    exact ⟨by rw [HF.out], hb⟩
  have HC := Lib.hid C
  clear C
  unfold formV at HC
  go_enter Try.func97, Try.ntmps97
  go_wp2_with (go_at_call 102; refine (HC.out _).mono ?_; rintro e w1 ⟨rfl, hb⟩)
  go_quiet (fail)
  go_wp2
  go_ret2
  exact ⟨rfl, below_drewN (hb.alloc hb.size _) _⟩
theorem jumps_any (o : Int) (h0 : 0 ≤ o) (h2 : o ≤ 255) (w : World) : Calls Try.prog 80 #[.int .u8 o] w fun e w' => e = .returned (.bool (jumpB o)) ∧ Below w.heap.size w w' := by
  by_cases h : o = 21 ∨ o = 19 ∨ o = 20
  · rcases h with rfl | rfl | rfl
    all_goals
      go_enter Try.func80, Try.ntmps80
      go_wp2_with (go_at_call 97; refine (uses_any _ (by decide) (by decide) _).mono ?_; rintro e w1 ⟨rfl, hb⟩)
      go_ret
      exact ⟨rfl, hb⟩
  · have e1 : (o == 21) = false := by rw [beq_eq_false_iff_ne]; omega
    have e2 : (o == 19) = false := by rw [beq_eq_false_iff_ne]; omega
    have e3 : (o == 20) = false := by rw [beq_eq_false_iff_ne]; omega
    have F := Lib.hid (show jumpB o = false by unfold jumpB; rw [e1, e2, e3]; rfl)
    clear h
    go_enter Try.func80, Try.ntmps80
    go_wp2
    go_ret
    exact ⟨by rw [F.out]; rfl, Below.refl _ _⟩

theorem block_any (p : Int) (p0 : 0 ≤ p) (p1 : p ≤ 64) (l : List (Int × Int × Int)) (hl : 0 < l.length) (hl2 : l.length ≤ 64) (hf : ∀ x ∈ l, 0 ≤ x.1 ∧ x.1 ≤ 255 ∧ 0 ≤ x.2.1 ∧ x.2.1 ≤ 1000) (b off c : Nat) (w : World)
    (hc : ∀ j u, (insC l)[j]? = some u → w.cell? ((⟨b, off, none⟩ : Addr).add j) = some u) :
    Calls Try.prog 60 #[.int .i64 p, .slice (some ⟨b, off, none⟩) l.length c] w (BlockPost p l w) :=
  block_of (Lib.hid fun o w h0 h1 => jumps_any o h0 h1 w) p p0 p1 l hl hl2 hf b off c w hc

end Go.Proofs.Ytcjkpeojjonpiaa
