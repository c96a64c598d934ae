
/-
  append to a row of the law's own, as one step of a region that draws its order.
-/
import Derived.Test.YtmmfadakhnagpaaFlow1
import Derived.Deep.RegionLaw
namespace Go.Proofs.Ytmmfadakhnagpaa
open Go.RowKit
set_option linter.unusedSimpArgs false
set_option linter.unusedVariables false
variable {ok : Nat → Prop}

theorem step_append_vals {ops : Array Oper} {o : Oper} {a : Act} {w : World} {K : Act → World → Prop} {Q : Exit → Act → World → Prop} {E : Prop} (hg : o.guard = none) (s x : Operand)
    (ho : o.op = .call { callee := .builtin .append, args := #[s, x], argTypes := #[36, 36] })
    (base : Nat) (A0 : Option Addr) (c0 : Nat) (xs : List Int) (hs : a.eval s = .slice A0 xs.length c0) (hr : RowAt w base A0 c0 xs) (A : Option Addr) (c : Nat) (src : List Int) (hx : a.eval x = .slice A src.length c) (hA : A = none → c = 0)
    (hv : ValsAt ok w A src) (hlen : xs.length + src.length ≤ 1000) (hbase : base ≤ w.heap.size) (l' : List Int) (hl : xs ++ src = l')
    (h : ∀ A' c' w', RowAt w' base A' c' l' → w.grownBy w' (blk A0) → K (a.put o.dst (.slice A' l'.length c')) w') :
    if Region.wanted o (yielded ops a.tmps) = true then Oper.wp Try.prog o a w K Q else E := by
  have hw : Region.wanted o (yielded ops a.tmps) = true := by simp [Region.wanted, hg]
  rw [if_pos hw]
  subst hl
  obtain ⟨i0, hi, hz0, hz1, hz2⟩ := info_parts Val_info
  cases A with
  | none =>
    obtain rfl := vals_none hv
    obtain rfl := hA rfl
    have hrun := run_append_owned_none (P := Try.prog) (w := w) base 36 o.type 53 i0 1 Try.underlying36 hi _ xs.length (valsC xs) hr.1
    have hx' : a.eval x = .slice none 0 0 := hx
    unfold Oper.wp
    simp [execOp, ho, resolve, invoke, builtin, hs, hx', hrun, Result.andThen]
    have := h A0 c0 w (by rw [List.append_nil]; exact hr) (gb_refl _ _)
    rw [List.append_nil] at this
    exact this
  | some b =>
    obtain ⟨v', w', hrun, h1, h2, _⟩ := run_append_own_at (P := Try.prog) w base 36 o.type 53 i0 (.int .u64 0) 1 8 Try.underlying36 hi hz0 hz1 hz2 rfl (by decide) _ xs.length (valsC xs) hr.1 b src.length c (valsC src) (by rw [valsC_len, Nat.mul_one]) (vals_cell hv) (valsC_one src) (by unfold maxLen; omega) (by omega) hbase
    unfold Oper.wp
    simp [execOp, ho, resolve, invoke, builtin, hs, hx, hrun, Result.andThen]
    obtain ⟨A', c', rfl, hrow⟩ := row_of (l := xs ++ src) (by rw [List.length_append, valsC_append]; exact h1) (fun x hx => by rcases List.mem_append.mp hx with hx | hx; exact hr.2 x hx; exact hv.1 x hx)
    rw [blk_own] at h2
    exact h A' c' w' hrow h2
end Go.Proofs.Ytmmfadakhnagpaa
