
/-
  verify.behind, flow.through.
-/
import Derived.Test.YtbfjnanakmiaaaaVer3
namespace Go.Proofs.Ytbfjnanakmiaaaa
open Go.RowKit Go.ChangeShapes Go.WideShapes
set_option linter.unusedSimpArgs false
set_option linter.unusedVariables false

theorem ints_lit1 {ok : Nat → Prop} {W : World} {g : Nat} {a : Int} (hk : ok g) (ha : I64 a) (h : W.heap[g]? = some (.cells #[.int .i64 a] 3 (0, 0))) : IntsAt ok W (some ⟨g, 0, none⟩) [a] :=
  ⟨fun x hx => by rw [List.mem_singleton.mp hx]; exact ha, .inr ⟨g, 0, _, rfl, h, fun j x hj => by
    match j with
    | 0 => (simp at hj; subst hj; rfl)
    | j + 1 => simp at hj, hk⟩⟩
theorem ints_lit2 {ok : Nat → Prop} {W : World} {g : Nat} {a b : Int} (hk : ok g) (ha : I64 a) (hb : I64 b) (h : W.heap[g]? = some (.cells #[.int .i64 a, .int .i64 b] 3 (0, 0))) : IntsAt ok W (some ⟨g, 0, none⟩) [a, b] :=
  ⟨fun x hx => by
    rcases List.mem_cons.mp hx with rfl | hx
    · exact ha
    · rw [List.mem_singleton.mp hx]; exact hb, .inr ⟨g, 0, _, rfl, h, fun j x hj => by
    match j with
    | 0 => (simp at hj; subst hj; rfl)
    | 1 => (simp at hj; subst hj; rfl)
    | j + 2 => simp at hj, hk⟩⟩
theorem ints_nil {ok : Nat → Prop} (w : World) : IntsAt ok w none [] := ⟨fun x hx => (List.not_mem_nil hx).elim, .inl ⟨rfl, rfl⟩⟩
def behindF (i : Int) (op ag : Int) : List Int :=
  bif op == 19 then [ag] else bif op == 20 then [i + 1, ag] else bif op == 23 then [i + 1, ag + 1] else bif op == 24 then [ag + 1] else bif op == 26 then [] else bif op == 28 then [] else [i + 1]
def BehPost (i op ag : Int) (w : World) (e : Ending) (w' : World) : Prop := ∃ A' c', e = .returned (.slice A' (behindF i op ag).length c') ∧ IntsAt (fun k => w.heap.size ≤ k) w' A' (behindF i op ag) ∧ Below w.heap.size w w'
set_option maxHeartbeats 4000000 in
theorem behind_any (i : Nat) (hi : i ≤ 100) (op ag v : Int) (hg : 0 ≤ ag ∧ ag ≤ 255) (w : World) : Calls Try.prog 34 #[.int .i64 (i : Int), inV ⟨op, ag, v⟩] w (BehPost (i : Int) op ag w) := by
  unfold inV
  dsimp only
  have B1 : ∀ o o', Below w.heap.size w ((w.alloc o).alloc o') := fun o o' => ((Below.refl _ _).alloc (Nat.le_refl _) o).alloc (by simp) o'
  have B0 : ∀ o, Below w.heap.size w (w.alloc o) := fun o => (Below.refl _ _).alloc (Nat.le_refl _) o
  have HB1 := Lib.hid B1
  have HB0 := Lib.hid B0
  clear B1 B0
  have hc : (op == 19) = true ∨ ((op == 19) = false ∧ (op == 20) = true) ∨ ((op == 19) = false ∧ (op == 20) = false ∧ (op == 23) = true) ∨ ((op == 19) = false ∧ (op == 20) = false ∧ (op == 23) = false ∧ (op == 24) = true) ∨ ((op == 19) = false ∧ (op == 20) = false ∧ (op == 23) = false ∧ (op == 24) = false ∧ (op == 26) = true) ∨ ((op == 19) = false ∧ (op == 20) = false ∧ (op == 23) = false ∧ (op == 24) = false ∧ (op == 26) = false ∧ (op == 28) = true) ∨ ((op == 19) = false ∧ (op == 20) = false ∧ (op == 23) = false ∧ (op == 24) = false ∧ (op == 26) = false ∧ (op == 28) = false) := by
    cases op == 19 <;> cases op == 20 <;> cases op == 23 <;> cases op == 24 <;> cases op == 26 <;> cases op == 28 <;> simp
  rcases hc with h1 | ⟨h1, h2⟩ | ⟨h1, h2, h3⟩ | ⟨h1, h2, h3, h4⟩ | ⟨h1, h2, h3, h4, h5⟩ | ⟨h1, h2, h3, h4, h5, h6⟩ | ⟨h1, h2, h3, h4, h5, h6⟩
  · have HF : Hid (behindF (i : Int) op ag = [ag]) := Lib.hid (by unfold behindF; rw [h1]; rfl)
    go_enter Try.func34, Try.ntmps34
    go_wp2_with fail
    go_ret
    exact ⟨_, _, by rw [HF.out]; rfl, by rw [HF.out]; exact ints_lit1 (Nat.le_succ _) ⟨by omega, by omega⟩ ((congrArg _ (by simp)).trans (heap_alloc_new (w.alloc _) _)), HB1.out _ _⟩
  · have HF : Hid (behindF (i : Int) op ag = [(i : Int) + 1, ag]) := Lib.hid (by unfold behindF; rw [h1, h2]; rfl)
    go_enter Try.func34, Try.ntmps34
    go_wp2_with fail
    go_ret
    exact ⟨_, _, by rw [HF.out]; rfl, by rw [HF.out]; exact ints_lit2 (Nat.le_succ _) ⟨by omega, by omega⟩ ⟨by omega, by omega⟩ ((congrArg _ (by simp)).trans (heap_alloc_new (w.alloc _) _)), HB1.out _ _⟩
  · have HF : Hid (behindF (i : Int) op ag = [(i : Int) + 1, ag + 1]) := Lib.hid (by unfold behindF; rw [h1, h2, h3]; rfl)
    go_enter Try.func34, Try.ntmps34
    go_wp2_with fail
    go_ret
    exact ⟨_, _, by rw [HF.out]; rfl, by rw [HF.out]; exact ints_lit2 (Nat.le_succ _) ⟨by omega, by omega⟩ ⟨by omega, by omega⟩ ((congrArg _ (by simp)).trans (heap_alloc_new (w.alloc _) _)), HB1.out _ _⟩
  · have HF : Hid (behindF (i : Int) op ag = [ag + 1]) := Lib.hid (by unfold behindF; rw [h1, h2, h3, h4]; rfl)
    go_enter Try.func34, Try.ntmps34
    go_wp2_with fail
    go_ret
    exact ⟨_, _, by rw [HF.out]; rfl, by rw [HF.out]; exact ints_lit1 (Nat.le_succ _) ⟨by omega, by omega⟩ ((congrArg _ (by simp)).trans (heap_alloc_new (w.alloc _) _)), HB1.out _ _⟩
  · have HF : Hid (behindF (i : Int) op ag = []) := Lib.hid (by unfold behindF; rw [h1, h2, h3, h4, h5]; rfl)
    go_enter Try.func34, Try.ntmps34
    go_wp2_with fail
    go_ret
    exact ⟨none, 0, by rw [HF.out]; rfl, by rw [HF.out]; exact ints_nil _, HB0.out _⟩
  · have HF : Hid (behindF (i : Int) op ag = []) := Lib.hid (by unfold behindF; rw [h1, h2, h3, h4, h5, h6]; rfl)
    go_enter Try.func34, Try.ntmps34
    go_wp2_with fail
    go_ret
    exact ⟨none, 0, by rw [HF.out]; rfl, by rw [HF.out]; exact ints_nil _, HB0.out _⟩
  · have HF : Hid (behindF (i : Int) op ag = [(i : Int) + 1]) := Lib.hid (by unfold behindF; rw [h1, h2, h3, h4, h5, h6]; rfl)
    go_enter Try.func34, Try.ntmps34
    go_wp2_with fail
    go_ret
    exact ⟨_, _, by rw [HF.out]; rfl, by rw [HF.out]; exact ints_lit1 (Nat.le_succ _) ⟨by omega, by omega⟩ ((congrArg _ (by simp)).trans (heap_alloc_new (w.alloc _) _)), HB1.out _ _⟩
theorem behindF_len (i op ag : Int) : (behindF i op ag).length ≤ 2 := by
  unfold behindF
  cases op == 19
  · cases op == 20
    · cases op == 23
      · cases op == 24
        · cases op == 26
          · cases op == 28
            · exact Nat.le_succ 1
            · exact Nat.zero_le 2
          · exact Nat.zero_le 2
        · exact Nat.le_succ 1
      · exact Nat.le_refl 2
    · exact Nat.le_refl 2
  · exact Nat.le_succ 1
theorem ints_put {ok : Nat → Prop} {w : World} {A : Option Addr} {l : List Int} {g : Nat} (h : IntsAt ok w A l) (hk : ∀ k, ok k → k ≠ g) (j : Nat) (u : Value) : IntsAt ok (w.setCell ⟨g, j, none⟩ u) A l :=
  ints_row h (gb_set (gb_refl w (some g)) j u) (fun k h => by simpa using hk k h)
end Go.Proofs.Ytbfjnanakmiaaaa
