
/-
  SpecLeft, plainly.
-/
import Derived.Test.YtlgpjcdlomhlcaaSp20
namespace Go.Proofs.Ytlgpjcdlomhlcaa
open Go.RowKit Go.ChangeShapes Go.WideShapes
set_option linter.unusedSimpArgs false
set_option linter.unusedVariables false

def okE {α : Type} : Except Int α → Bool
  | .ok _ => true
  | .error _ => false
def stepD (l : List Ins3) (b : Bs) : Bs := match stepB l.length (xn l b.s.pc.toNat) b with
  | .ok b' => b'
  | .error _ => b
def itD (l : List Ins3) : Nat → Bs → Bs
  | 0, b => b
  | n + 1, b => stepD l (itD l n b)
def goesB (l : List Ins3) (b : Bs) : Prop := b.kind = 0 ∧ hereB l b.s.pc = true ∧ okE (stepB l.length (xn l b.s.pc.toNat) b) = true
theorem loopB_it (l : List Ins3) (b : Bs) : ∀ (n k : Nat), (∀ i, i < n → goesB l (itD l i b)) → loopB l (k + n) b = loopB l k (itD l n b) := by
  intro n
  induction n with
  | zero => intro k _; rfl
  | succ n ih =>
    intro k h
    rw [show k + (n + 1) = (k + 1) + n by omega, ih (k + 1) (fun i hi => h i (by omega))]
    obtain ⟨h0, h1, h2⟩ := h n (by omega)
    rw [loopB, if_pos h0, if_pos h1]
    show _ = loopB l k (stepD l (itD l n b))
    unfold stepD
    cases hs : stepB l.length (xn l (itD l n b).s.pc.toNat) (itD l n b) with
    | error e => rw [hs] at h2; cases h2
    | ok b' => rfl
theorem loopB_end (l : List Ins3) (k : Nat) (b : Bs) (h : b.kind ≠ 0) : loopB l k b = .ok b := by cases k <;> (unfold loopB; rw [if_neg h])
/-- A block of so many steps. -/
theorem blockF_it {l : List Ins3} {s : St} {hp : List Int} {n : Nat} (k : Nat) {b : Bs} (h1 : hereB l s.pc = true) (h2 : (xn l s.pc.toNat).op = 21) (h3 : ∀ i, i < n → goesB l (itD l i ⟨{ s with pc := s.pc + 1 }, hp, [], [], 0⟩)) (h4 : itD l n ⟨{ s with pc := s.pc + 1 }, hp, [], [], 0⟩ = b) (h5 : b.kind ≠ 0) : blockF l s hp (k + n) = .ok b := by
  unfold blockF
  rw [if_pos h1, if_pos h2, loopB_it l _ n k h3, h4, loopB_end l k b h5]
/-- A program of one block. -/
theorem runF_one {l : List Ins3} {f : Nat} {s : St} {hp : List Int} {arms : List Bool} {o1 o2 : Oc} {b : Bs} (k : Nat) (h1 : goF l f s = o1) (k1 : o1.kind = 4) (h2 : blockF l o1.s hp f = .ok b) (kb : b.kind = 1) (h3 : goF l f b.s = o2) (k2 : o2.kind ≠ 4) : runF l f (k + 1) s hp arms = ⟨o2.kind, o2.s, b.hp, arms ++ b.arms, o2.err⟩ := by
  have hoc : ocF o1.s hp (.ok b) = ⟨1, b.s, b.hp, b.arms, 0⟩ := by
    unfold ocF
    dsimp only
    rw [if_neg (by rw [kb]; decide)]
  rw [runF, h1, if_pos k1, h2, hoc, if_pos rfl]
  cases k <;> (rw [runF, h3, if_neg k2])
def leftL (t u v w : Int) (loc : Bool) : List Ins3 := [⟨21, 9, 0⟩, ⟨23, 5, 0⟩, ⟨1, 0, v⟩, ⟨bif loc then 3 else 5, t, 0⟩, ⟨26, 0, 0⟩, ⟨24, 8, 0⟩, ⟨1, 0, w⟩, ⟨5, u, 0⟩, ⟨25, 0, 0⟩, ⟨22, 0, 0⟩, ⟨28, 0, 0⟩]
def rightL (u w : Int) : List Ins3 := [⟨21, 3, 0⟩, ⟨1, 0, w⟩, ⟨5, u, 0⟩, ⟨22, 0, 0⟩, ⟨28, 0, 0⟩]
def heap4 : List Int := [0, 4607182418800017408, 9221120237041090560, 9223372036854775808]
theorem left_run (t u v w : Int) (loc : Bool) (ht : t = 0 ∨ t = 1 ∨ t = 2 ∨ t = 3) (hu : u = 0 ∨ u = 1 ∨ u = 2 ∨ u = 3) (hv : rightB v = true) (hw : rightB w = true) : runF (leftL t u v w loc) 100 20 ⟨0, [], 0, 0, 0, 0, []⟩ heap4 [] = ⟨1, ⟨10, [], 0, 0, 0, 0, []⟩, heap4.set u.toNat w, [false], 0⟩ := by
  refine runF_one (l := leftL t u v w loc) (f := 100) (s := ⟨0, [], 0, 0, 0, 0, []⟩) (hp := heap4) (arms := []) (b := ⟨⟨10, [], 0, 0, 0, 0, []⟩, heap4.set u.toNat w, [], [false], 1⟩) (o1 := ⟨4, ⟨0, [], 0, 0, 0, 0, []⟩, [], [], 0⟩) (o2 := ⟨1, ⟨10, [], 0, 0, 0, 0, []⟩, [], [], 0⟩) 19 (by kernel_rfl) rfl ?_ rfl (by kernel_rfl) (show (1 : Int) ≠ 4 by decide)
  rcases ht with rfl | rfl | rfl | rfl <;> rcases hu with rfl | rfl | rfl | rfl <;> cases loc
  all_goals
    refine blockF_it (n := 8) 92 (by kernel_rfl) (by kernel_rfl) (fun i hi => ?_) (by kernel_rfl) (show (1 : Int) ≠ 0 by decide)
    match i, hi with
    | 0, _ => exact ⟨by kernel_rfl, by kernel_rfl, by kernel_rfl⟩
    | 1, _ => exact ⟨by kernel_rfl, (by kernel_rfl : _ = rightB v).trans hv, by kernel_rfl⟩
    | 2, _ => exact ⟨by kernel_rfl, by kernel_rfl, by kernel_rfl⟩
    | 3, _ => exact ⟨by kernel_rfl, by kernel_rfl, by kernel_rfl⟩
    | 4, _ => exact ⟨by kernel_rfl, (by kernel_rfl : _ = rightB w).trans hw, by kernel_rfl⟩
    | 5, _ => exact ⟨by kernel_rfl, by kernel_rfl, by kernel_rfl⟩
    | 6, _ => exact ⟨by kernel_rfl, by kernel_rfl, by kernel_rfl⟩
    | 7, _ => exact ⟨by kernel_rfl, by kernel_rfl, by kernel_rfl⟩
theorem right_run (u w : Int) (hu : u = 0 ∨ u = 1 ∨ u = 2 ∨ u = 3) (hw : rightB w = true) : runF (rightL u w) 100 20 ⟨0, [], 0, 0, 0, 0, []⟩ heap4 [] = ⟨1, ⟨4, [], 0, 0, 0, 0, []⟩, heap4.set u.toNat w, [], 0⟩ := by
  refine runF_one (l := rightL u w) (f := 100) (s := ⟨0, [], 0, 0, 0, 0, []⟩) (hp := heap4) (arms := []) (b := ⟨⟨4, [], 0, 0, 0, 0, []⟩, heap4.set u.toNat w, [], [], 1⟩) (o1 := ⟨4, ⟨0, [], 0, 0, 0, 0, []⟩, [], [], 0⟩) (o2 := ⟨1, ⟨4, [], 0, 0, 0, 0, []⟩, [], [], 0⟩) 19 (by kernel_rfl) rfl ?_ rfl (by kernel_rfl) (show (1 : Int) ≠ 4 by decide)
  rcases hu with rfl | rfl | rfl | rfl
  all_goals
    refine blockF_it (n := 3) 97 (by kernel_rfl) (by kernel_rfl) (fun i hi => ?_) (by kernel_rfl) (show (1 : Int) ≠ 0 by decide)
    match i, hi with
    | 0, _ => exact ⟨by kernel_rfl, (by kernel_rfl : _ = rightB w).trans hw, by kernel_rfl⟩
    | 1, _ => exact ⟨by kernel_rfl, by kernel_rfl, by kernel_rfl⟩
    | 2, _ => exact ⟨by kernel_rfl, by kernel_rfl, by kernel_rfl⟩
end Go.Proofs.Ytlgpjcdlomhlcaa
