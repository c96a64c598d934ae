
/-
  New objects of both, in one state.
-/
import Derived.Test.YtbanfaboimachaaPlay1
import Derived.Test.YtbanfaboimachaaFlow1
import Derived.Test.YtbanfaboimachaaRef11
namespace Go.Proofs.Ytbanfaboimachaa
open Go.RowKit
set_option linter.unusedSimpArgs false
set_option linter.unusedVariables false

def stNew (k size : Int) : St := bif goodB k size then (bif k == 1 then .mu (-1) else bif k == 2 then .se size else bif k == 3 then .qu size [] else .ba (size, 0, 0)) else .nil
def NewPost (At : Nat → World → Value → St → Prop) (k size : Int) (w : World) (e : Ending) (w' : World) : Prop := ∃ x, e = .returned x ∧ At w.heap.size w' x (stNew k size) ∧ Below w.heap.size w w'
theorem good_ways (k size : Int) (h : goodB k size = true) : (k = 1 ∧ size = 0) ∨ (k = 2 ∧ 0 ≤ size ∧ size ≤ 9) ∨ (k = 3 ∧ 1 ≤ size ∧ size ≤ 4) ∨ (k = 4 ∧ 1 ≤ size ∧ size ≤ 4) := by
  unfold goodB at h
  cases h1 : (k == 1) <;> cases h2 : (k == 2) <;> cases h3 : (k == 3) <;> cases h4 : (k == 4) <;> simp [h1, h2, h3, h4] at h <;> simp at h1 h2 h3 h4 <;> omega
theorem oNewSt (k size : Int) (w : World) : Calls Try.prog 14 #[.int .u8 k, .int .i64 size] w (NewPost OAt k size w) := by
  cases h : goodB k size
  · exact (oNew0 k size h w).mono fun e w' ⟨h1, h2⟩ => ⟨_, h1, by unfold stNew; rw [h]; rfl, h2⟩
  · rcases good_ways k size h with ⟨rfl, rfl⟩ | ⟨rfl, a0, a1⟩ | ⟨rfl, a0, a1⟩ | ⟨rfl, a0, a1⟩
    · exact (newMu w).mono fun e w' ⟨p, a, h1, h2, h3, h4, h5⟩ => ⟨_, h1, ⟨p, a, rfl, h2, h5⟩, h3⟩
    · exact (newSe size a0 a1 w).mono fun e w' ⟨p, a, h1, h2, h3, h4, h5⟩ => ⟨_, h1, by unfold stNew; rw [h]; exact ⟨p, a, rfl, h2, h5⟩, h3⟩
    · exact (newQu okAll (fun _ => trivial) size a0 a1 w).mono fun e w' ⟨p, a, h1, h2, h3, h4, h5⟩ => ⟨_, h1, by unfold stNew; rw [h]; exact ⟨p, a, rfl, h2, h5⟩, h3⟩
    · exact (newBa size a0 a1 w).mono fun e w' ⟨p, a, h1, h2, h3, h4, h5⟩ => ⟨_, h1, by unfold stNew; rw [h]; exact ⟨p, a, rfl, h2, h5⟩, h3⟩
theorem rNewSt (k size : Int) (w : World) : Calls Try.prog 22 #[.int .u8 k, .int .i64 size] w (NewPost RAt k size w) := by
  cases h : goodB k size
  · exact (rNew0 k size h w).mono fun e w' ⟨h1, h2⟩ => ⟨_, h1, by unfold stNew; rw [h]; rfl, h2⟩
  · rcases good_ways k size h with ⟨rfl, rfl⟩ | ⟨rfl, a0, a1⟩ | ⟨rfl, a0, a1⟩ | ⟨rfl, a0, a1⟩
    · exact (rNew1 (ok := okAll) (fun _ => trivial) w).mono fun e w' ⟨r, h1, h2, h3, h4⟩ => ⟨_, h1, ⟨r, rfl, h2, h4⟩, h3⟩
    · exact (rNew2 (ok := okAll) (fun _ => trivial) size a0 a1 w).mono fun e w' ⟨r, h1, h2, h3, h4⟩ => ⟨_, h1, by unfold stNew; rw [h]; exact ⟨r, size, rfl, h2, h4, by omega⟩, h3⟩
    · exact (rNew3 (ok := okAll) (fun _ => trivial) size a0 a1 w).mono fun e w' ⟨r, h1, h2, h3, h4⟩ => ⟨_, h1, by unfold stNew; rw [h]; exact ⟨r, rfl, h2, h4⟩, h3⟩
    · exact (rNew4 (ok := okAll) (fun _ => trivial) size a0 a1 w).mono fun e w' ⟨r, h1, h2, h3, h4⟩ => ⟨_, h1, by unfold stNew; rw [h]; exact ⟨r, rfl, h2, h4⟩, h3⟩

variable {B : Nat} {w w1 : World} {x y : Value} {st : St}
def kindOf : St → Int
  | .nil => 0 | .mu _ => 1 | .se _ => 2 | .qu _ _ => 3 | .ba _ => 4
def takesOf (c : Int) : St → Bool
  | .nil => false | .mu _ => muTk c | .se _ => seTk c | .qu _ _ => quTk c | .ba _ => baTk c
theorem oTakes_any (c : Int) (H : OAt B w x st) : Calls Try.prog 39 #[x, .int .u8 c] w fun e w' => e = .returned (.bool (takesOf c st)) ∧ w = w' := by
  cases st with
  | nil => obtain rfl : x = .pointer none := H; exact oNilTakes c w
  | mu o => obtain ⟨p, a, rfl, h, _⟩ := H; exact muTakesO p a o c w h
  | se n => obtain ⟨p, a, rfl, h, _⟩ := H; exact seTakesO p a n c w h
  | qu size l => obtain ⟨p, a, rfl, h, _⟩ := H; exact quTakesO p a (size, l) c w h
  | ba s => obtain ⟨p, a, rfl, h, _⟩ := H; exact baTakesO p a s c w h
theorem rTakes_any (c : Int) (H : RAt B w x st) : Calls Try.prog 41 #[x, .int .u8 c] w fun e w' => e = .returned (.bool (takesOf c st)) ∧ w = w' := by
  cases st with
  | nil => obtain rfl : x = .pointer none := H; exact rNilTakes c w
  | mu o => obtain ⟨r, rfl, h, _⟩ := H; exact rTakes_1 c w h
  | se n => obtain ⟨r, size, rfl, h, _⟩ := H; exact rTakes_2 c w h
  | qu size l => obtain ⟨r, rfl, h, _⟩ := H; exact rTakes_3 c w h
  | ba s => obtain ⟨r, rfl, h, _⟩ := H; exact rTakes_4 c w h
def shOf : St → Int × Int × Int × List Int
  | .nil => (-1, 0, 0, []) | .mu o => (o, 0, 0, []) | .se n => (-1, n, 0, []) | .qu _ l => (-1, 0, 0, l) | .ba s => (-1, s.2.1, s.2.2, [])
def ShapeIs (st : St) (e : Ending) (w' : World) : Prop := ∃ A c, e = .returned (.agg #[.int .i64 (shOf st).1, .int .i64 (shOf st).2.1, .int .i64 (shOf st).2.2.1, .slice A (shOf st).2.2.2.length c]) ∧ ValsAt okAll w' A (shOf st).2.2.2
theorem vals_nil (w : World) : ValsAt okAll w none [] := ⟨fun v hv => (List.not_mem_nil hv).elim, .inl ⟨rfl, rfl⟩⟩
end Go.Proofs.Ytbanfaboimachaa
