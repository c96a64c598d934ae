
/-
  spec: plain: what an instruction does that needs no variables.
-/
import Derived.Test.YtcjkpeojjonpiaaSp2
import Derived.Deep.RegionWith
namespace Go.Proofs.Ytcjkpeojjonpiaa
open Go.RowKit Go.ChangeShapes Go.WideShapes
set_option linter.unusedSimpArgs false
set_option linter.unusedVariables false

def topI (l : List Int) : Int := l.getLast?.getD 0
theorem topI_snoc (l : List Int) (a : Int) : topI (l ++ [a]) = a := by simp [topI]
def locAt (s : St) (i : Int) : Int := if i = 0 then s.la else if i = 1 then s.lb else if i = 2 then s.lc else s.ld
def locSet (s : St) (i v : Int) : St := if i = 0 then { s with la := v } else if i = 1 then { s with lb := v } else if i = 2 then { s with lc := v } else { s with ld := v }
def jumpF (n : Nat) (tg : Int) (s : St) : Except Int St := if tg ≤ n then .ok { s with pc := tg } else .error 2
def op2V (o a b : Int) : Int := if o = 8 then fop .add a b else if o = 9 then fop .sub a b else if o = 10 then fop .mul a b else if o = 11 then fop .quo a b else if o = 13 then lessV a b else sameV a b
def op1V (o a : Int) : Int := if o = 12 then negV a else notV a
def effF (n : Nat) (x : Ins3) (s : St) : Except Int St :=
  if x.op = 0 then .ok s
  else if x.op = 1 then .ok { s with stk := s.stk ++ [x.val] }
  else if x.op = 2 then .ok { s with stk := s.stk ++ [locAt s x.arg] }
  else if x.op = 3 then .ok { locSet s x.arg (topI s.stk) with stk := s.stk.dropLast }
  else if x.op = 16 then .ok { s with stk := s.stk ++ [topI s.stk] }
  else if x.op = 17 then .ok { s with stk := s.stk.dropLast }
  else if x.op = 18 then .ok { s with stk := s.stk.dropLast.dropLast ++ [topI s.stk] ++ [topI s.stk.dropLast] }
  else if x.op = 27 then if s.out.length < 24 then .ok { s with stk := s.stk.dropLast, out := s.out ++ [topI s.stk] } else .error 4
  else if x.op = 19 then jumpF n x.arg s
  else if x.op = 20 then if truthB (topI s.stk) then .ok { s with stk := s.stk.dropLast } else jumpF n x.arg { s with stk := s.stk.dropLast }
  else if x.op = 12 ∨ x.op = 15 then .ok { s with stk := s.stk.dropLast ++ [op1V x.op (topI s.stk)] }
  else .ok { s with stk := s.stk.dropLast.dropLast ++ [op2V x.op (topI s.stk.dropLast) (topI s.stk)] }
def plainF (n : Nat) (x : Ins3) (s : St) : Except Int St := if specI x.op then .error 3 else if fitI x.op s.stk.length then effF n x { s with pc := s.pc + 1 } else .error 12
theorem snoc_of {l : List Int} (h : 1 ≤ l.length) : ∃ m a, l = m ++ [a] :=
  ⟨l.dropLast, l.getLast (by intro e; rw [e] at h; simp at h), by rw [List.dropLast_concat_getLast]⟩
theorem fit_pops {o : Int} {n : Nat} (h : fitI o n = true) : popsI o ≤ n := by
  unfold fitI at h
  rw [Bool.and_eq_true] at h
  exact of_decide_eq_true h.1
/-- x stands in block w.heap.size. -/
def BoxX (w : World) (b : Nat) (o ag v : Int) : Prop := w.heap[b]? = some (.cells #[.int .u8 o, .int .i64 ag, .int .u64 v] 35 (0, 0))
section
variable {F : Nat → Prop} {w : World} {g : Nat} {T : TypeId} {X : List Value} {I : Value} {s : St} {hp : List Int} {p : Pl}
end
end Go.Proofs.Ytcjkpeojjonpiaa
