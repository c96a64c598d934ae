
/-
  The reference's object: a queue's calls are answered as the thing's own.
-/
import Derived.Test.YtbanfaboimachaaObj5
import Derived.Test.YtbanfaboimachaaObj2
import Derived.Test.YtbanfaboimachaaObj3
import Derived.Test.YtbanfaboimachaaObj4
import Derived.Maps.AppendAt
import Derived.Test.YtbanfaboimachaaRef3
import Derived.Test.YtbanfaboimachaaRef4
import Derived.Test.YtbanfaboimachaaRef5
namespace Go.Proofs.Ytbanfaboimachaa
open Go.RowKit
set_option linter.unusedSimpArgs false
set_option linter.unusedVariables false
variable {ok : Nat → Prop}

variable {r : Nat} {size : Int}
theorem rDo3_any (l : List Int) (c who v : Int) (hv : W64 v) (w : World) (H : RIn ok w r 3 size (-1) 0 0 l) :
    Calls Try.prog 37 #[.pointer (some ⟨r, 0, none⟩), callV c who v] w fun e w' => e = .returned (ansV (quDo c who v (size, l)).1) ∧ RIn ok w' r 3 size (-1) 0 0 (quDo c who v (size, l)).2.2 ∧ w.grownBy w' (some r) := by
  unfold quDo badB
  cases h1 : quTk c
  · exact rBad1_3 c who v w H (.inl h1)
  · cases h2 : decide (who < 0)
    · cases h3 : decide (4 ≤ who)
      · cases h4 : fitsB c v
        · exact rBad2_3 c who v hv w H h1 h2 h3 h4
        · have hc : c = 5 ∨ c = 6 := by unfold quTk at h1; simpa using h1
          show Calls _ _ _ _ (fun e w' => e = .returned (ansV (quStep c who v (size, l)).1) ∧ RIn ok w' r 3 size (-1) 0 0 (quStep c who v (size, l)).2.2 ∧ _)
          rcases hc with rfl | rfl
          · cases p : decide (size ≤ (l.length : Int))
            · have E : quStep 5 who v (size, l) = (aOne, (size, l ++ [v])) := by
                have : (l.length : Int) < size := by have := of_decide_eq_false p; omega
                simp [quStep, this]
              rw [E]
              exact rDo_3_enter1 who v hv w H h2 h3 h4 p (l ++ [v]) rfl
            · have E : quStep 5 who v (size, l) = (aBlocks, (size, l)) := by
                have : ¬ (l.length : Int) < size := by have := of_decide_eq_true p; omega
                simp [quStep, this]
              rw [E]
              exact rDo_3_enter0 who v hv w H h2 h3 h4 p
          · cases l with
            | nil =>
              have E : quStep 6 who v (size, []) = (aBlocks, (size, [])) := by simp [quStep]
              rw [E]
              exact rDo_3_take0 who v hv w H h2 h3 h4
            | cons x xs =>
              have E : quStep 6 who v (size, x :: xs) = ((x, false, 0), (size, xs)) := by simp [quStep]
              rw [E]
              exact rDo_3_take1 x xs who v hv w H h2 h3 h4
      · exact rBad1_3 c who v w H (.inr (.inr ⟨h1, h2, h3⟩))
    · exact rBad1_3 c who v w H (.inr (.inl ⟨h1, h2⟩))

end Go.Proofs.Ytbanfaboimachaa
