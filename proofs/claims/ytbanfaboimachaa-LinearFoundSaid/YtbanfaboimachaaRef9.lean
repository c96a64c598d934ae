
/-
  The reference's object: each call is answered as the thing's own.
-/
import Derived.Test.YtbanfaboimachaaObj5
import Derived.Test.YtbanfaboimachaaObj2
import Derived.Test.YtbanfaboimachaaObj3
import Derived.Test.YtbanfaboimachaaObj4
import Derived.Maps.AppendAt
import Derived.Test.YtbanfaboimachaaRef2
import Derived.Test.YtbanfaboimachaaRef5
namespace Go.Proofs.Ytbanfaboimachaa
open Go.RowKit
set_option linter.unusedSimpArgs false
set_option linter.unusedVariables false
variable {ok : Nat → Prop}

variable {r : Nat} {size : Int}
theorem rDo1_any (o : Int) (c who v : Int) (hv : W64 v) (w : World) (H : RIn ok w r 1 0 o 0 0 []) :
    Calls Try.prog 37 #[.pointer (some ⟨r, 0, none⟩), callV c who v] w fun e w' => e = .returned (ansV (muDo c who v o).1) ∧ RIn ok w' r 1 0 (muDo c who v o).2 0 0 [] ∧ w.grownBy w' (some r) := by
  unfold muDo badB
  cases h1 : muTk c
  · exact rBad1_1 c who v w H (.inl h1)
  · cases h2 : decide (who < 0)
    · cases h3 : decide (4 ≤ who)
      · cases h4 : fitsB c v
        · exact rBad2_1 c who v hv w H h1 h2 h3 h4
        · have hc : c = 1 ∨ c = 2 := by unfold muTk at h1; simpa using h1
          rcases hc with rfl | rfl
          · cases p : decide (0 ≤ o)
            · have E : muStep 1 who v o = (aOne, who) := by simp [muStep, p]
              show Calls _ _ _ _ (fun e w' => e = .returned (ansV (muStep 1 who v o).1) ∧ RIn ok w' r 1 0 (muStep 1 who v o).2 0 0 [] ∧ _)
              rw [E]
              exact rDo_1_lock1 who v hv w H h2 h3 h4 p
            · have E : muStep 1 who v o = (aBlocks, o) := by simp [muStep, p]
              show Calls _ _ _ _ (fun e w' => e = .returned (ansV (muStep 1 who v o).1) ∧ RIn ok w' r 1 0 (muStep 1 who v o).2 0 0 [] ∧ _)
              rw [E]
              exact rDo_1_lock0 who v hv w H h2 h3 h4 p
          · cases p : (o == who)
            · have E : muStep 2 who v o = (aErr 0, o) := by simp [muStep, p]
              show Calls _ _ _ _ (fun e w' => e = .returned (ansV (muStep 2 who v o).1) ∧ RIn ok w' r 1 0 (muStep 2 who v o).2 0 0 [] ∧ _)
              rw [E]
              exact rDo_1_unlock0 who v hv w H h2 h3 h4 p
            · have E : muStep 2 who v o = (aOne, -1) := by simp [muStep, p]
              show Calls _ _ _ _ (fun e w' => e = .returned (ansV (muStep 2 who v o).1) ∧ RIn ok w' r 1 0 (muStep 2 who v o).2 0 0 [] ∧ _)
              rw [E]
              exact rDo_1_unlock1 who v hv w H h2 h3 h4 p
      · exact rBad1_1 c who v w H (.inr (.inr ⟨h1, h2, h3⟩))
    · exact rBad1_1 c who v w H (.inr (.inl ⟨h1, h2⟩))
theorem rDo2_any (n : Int) (c who v : Int) (hv : W64 v) (w : World) (H : RIn ok w r 2 size (-1) n 0 []) (hn : 0 ≤ n ∧ n ≤ 99) :
    Calls Try.prog 37 #[.pointer (some ⟨r, 0, none⟩), callV c who v] w fun e w' => e = .returned (ansV (seDo c who v n).1) ∧ RIn ok w' r 2 size (-1) (seDo c who v n).2 0 [] ∧ w.grownBy w' (some r) := by
  unfold seDo badB
  cases h1 : seTk c
  · exact rBad1_2 c who v w H (.inl h1)
  · cases h2 : decide (who < 0)
    · cases h3 : decide (4 ≤ who)
      · cases h4 : fitsB c v
        · exact rBad2_2 c who v hv w H h1 h2 h3 h4
        · have hc : c = 3 ∨ c = 4 := by unfold seTk at h1; simpa using h1
          rcases hc with rfl | rfl
          · cases p : (n == 0)
            · have E : seStep 3 who v n = (aOne, n - 1) := by simp [seStep, p]
              show Calls _ _ _ _ (fun e w' => e = .returned (ansV (seStep 3 who v n).1) ∧ RIn ok w' r 2 size (-1) (seStep 3 who v n).2 0 [] ∧ _)
              rw [E]
              exact rDo_2_down1 who v hv w H h2 h3 h4 hn p
            · have E : seStep 3 who v n = (aBlocks, n) := by simp [seStep, p]
              show Calls _ _ _ _ (fun e w' => e = .returned (ansV (seStep 3 who v n).1) ∧ RIn ok w' r 2 size (-1) (seStep 3 who v n).2 0 [] ∧ _)
              rw [E]
              exact rDo_2_down0 who v hv w H h2 h3 h4 hn p
          · cases p : decide (99 ≤ n)
            · have E : seStep 4 who v n = (aOne, n + 1) := by simp [seStep, p]
              show Calls _ _ _ _ (fun e w' => e = .returned (ansV (seStep 4 who v n).1) ∧ RIn ok w' r 2 size (-1) (seStep 4 who v n).2 0 [] ∧ _)
              rw [E]
              exact rDo_2_up1 who v hv w H h2 h3 h4 hn p
            · have E : seStep 4 who v n = (aErr 4, n) := by simp [seStep, p]
              show Calls _ _ _ _ (fun e w' => e = .returned (ansV (seStep 4 who v n).1) ∧ RIn ok w' r 2 size (-1) (seStep 4 who v n).2 0 [] ∧ _)
              rw [E]
              exact rDo_2_up0 who v hv w H h2 h3 h4 hn p
      · exact rBad1_2 c who v w H (.inr (.inr ⟨h1, h2, h3⟩))
    · exact rBad1_2 c who v w H (.inr (.inl ⟨h1, h2⟩))
theorem rDo4_any (n gen : Int) (c who v : Int) (hv : W64 v) (w : World) (H : RIn ok w r 4 size (-1) n gen []) :
    Calls Try.prog 37 #[.pointer (some ⟨r, 0, none⟩), callV c who v] w fun e w' => e = .returned (ansV (baDo c who v (size, n, gen)).1) ∧ RIn ok w' r 4 size (-1) (baDo c who v (size, n, gen)).2.2.1 (baDo c who v (size, n, gen)).2.2.2 [] ∧ w.grownBy w' (some r) := by
  unfold baDo badB
  cases h1 : baTk c
  · exact rBad1_4 c who v w H (.inl h1)
  · cases h2 : decide (who < 0)
    · cases h3 : decide (4 ≤ who)
      · cases h4 : fitsB c v
        · exact rBad2_4 c who v hv w H h1 h2 h3 h4
        · have hc : c = 7 ∨ c = 8 := by unfold baTk at h1; simpa using h1
          rcases hc with rfl | rfl
          · cases p : (wrap64 (n + 1) == size)
            · have E : baStep 7 who v (size, n, gen) = ((intV gen, false, 0), (size, wrap64 (n + 1), gen)) := by simp [baStep, p]
              show Calls _ _ _ _ (fun e w' => e = .returned (ansV (baStep 7 who v (size, n, gen)).1) ∧ RIn ok w' r 4 size (-1) (baStep 7 who v (size, n, gen)).2.2.1 (baStep 7 who v (size, n, gen)).2.2.2 [] ∧ _)
              rw [E]
              exact rDo_4_arrive0 who v hv w H h2 h3 h4 p
            · have E : baStep 7 who v (size, n, gen) = ((intV gen, false, 0), (size, 0, wrap64 (gen + 1))) := by simp [baStep, p]
              show Calls _ _ _ _ (fun e w' => e = .returned (ansV (baStep 7 who v (size, n, gen)).1) ∧ RIn ok w' r 4 size (-1) (baStep 7 who v (size, n, gen)).2.2.1 (baStep 7 who v (size, n, gen)).2.2.2 [] ∧ _)
              rw [E]
              exact rDo_4_arrive1 who v hv w H h2 h3 h4 p
          · cases p : lessB v (intV gen)
            · have E : baStep 8 who v (size, n, gen) = (aBlocks, (size, n, gen)) := by simp [baStep, p]
              show Calls _ _ _ _ (fun e w' => e = .returned (ansV (baStep 8 who v (size, n, gen)).1) ∧ RIn ok w' r 4 size (-1) (baStep 8 who v (size, n, gen)).2.2.1 (baStep 8 who v (size, n, gen)).2.2.2 [] ∧ _)
              rw [E]
              exact rDo_4_leave0 who v hv w H h2 h3 h4 p
            · have E : baStep 8 who v (size, n, gen) = (aOne, (size, n, gen)) := by simp [baStep, p]
              show Calls _ _ _ _ (fun e w' => e = .returned (ansV (baStep 8 who v (size, n, gen)).1) ∧ RIn ok w' r 4 size (-1) (baStep 8 who v (size, n, gen)).2.2.1 (baStep 8 who v (size, n, gen)).2.2.2 [] ∧ _)
              rw [E]
              exact rDo_4_leave1 who v hv w H h2 h3 h4 p
      · exact rBad1_4 c who v w H (.inr (.inr ⟨h1, h2, h3⟩))
    · exact rBad1_4 c who v w H (.inr (.inl ⟨h1, h2⟩))

end Go.Proofs.Ytbanfaboimachaa
