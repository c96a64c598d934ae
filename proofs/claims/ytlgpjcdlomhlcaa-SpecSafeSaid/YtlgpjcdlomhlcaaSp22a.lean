
/-
  Lists that are laid by a literal.
-/
import Derived.Test.YtlgpjcdlomhlcaaSp9
import Derived.Test.YtlgpjcdlomhlcaaIns
namespace Go.Proofs.Ytlgpjcdlomhlcaa
open Go.RowKit Go.ChangeShapes Go.WideShapes
set_option linter.unusedSimpArgs false
set_option linter.unusedVariables false

theorem inss_made {w : World} {b : Nat} {l : List Ins3} {t : TypeId} (hb : w.heap[b]? = some (.cells (insC l).toArray t (0, 0))) (hok : ∀ x ∈ l, x.ok) (hl : l.length ≤ 1000) : InssAt w (some ⟨b, 0, none⟩) l := by
  refine ⟨by unfold maxLen; omega, fun j s hs => ⟨_, rfl, hok s (List.mem_of_getElem? hs), ?_⟩⟩
  have key : ∀ i u, (inC s)[i]? = some u → w.cell? ⟨b, j * 3 + i, none⟩ = some u := fun i u hu => by
    rw [hp_cell hb]
    have := insC_at l j s hs i u hu
    simpa using this
  have e : (Addr.add ⟨b, 0, none⟩ (j * 3)) = ⟨b, j * 3, none⟩ := by rw [add_at, Nat.zero_add]
  rw [e]
  exact ⟨key 0 _ rfl, key 1 _ rfl, key 2 _ rfl⟩
theorem src_made {w : World} {b : Nat} {l : List Int} {t : TypeId} (hb : w.heap[b]? = some (.cells (valsC l).toArray t (0, 0))) (hok : ∀ x ∈ l, W64 x) (hl : l.length ≤ 1000) : Src w (some ⟨b, 0, none⟩) l.length l :=
  ⟨⟨hok, (fun e => by cases e), fun b' e j u hu => by
    obtain rfl := Option.some.inj e
    rw [add_at, Nat.zero_add, hp_cell hb]
    simpa using hu⟩, Nat.le_refl _, (fun e => by cases e), hl⟩
instance (n : Int) : Decidable (I64 n) := by unfold I64; infer_instance
instance (n : Int) : Decidable (W64 n) := by unfold W64; infer_instance
instance (x : Ins3) : Decidable x.ok := by unfold Ins3.ok; infer_instance
theorem zero_ok : St.zero.ok := ⟨⟨by decide, by decide⟩, ⟨by decide, by decide⟩, ⟨by decide, by decide⟩, ⟨by decide, by decide⟩, by decide, by decide⟩
end Go.Proofs.Ytlgpjcdlomhlcaa
