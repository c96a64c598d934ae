
/-
  The contracts of code.of, what an operation has: a table of rows.
-/
import Derived.Test.YtmmfadakhnagpaaVal2
import Derived.Laws.Rows
import Derived.Laws.Tables
import Derived.Deep.WholeRow
import Derived.Laws.ResultCell
namespace Go.Proofs.Ytmmfadakhnagpaa
open Go.RowKit
set_option linter.unusedSimpArgs false

def forms : List (List UInt8 × Bool × Bool × Int × Int) := [
  ([110, 111, 112], false, false, 0, 0),
  ([112, 117, 115, 104], false, true, 0, 1),
  ([108, 111, 99, 97, 108], true, false, 0, 1),
  ([115, 101, 116], true, false, 1, 0),
  ([103, 101, 116], true, false, 0, 1),
  ([112, 117, 116], true, false, 1, 0),
  ([103, 101, 116, 97, 116], true, false, 1, 1),
  ([112, 117, 116, 97, 116], true, false, 2, 0),
  ([97, 100, 100], false, false, 2, 1),
  ([115, 117, 98], false, false, 2, 1),
  ([109, 117, 108], false, false, 2, 1),
  ([100, 105, 118], false, false, 2, 1),
  ([110, 101, 103], false, false, 1, 1),
  ([108, 101, 115, 115], false, false, 2, 1),
  ([115, 97, 109, 101], false, false, 2, 1),
  ([110, 111, 116], false, false, 1, 1),
  ([100, 117, 112], false, false, 1, 2),
  ([112, 111, 112], false, false, 1, 0),
  ([115, 119, 97, 112], false, false, 2, 2),
  ([106, 117, 109, 112], true, false, 0, 0),
  ([122, 101, 114, 111], true, false, 1, 0),
  ([97, 116, 111, 109, 105, 99], true, false, 0, 0),
  ([101, 110, 100], false, false, 0, 0),
  ([111, 114, 101, 108, 115, 101], true, false, 0, 0),
  ([101, 108, 115, 101], true, false, 0, 0),
  ([101, 110, 100, 111, 114], false, false, 0, 0),
  ([114, 101, 116, 114, 121], false, false, 0, 0),
  ([111, 117, 116], false, false, 1, 0),
  ([104, 97, 108, 116], false, false, 0, 0)]
def formAt (o : Nat) : List UInt8 × Bool × Bool × Int × Int := forms.getD o ([], false, false, 0, 0)
def formL (f : List UInt8 × Bool × Bool × Int × Int) : List Value := [.string ⟨f.1.toArray⟩, .bool f.2.1, .bool f.2.2.1, .int .i64 f.2.2.2.1, .int .i64 f.2.2.2.2]
def formV (f : List UInt8 × Bool × Bool × Int × Int) : Value := .agg #[.string ⟨f.1.toArray⟩, .bool f.2.1, .bool f.2.2.1, .int .i64 f.2.2.2.1, .int .i64 f.2.2.2.2]
def formCells : Array Value := (forms.flatMap formL).toArray

theorem wpList_build_to {P : Program} {ops : Array Oper} {rest : List Oper} {o : Oper} {a : Act} {w : World} {Q : Exit → Act → World → Prop} (hg : o.guard = none) (t : TypeId) (parts : Array (Nat × Operand)) (ho : o.op = .build t parts)
    (c : Array Value) (hf : P.built t (parts.map fun (i, x) => (i, a.eval x)).toList = some c) (h : wpList P ops Q rest (a.put o.dst (.agg c)) w) : wpList P ops Q (o :: rest) a w := by
  refine wpList_build hg t parts ho (by rw [hf]; rfl) ?_
  rw [hf]
  exact h
theorem wpList_store_new {P : Program} {ops : Array Oper} {rest : List Oper} {o : Oper} {a : Act} {w : World} {Q : Exit → Act → World → Prop} (hgd : o.guard = none) (ty : TypeId) (x y : Operand) (ho : o.op = .store ty x y)
    (g : Nat) (cells old : Array Value) (hx : a.eval x = .pointer (some ⟨g, 0, none⟩)) (hy : a.eval y = .agg cells) (hg : g = w.heap.size)
    (hi : (P.info? ty).map (·.size) = some cells.size) (hold : old.size = cells.size) (h1 : cells.all (·.oneCell') = true)
    (h : wpList P ops Q rest (a.put o.dst undef) (w.alloc (.cells cells ty))) : wpList P ops Q (o :: rest) a (w.alloc (.cells old ty)) := by
  subst hg
  refine wpList_store_row hgd ty x y ho _ cells hx hy ty old (heap_alloc_last w _) hi hold h1 ?_
  rw [World.setRow_alloc_new]
  exact h
theorem flat5 : ∀ (l : List (List UInt8 × Bool × Bool × Int × Int)) (o j : Nat), o < l.length → j < 5 → (l.flatMap formL)[o * 5 + j]? = (formL (l.getD o ([], false, false, 0, 0)))[j]? := by
  intro l
  induction l with
  | nil => intro o j h; simp at h
  | cons f l ih =>
    intro o j h hj
    rw [List.flatMap_cons]
    have e : (formL f).length = 5 := rfl
    cases o with
    | zero =>
      rw [List.getElem?_append_left (by rw [e]; omega)]
      simp
    | succ o =>
      rw [List.getElem?_append_right (by rw [e]; omega), e]
      have : (o + 1) * 5 + j - 5 = o * 5 + j := by omega
      rw [this, ih o j (by simpa using h) hj]
      rfl
theorem form_cell (o j : Nat) (h : o < 29) (hj : j < 5) : formCells[o * 5 + j]? = (formL (formAt o))[j]? := by
  unfold formCells formAt
  rw [List.getElem?_toArray]
  exact flat5 forms o j h hj
set_option maxRecDepth 100000 in
set_option maxHeartbeats 4000000 in
theorem codeOf_any (o : Int) (h0 : 0 ≤ o) (h : o < 29) (w : World) : Calls Try.prog 115 #[.int .u8 o] w fun e w' => e = .returned (formV (formAt o.toNat)) ∧ Below w.heap.size w w' := by
  have h1 : decide (29 ≤ o) = false := decide_eq_false (by omega)
  have hst : (storeCells ⟨w.heap.size + 1, 0, none⟩ formCells.toList).run Try.prog ((w.alloc (.cells #[.string ⟨#[]⟩, .bool false, .bool false, .int .i64 0, .int .i64 0] 152)).alloc (.cells Try.zeroCells156 156)) = .ok () ((w.alloc (.cells #[.string ⟨#[]⟩, .bool false, .bool false, .int .i64 0, .int .i64 0] 152)).alloc (.cells formCells 156)) := by
    have := run_storeCells_new (P := Try.prog) (w.alloc (.cells #[.string ⟨#[]⟩, .bool false, .bool false, .int .i64 0, .int .i64 0] 152)) 156 Try.zeroCells156 formCells (by kernel_rfl) (by kernel_rfl) (by kernel_rfl)
    have e : (w.alloc (.cells #[.string ⟨#[]⟩, .bool false, .bool false, .int .i64 0, .int .i64 0] 152)).heap.size = w.heap.size + 1 := by simp
    rw [e] at this
    exact this
  have hcell : ∀ j, j < 5 → formCells[o.toNat * 5 + j]? = (formL (formAt o.toNat))[j]? := fun j hj => form_cell o.toNat j (by omega) hj
  have c0 := hcell 0 (by omega)
  have c1 := hcell 1 (by omega)
  have c2 := hcell 2 (by omega)
  have c3 := hcell 3 (by omega)
  have c4 := hcell 4 (by omega)
  rw [Nat.add_zero] at c0
  change _ = some (Value.string (ByteArray.mk (formAt o.toNat).1.toArray)) at c0
  change _ = some (Value.bool (formAt o.toNat).2.1) at c1
  change _ = some (Value.bool (formAt o.toNat).2.2.1) at c2
  change _ = some (Value.int .i64 (formAt o.toNat).2.2.2.1) at c3
  change _ = some (Value.int .i64 (formAt o.toNat).2.2.2.2) at c4
  clear hcell
  generalize hF : formAt o.toNat = F at *
  have HF := Lib.hid hF
  clear hF
  go_enter Try.func115, Try.ntmps115
  go_wp2_with (refine wpList_build_to rfl 156 _ rfl formCells (by kernel_rfl) ?_)
  refine bodyPost_ret (v := formV F) ?_ rfl ?_
  · simp [results, Try.results115, go_sem, formV]
  · exact ⟨rfl, ((Below.refl _ _).alloc (Nat.le_refl _) _).alloc (by simp) _⟩
set_option maxRecDepth 100000 in
set_option maxHeartbeats 4000000 in
theorem codeOf_big (o : Int) (h : 29 ≤ o) (h2 : o ≤ 255) (w : World) : Calls Try.prog 115 #[.int .u8 o] w fun e w' => e = .returned (formV (formAt o.toNat)) ∧ Below w.heap.size w w' := by
  have h1 : decide (29 ≤ o) = true := decide_eq_true h
  have hst : (storeCells ⟨w.heap.size + 1, 0, none⟩ formCells.toList).run Try.prog ((w.alloc (.cells #[.string ⟨#[]⟩, .bool false, .bool false, .int .i64 0, .int .i64 0] 152)).alloc (.cells Try.zeroCells156 156)) = .ok () ((w.alloc (.cells #[.string ⟨#[]⟩, .bool false, .bool false, .int .i64 0, .int .i64 0] 152)).alloc (.cells formCells 156)) := by
    have := run_storeCells_new (P := Try.prog) (w.alloc (.cells #[.string ⟨#[]⟩, .bool false, .bool false, .int .i64 0, .int .i64 0] 152)) 156 Try.zeroCells156 formCells (by kernel_rfl) (by kernel_rfl) (by kernel_rfl)
    have e : (w.alloc (.cells #[.string ⟨#[]⟩, .bool false, .bool false, .int .i64 0, .int .i64 0] 152)).heap.size = w.heap.size + 1 := by simp
    rw [e] at this
    exact this
  have HF := Lib.hid (show formAt o.toNat = ([], false, false, 0, 0) by
    unfold formAt
    rw [List.getD_eq_getElem?_getD, List.getElem?_eq_none (by show 29 ≤ o.toNat; omega)]
    rfl)
  go_enter Try.func115, Try.ntmps115
  go_wp2_with (refine wpList_build_to rfl 156 _ rfl formCells (by kernel_rfl) ?_)
  refine bodyPost_ret (v := formV ([], false, false, 0, 0)) ?_ rfl ?_
  · simp [results, Try.results115, go_sem, formV]
  · exact ⟨by rw [HF.out], ((Below.refl _ _).alloc (Nat.le_refl _) _).alloc (by simp) _⟩
theorem code_of (o : Int) (h : 0 ≤ o) (h2 : o ≤ 255) (w : World) : Calls Try.prog 115 #[.int .u8 o] w fun e w' => e = .returned (formV (formAt o.toNat)) ∧ Below w.heap.size w w' := by
  by_cases h1 : o < 29
  · exact codeOf_any o h h1 w
  · exact codeOf_big o (by omega) h2 w

end Go.Proofs.Ytmmfadakhnagpaa
