
/-
  flows: the pieces of the texts, the four blocks.
-/
import Derived.Test.YtmmfadakhnagpaaFl3b
import Derived.Test.YtmmfadakhnagpaaFl3c
import Derived.Test.YtmmfadakhnagpaaFl3d
import Derived.Test.YtmmfadakhnagpaaFl4
namespace Go.Proofs.Ytmmfadakhnagpaa
open Go.RowKit Go.ChangeShapes Go.WideShapes Go.Maps Go.WideMaps Go.Shelf
set_option linter.unusedSimpArgs false
set_option linter.unusedVariables false

def Rg (tv sz lc vl at' : Int) : Prop := (0 ≤ tv ∧ tv ≤ 20) ∧ (0 ≤ sz ∧ sz ≤ 20) ∧ (0 ≤ lc ∧ lc ≤ 20) ∧ W64 vl ∧ (0 ≤ at' ∧ at' ≤ 100)
theorem ok_mk {a b c : Int} (h1 : 0 ≤ a ∧ a ≤ 255) (h2 : I64 b) (h3 : W64 c) : (⟨a, b, c⟩ : Ins3).ok := ⟨h1, h2, h3⟩
/-- What a piece says. -/
def Fq (tv sz lc vl at' : Int) (p : ByteArray) : Ins3 := ((([((⟨#[97, 116, 111, 109, 105, 99, 32, 50, 50]⟩ : ByteArray), ⟨21, at' + 22, 0⟩), ((⟨#[103, 101, 116, 32, 110]⟩ : ByteArray), ⟨4, tv, 0⟩), ((⟨#[112, 117, 115, 104, 32, 122]⟩ : ByteArray), ⟨1, 0, intV sz⟩), ((⟨#[115, 97, 109, 101]⟩ : ByteArray), ⟨14, 0, 0⟩), ((⟨#[122, 101, 114, 111, 32, 54]⟩ : ByteArray), ⟨20, at' + 6, 0⟩), ((⟨#[114, 101, 116, 114, 121]⟩ : ByteArray), ⟨26, 0, 0⟩), ((⟨#[112, 117, 115, 104, 32, 118]⟩ : ByteArray), ⟨1, 0, vl⟩), ((⟨#[103, 101, 116, 32, 102]⟩ : ByteArray), ⟨4, (tv + 1), 0⟩), ((⟨#[97, 100, 100]⟩ : ByteArray), ⟨8, 0, 0⟩), ((⟨#[100, 117, 112]⟩ : ByteArray), ⟨16, 0, 0⟩), ((⟨#[108, 101, 115, 115]⟩ : ByteArray), ⟨13, 0, 0⟩), ((⟨#[122, 101, 114, 111, 32, 49, 53]⟩ : ByteArray), ⟨20, at' + 15, 0⟩), ((⟨#[106, 117, 109, 112, 32, 49, 55]⟩ : ByteArray), ⟨19, at' + 17, 0⟩), ((⟨#[115, 117, 98]⟩ : ByteArray), ⟨9, 0, 0⟩), ((⟨#[112, 117, 116, 97, 116, 32, 115]⟩ : ByteArray), ⟨7, (tv + 2), 0⟩), ((⟨#[112, 117, 115, 104, 32, 49]⟩ : ByteArray), ⟨1, 0, intV 1⟩), ((⟨#[112, 117, 116, 32, 110]⟩ : ByteArray), ⟨5, tv, 0⟩), ((⟨#[101, 110, 100]⟩ : ByteArray), ⟨22, 0, 0⟩), ((⟨#[97, 116, 111, 109, 105, 99, 32, 50, 51]⟩ : ByteArray), ⟨21, at' + 23, 0⟩), ((⟨#[122, 101, 114, 111, 32, 50, 50]⟩ : ByteArray), ⟨20, at' + 22, 0⟩), ((⟨#[103, 101, 116, 97, 116, 32, 115]⟩ : ByteArray), ⟨6, (tv + 2), 0⟩), ((⟨#[122, 101, 114, 111, 32, 49, 56]⟩ : ByteArray), ⟨20, at' + 18, 0⟩), ((⟨#[112, 117, 116, 32, 102]⟩ : ByteArray), ⟨5, (tv + 1), 0⟩), ((⟨#[106, 117, 109, 112, 32, 50, 51]⟩ : ByteArray), ⟨19, at' + 23, 0⟩), ((⟨#[112, 111, 112]⟩ : ByteArray), ⟨17, 0, 0⟩), ((⟨#[112, 117, 115, 104, 32, 48]⟩ : ByteArray), ⟨1, 0, intV 0⟩), ((⟨#[97, 116, 111, 109, 105, 99, 32, 49, 56]⟩ : ByteArray), ⟨21, at' + 18, 0⟩), ((⟨#[122, 101, 114, 111, 32, 49, 55]⟩ : ByteArray), ⟨20, at' + 17, 0⟩), ((⟨#[106, 117, 109, 112, 32, 49, 56]⟩ : ByteArray), ⟨19, at' + 18, 0⟩), ((⟨#[97, 116, 111, 109, 105, 99, 32, 55]⟩ : ByteArray), ⟨21, at' + 7, 0⟩), ((⟨#[108, 111, 99, 97, 108, 32, 108]⟩ : ByteArray), ⟨2, lc, 0⟩), ((⟨#[106, 117, 109, 112, 32, 55]⟩ : ByteArray), ⟨19, at' + 7, 0⟩)] : List (ByteArray × Ins3)).find? (fun q => decide (q.1 = p))).map (·.2)).getD Ins3.zero
theorem fq_0 (tv sz lc vl at' : Int) : Fq tv sz lc vl at' (⟨#[97, 116, 111, 109, 105, 99, 32, 50, 50]⟩ : ByteArray) = ⟨21, at' + 22, 0⟩ := by kernel_rfl
theorem pi_0 (tv sz lc vl at' : Int) (h : Rg tv sz lc vl at') (w : World) : Calls Try.prog 106 #[.agg #[.int .i64 tv, .int .i64 sz, .int .i64 lc, .int .u64 vl], .int .i64 at', .string (⟨#[97, 116, 111, 109, 105, 99, 32, 50, 50]⟩ : ByteArray)] w fun e w' => e = .returned (.agg #[.int .u8 (Fq tv sz lc vl at' (⟨#[97, 116, 111, 109, 105, 99, 32, 50, 50]⟩ : ByteArray)).op, .int .i64 (Fq tv sz lc vl at' (⟨#[97, 116, 111, 109, 105, 99, 32, 50, 50]⟩ : ByteArray)).arg, .int .u64 (Fq tv sz lc vl at' (⟨#[97, 116, 111, 109, 105, 99, 32, 50, 50]⟩ : ByteArray)).val]) ∧ Below w.heap.size w w' := by
  rw [fq_0]
  exact ins_jmp21 tv sz lc vl at' (⟨#[97, 116, 111, 109, 105, 99, 32, 50, 50]⟩ : ByteArray) (by decide) (by decide) (⟨#[97, 116, 111, 109, 105, 99]⟩ : ByteArray) (⟨#[50, 50]⟩ : ByteArray) (by decide +kernel) 22 (by have := h.2.2.2.2; unfold wrap64; omega) (fun w => (readWord_any (⟨#[97, 116, 111, 109, 105, 99]⟩ : ByteArray) (by decide) 21 (by kernel_rfl) w).mono (fun e w' h => ⟨⟨_, h.1⟩, h.2⟩)) (fun w => number_22 tv sz lc vl w) w
theorem ok_0 (tv sz lc vl at' : Int) (h : Rg tv sz lc vl at') : (Fq tv sz lc vl at' (⟨#[97, 116, 111, 109, 105, 99, 32, 50, 50]⟩ : ByteArray)).ok := by
  rw [fq_0]
  obtain ⟨h1, h2, h3, h4, h5⟩ := h
  exact ok_mk (by decide) ⟨by omega, by omega⟩ (by constructor <;> decide)
theorem fq_1 (tv sz lc vl at' : Int) : Fq tv sz lc vl at' (⟨#[103, 101, 116, 32, 110]⟩ : ByteArray) = ⟨4, tv, 0⟩ := by kernel_rfl
theorem pi_1 (tv sz lc vl at' : Int) (h : Rg tv sz lc vl at') (w : World) : Calls Try.prog 106 #[.agg #[.int .i64 tv, .int .i64 sz, .int .i64 lc, .int .u64 vl], .int .i64 at', .string (⟨#[103, 101, 116, 32, 110]⟩ : ByteArray)] w fun e w' => e = .returned (.agg #[.int .u8 (Fq tv sz lc vl at' (⟨#[103, 101, 116, 32, 110]⟩ : ByteArray)).op, .int .i64 (Fq tv sz lc vl at' (⟨#[103, 101, 116, 32, 110]⟩ : ByteArray)).arg, .int .u64 (Fq tv sz lc vl at' (⟨#[103, 101, 116, 32, 110]⟩ : ByteArray)).val]) ∧ Below w.heap.size w w' := by
  rw [fq_1]
  exact ins_arg tv sz lc vl at' (⟨#[103, 101, 116, 32, 110]⟩ : ByteArray) (by decide) (by decide) (⟨#[103, 101, 116]⟩ : ByteArray) (⟨#[110]⟩ : ByteArray) (by decide +kernel) 4 tv rfl rfl rfl rfl (fun w => (readWord_any (⟨#[103, 101, 116]⟩ : ByteArray) (by decide) 4 (by kernel_rfl) w).mono (fun e w' h => ⟨⟨_, h.1⟩, h.2⟩)) (fun w => number_n tv sz lc vl h.1.1 (by have := h.1.2; omega) w) w
theorem ok_1 (tv sz lc vl at' : Int) (h : Rg tv sz lc vl at') : (Fq tv sz lc vl at' (⟨#[103, 101, 116, 32, 110]⟩ : ByteArray)).ok := by
  rw [fq_1]
  obtain ⟨h1, h2, h3, h4, h5⟩ := h
  exact ok_mk (by decide) ⟨by omega, by omega⟩ (by constructor <;> decide)
theorem fq_2 (tv sz lc vl at' : Int) : Fq tv sz lc vl at' (⟨#[112, 117, 115, 104, 32, 122]⟩ : ByteArray) = ⟨1, 0, intV sz⟩ := by kernel_rfl
theorem pi_2 (tv sz lc vl at' : Int) (h : Rg tv sz lc vl at') (w : World) : Calls Try.prog 106 #[.agg #[.int .i64 tv, .int .i64 sz, .int .i64 lc, .int .u64 vl], .int .i64 at', .string (⟨#[112, 117, 115, 104, 32, 122]⟩ : ByteArray)] w fun e w' => e = .returned (.agg #[.int .u8 (Fq tv sz lc vl at' (⟨#[112, 117, 115, 104, 32, 122]⟩ : ByteArray)).op, .int .i64 (Fq tv sz lc vl at' (⟨#[112, 117, 115, 104, 32, 122]⟩ : ByteArray)).arg, .int .u64 (Fq tv sz lc vl at' (⟨#[112, 117, 115, 104, 32, 122]⟩ : ByteArray)).val]) ∧ Below w.heap.size w w' := by
  rw [fq_2]
  exact ins_pushz tv sz lc vl at' (⟨#[112, 117, 115, 104, 32, 122]⟩ : ByteArray) (by decide) (by decide) (⟨#[112, 117, 115, 104]⟩ : ByteArray) (by decide +kernel) sz (fun w => (readWord_any (⟨#[112, 117, 115, 104]⟩ : ByteArray) (by decide) 1 (by kernel_rfl) w).mono (fun e w' h => ⟨⟨_, h.1⟩, h.2⟩)) (fun w => number_z tv sz lc vl h.1.1 (by have := h.1.2; omega) w) w
theorem ok_2 (tv sz lc vl at' : Int) (h : Rg tv sz lc vl at') : (Fq tv sz lc vl at' (⟨#[112, 117, 115, 104, 32, 122]⟩ : ByteArray)).ok := by
  rw [fq_2]
  obtain ⟨h1, h2, h3, h4, h5⟩ := h
  exact ok_mk (by decide) ⟨by omega, by omega⟩ (intV_w64 _)
theorem fq_3 (tv sz lc vl at' : Int) : Fq tv sz lc vl at' (⟨#[115, 97, 109, 101]⟩ : ByteArray) = ⟨14, 0, 0⟩ := by kernel_rfl
theorem pi_3 (tv sz lc vl at' : Int) (h : Rg tv sz lc vl at') (w : World) : Calls Try.prog 106 #[.agg #[.int .i64 tv, .int .i64 sz, .int .i64 lc, .int .u64 vl], .int .i64 at', .string (⟨#[115, 97, 109, 101]⟩ : ByteArray)] w fun e w' => e = .returned (.agg #[.int .u8 (Fq tv sz lc vl at' (⟨#[115, 97, 109, 101]⟩ : ByteArray)).op, .int .i64 (Fq tv sz lc vl at' (⟨#[115, 97, 109, 101]⟩ : ByteArray)).arg, .int .u64 (Fq tv sz lc vl at' (⟨#[115, 97, 109, 101]⟩ : ByteArray)).val]) ∧ Below w.heap.size w w' := by
  rw [fq_3]
  exact ins_one tv sz lc vl at' (⟨#[115, 97, 109, 101]⟩ : ByteArray) (by decide) (by decide) 14 (⟨#[115, 97, 109, 101]⟩ : ByteArray) (by decide +kernel) (fun w => (readWord_any (⟨#[115, 97, 109, 101]⟩ : ByteArray) (by decide) 14 (by kernel_rfl) w).mono (fun e w' h => ⟨⟨_, h.1⟩, h.2⟩)) w
theorem ok_3 (tv sz lc vl at' : Int) (h : Rg tv sz lc vl at') : (Fq tv sz lc vl at' (⟨#[115, 97, 109, 101]⟩ : ByteArray)).ok := by
  rw [fq_3]
  obtain ⟨h1, h2, h3, h4, h5⟩ := h
  exact ok_mk (by decide) ⟨by omega, by omega⟩ (by constructor <;> decide)
theorem fq_4 (tv sz lc vl at' : Int) : Fq tv sz lc vl at' (⟨#[122, 101, 114, 111, 32, 54]⟩ : ByteArray) = ⟨20, at' + 6, 0⟩ := by kernel_rfl
theorem pi_4 (tv sz lc vl at' : Int) (h : Rg tv sz lc vl at') (w : World) : Calls Try.prog 106 #[.agg #[.int .i64 tv, .int .i64 sz, .int .i64 lc, .int .u64 vl], .int .i64 at', .string (⟨#[122, 101, 114, 111, 32, 54]⟩ : ByteArray)] w fun e w' => e = .returned (.agg #[.int .u8 (Fq tv sz lc vl at' (⟨#[122, 101, 114, 111, 32, 54]⟩ : ByteArray)).op, .int .i64 (Fq tv sz lc vl at' (⟨#[122, 101, 114, 111, 32, 54]⟩ : ByteArray)).arg, .int .u64 (Fq tv sz lc vl at' (⟨#[122, 101, 114, 111, 32, 54]⟩ : ByteArray)).val]) ∧ Below w.heap.size w w' := by
  rw [fq_4]
  exact ins_jmp20 tv sz lc vl at' (⟨#[122, 101, 114, 111, 32, 54]⟩ : ByteArray) (by decide) (by decide) (⟨#[122, 101, 114, 111]⟩ : ByteArray) (⟨#[54]⟩ : ByteArray) (by decide +kernel) 6 (by have := h.2.2.2.2; unfold wrap64; omega) (fun w => (readWord_any (⟨#[122, 101, 114, 111]⟩ : ByteArray) (by decide) 20 (by kernel_rfl) w).mono (fun e w' h => ⟨⟨_, h.1⟩, h.2⟩)) (fun w => number_6 tv sz lc vl w) w
theorem ok_4 (tv sz lc vl at' : Int) (h : Rg tv sz lc vl at') : (Fq tv sz lc vl at' (⟨#[122, 101, 114, 111, 32, 54]⟩ : ByteArray)).ok := by
  rw [fq_4]
  obtain ⟨h1, h2, h3, h4, h5⟩ := h
  exact ok_mk (by decide) ⟨by omega, by omega⟩ (by constructor <;> decide)
theorem fq_5 (tv sz lc vl at' : Int) : Fq tv sz lc vl at' (⟨#[114, 101, 116, 114, 121]⟩ : ByteArray) = ⟨26, 0, 0⟩ := by kernel_rfl
theorem pi_5 (tv sz lc vl at' : Int) (h : Rg tv sz lc vl at') (w : World) : Calls Try.prog 106 #[.agg #[.int .i64 tv, .int .i64 sz, .int .i64 lc, .int .u64 vl], .int .i64 at', .string (⟨#[114, 101, 116, 114, 121]⟩ : ByteArray)] w fun e w' => e = .returned (.agg #[.int .u8 (Fq tv sz lc vl at' (⟨#[114, 101, 116, 114, 121]⟩ : ByteArray)).op, .int .i64 (Fq tv sz lc vl at' (⟨#[114, 101, 116, 114, 121]⟩ : ByteArray)).arg, .int .u64 (Fq tv sz lc vl at' (⟨#[114, 101, 116, 114, 121]⟩ : ByteArray)).val]) ∧ Below w.heap.size w w' := by
  rw [fq_5]
  exact ins_one tv sz lc vl at' (⟨#[114, 101, 116, 114, 121]⟩ : ByteArray) (by decide) (by decide) 26 (⟨#[114, 101, 116, 114, 121]⟩ : ByteArray) (by decide +kernel) (fun w => (readWord_any (⟨#[114, 101, 116, 114, 121]⟩ : ByteArray) (by decide) 26 (by kernel_rfl) w).mono (fun e w' h => ⟨⟨_, h.1⟩, h.2⟩)) w
theorem ok_5 (tv sz lc vl at' : Int) (h : Rg tv sz lc vl at') : (Fq tv sz lc vl at' (⟨#[114, 101, 116, 114, 121]⟩ : ByteArray)).ok := by
  rw [fq_5]
  obtain ⟨h1, h2, h3, h4, h5⟩ := h
  exact ok_mk (by decide) ⟨by omega, by omega⟩ (by constructor <;> decide)
theorem fq_6 (tv sz lc vl at' : Int) : Fq tv sz lc vl at' (⟨#[112, 117, 115, 104, 32, 118]⟩ : ByteArray) = ⟨1, 0, vl⟩ := by kernel_rfl
theorem pi_6 (tv sz lc vl at' : Int) (h : Rg tv sz lc vl at') (w : World) : Calls Try.prog 106 #[.agg #[.int .i64 tv, .int .i64 sz, .int .i64 lc, .int .u64 vl], .int .i64 at', .string (⟨#[112, 117, 115, 104, 32, 118]⟩ : ByteArray)] w fun e w' => e = .returned (.agg #[.int .u8 (Fq tv sz lc vl at' (⟨#[112, 117, 115, 104, 32, 118]⟩ : ByteArray)).op, .int .i64 (Fq tv sz lc vl at' (⟨#[112, 117, 115, 104, 32, 118]⟩ : ByteArray)).arg, .int .u64 (Fq tv sz lc vl at' (⟨#[112, 117, 115, 104, 32, 118]⟩ : ByteArray)).val]) ∧ Below w.heap.size w w' := by
  rw [fq_6]
  exact ins_pushv tv sz lc vl at' (⟨#[112, 117, 115, 104, 32, 118]⟩ : ByteArray) (by decide) (by decide) (⟨#[112, 117, 115, 104]⟩ : ByteArray) (by decide +kernel) (fun w => (readWord_any (⟨#[112, 117, 115, 104]⟩ : ByteArray) (by decide) 1 (by kernel_rfl) w).mono (fun e w' h => ⟨⟨_, h.1⟩, h.2⟩)) w
theorem ok_6 (tv sz lc vl at' : Int) (h : Rg tv sz lc vl at') : (Fq tv sz lc vl at' (⟨#[112, 117, 115, 104, 32, 118]⟩ : ByteArray)).ok := by
  rw [fq_6]
  obtain ⟨h1, h2, h3, h4, h5⟩ := h
  exact ok_mk (by decide) ⟨by omega, by omega⟩ h4
theorem fq_7 (tv sz lc vl at' : Int) : Fq tv sz lc vl at' (⟨#[103, 101, 116, 32, 102]⟩ : ByteArray) = ⟨4, (tv + 1), 0⟩ := by kernel_rfl
theorem pi_7 (tv sz lc vl at' : Int) (h : Rg tv sz lc vl at') (w : World) : Calls Try.prog 106 #[.agg #[.int .i64 tv, .int .i64 sz, .int .i64 lc, .int .u64 vl], .int .i64 at', .string (⟨#[103, 101, 116, 32, 102]⟩ : ByteArray)] w fun e w' => e = .returned (.agg #[.int .u8 (Fq tv sz lc vl at' (⟨#[103, 101, 116, 32, 102]⟩ : ByteArray)).op, .int .i64 (Fq tv sz lc vl at' (⟨#[103, 101, 116, 32, 102]⟩ : ByteArray)).arg, .int .u64 (Fq tv sz lc vl at' (⟨#[103, 101, 116, 32, 102]⟩ : ByteArray)).val]) ∧ Below w.heap.size w w' := by
  rw [fq_7]
  exact ins_arg tv sz lc vl at' (⟨#[103, 101, 116, 32, 102]⟩ : ByteArray) (by decide) (by decide) (⟨#[103, 101, 116]⟩ : ByteArray) (⟨#[102]⟩ : ByteArray) (by decide +kernel) 4 (tv + 1) rfl rfl rfl rfl (fun w => (readWord_any (⟨#[103, 101, 116]⟩ : ByteArray) (by decide) 4 (by kernel_rfl) w).mono (fun e w' h => ⟨⟨_, h.1⟩, h.2⟩)) (fun w => number_f tv sz lc vl h.1.1 (by have := h.1.2; omega) w) w
theorem ok_7 (tv sz lc vl at' : Int) (h : Rg tv sz lc vl at') : (Fq tv sz lc vl at' (⟨#[103, 101, 116, 32, 102]⟩ : ByteArray)).ok := by
  rw [fq_7]
  obtain ⟨h1, h2, h3, h4, h5⟩ := h
  exact ok_mk (by decide) ⟨by omega, by omega⟩ (by constructor <;> decide)
theorem fq_8 (tv sz lc vl at' : Int) : Fq tv sz lc vl at' (⟨#[97, 100, 100]⟩ : ByteArray) = ⟨8, 0, 0⟩ := by kernel_rfl
theorem pi_8 (tv sz lc vl at' : Int) (h : Rg tv sz lc vl at') (w : World) : Calls Try.prog 106 #[.agg #[.int .i64 tv, .int .i64 sz, .int .i64 lc, .int .u64 vl], .int .i64 at', .string (⟨#[97, 100, 100]⟩ : ByteArray)] w fun e w' => e = .returned (.agg #[.int .u8 (Fq tv sz lc vl at' (⟨#[97, 100, 100]⟩ : ByteArray)).op, .int .i64 (Fq tv sz lc vl at' (⟨#[97, 100, 100]⟩ : ByteArray)).arg, .int .u64 (Fq tv sz lc vl at' (⟨#[97, 100, 100]⟩ : ByteArray)).val]) ∧ Below w.heap.size w w' := by
  rw [fq_8]
  exact ins_one tv sz lc vl at' (⟨#[97, 100, 100]⟩ : ByteArray) (by decide) (by decide) 8 (⟨#[97, 100, 100]⟩ : ByteArray) (by decide +kernel) (fun w => (readWord_any (⟨#[97, 100, 100]⟩ : ByteArray) (by decide) 8 (by kernel_rfl) w).mono (fun e w' h => ⟨⟨_, h.1⟩, h.2⟩)) w
theorem ok_8 (tv sz lc vl at' : Int) (h : Rg tv sz lc vl at') : (Fq tv sz lc vl at' (⟨#[97, 100, 100]⟩ : ByteArray)).ok := by
  rw [fq_8]
  obtain ⟨h1, h2, h3, h4, h5⟩ := h
  exact ok_mk (by decide) ⟨by omega, by omega⟩ (by constructor <;> decide)
theorem fq_9 (tv sz lc vl at' : Int) : Fq tv sz lc vl at' (⟨#[100, 117, 112]⟩ : ByteArray) = ⟨16, 0, 0⟩ := by kernel_rfl
theorem pi_9 (tv sz lc vl at' : Int) (h : Rg tv sz lc vl at') (w : World) : Calls Try.prog 106 #[.agg #[.int .i64 tv, .int .i64 sz, .int .i64 lc, .int .u64 vl], .int .i64 at', .string (⟨#[100, 117, 112]⟩ : ByteArray)] w fun e w' => e = .returned (.agg #[.int .u8 (Fq tv sz lc vl at' (⟨#[100, 117, 112]⟩ : ByteArray)).op, .int .i64 (Fq tv sz lc vl at' (⟨#[100, 117, 112]⟩ : ByteArray)).arg, .int .u64 (Fq tv sz lc vl at' (⟨#[100, 117, 112]⟩ : ByteArray)).val]) ∧ Below w.heap.size w w' := by
  rw [fq_9]
  exact ins_one tv sz lc vl at' (⟨#[100, 117, 112]⟩ : ByteArray) (by decide) (by decide) 16 (⟨#[100, 117, 112]⟩ : ByteArray) (by decide +kernel) (fun w => (readWord_any (⟨#[100, 117, 112]⟩ : ByteArray) (by decide) 16 (by kernel_rfl) w).mono (fun e w' h => ⟨⟨_, h.1⟩, h.2⟩)) w
theorem ok_9 (tv sz lc vl at' : Int) (h : Rg tv sz lc vl at') : (Fq tv sz lc vl at' (⟨#[100, 117, 112]⟩ : ByteArray)).ok := by
  rw [fq_9]
  obtain ⟨h1, h2, h3, h4, h5⟩ := h
  exact ok_mk (by decide) ⟨by omega, by omega⟩ (by constructor <;> decide)
theorem fq_10 (tv sz lc vl at' : Int) : Fq tv sz lc vl at' (⟨#[108, 101, 115, 115]⟩ : ByteArray) = ⟨13, 0, 0⟩ := by kernel_rfl
theorem pi_10 (tv sz lc vl at' : Int) (h : Rg tv sz lc vl at') (w : World) : Calls Try.prog 106 #[.agg #[.int .i64 tv, .int .i64 sz, .int .i64 lc, .int .u64 vl], .int .i64 at', .string (⟨#[108, 101, 115, 115]⟩ : ByteArray)] w fun e w' => e = .returned (.agg #[.int .u8 (Fq tv sz lc vl at' (⟨#[108, 101, 115, 115]⟩ : ByteArray)).op, .int .i64 (Fq tv sz lc vl at' (⟨#[108, 101, 115, 115]⟩ : ByteArray)).arg, .int .u64 (Fq tv sz lc vl at' (⟨#[108, 101, 115, 115]⟩ : ByteArray)).val]) ∧ Below w.heap.size w w' := by
  rw [fq_10]
  exact ins_one tv sz lc vl at' (⟨#[108, 101, 115, 115]⟩ : ByteArray) (by decide) (by decide) 13 (⟨#[108, 101, 115, 115]⟩ : ByteArray) (by decide +kernel) (fun w => (readWord_any (⟨#[108, 101, 115, 115]⟩ : ByteArray) (by decide) 13 (by kernel_rfl) w).mono (fun e w' h => ⟨⟨_, h.1⟩, h.2⟩)) w
theorem ok_10 (tv sz lc vl at' : Int) (h : Rg tv sz lc vl at') : (Fq tv sz lc vl at' (⟨#[108, 101, 115, 115]⟩ : ByteArray)).ok := by
  rw [fq_10]
  obtain ⟨h1, h2, h3, h4, h5⟩ := h
  exact ok_mk (by decide) ⟨by omega, by omega⟩ (by constructor <;> decide)
theorem fq_11 (tv sz lc vl at' : Int) : Fq tv sz lc vl at' (⟨#[122, 101, 114, 111, 32, 49, 53]⟩ : ByteArray) = ⟨20, at' + 15, 0⟩ := by kernel_rfl
theorem pi_11 (tv sz lc vl at' : Int) (h : Rg tv sz lc vl at') (w : World) : Calls Try.prog 106 #[.agg #[.int .i64 tv, .int .i64 sz, .int .i64 lc, .int .u64 vl], .int .i64 at', .string (⟨#[122, 101, 114, 111, 32, 49, 53]⟩ : ByteArray)] w fun e w' => e = .returned (.agg #[.int .u8 (Fq tv sz lc vl at' (⟨#[122, 101, 114, 111, 32, 49, 53]⟩ : ByteArray)).op, .int .i64 (Fq tv sz lc vl at' (⟨#[122, 101, 114, 111, 32, 49, 53]⟩ : ByteArray)).arg, .int .u64 (Fq tv sz lc vl at' (⟨#[122, 101, 114, 111, 32, 49, 53]⟩ : ByteArray)).val]) ∧ Below w.heap.size w w' := by
  rw [fq_11]
  exact ins_jmp20 tv sz lc vl at' (⟨#[122, 101, 114, 111, 32, 49, 53]⟩ : ByteArray) (by decide) (by decide) (⟨#[122, 101, 114, 111]⟩ : ByteArray) (⟨#[49, 53]⟩ : ByteArray) (by decide +kernel) 15 (by have := h.2.2.2.2; unfold wrap64; omega) (fun w => (readWord_any (⟨#[122, 101, 114, 111]⟩ : ByteArray) (by decide) 20 (by kernel_rfl) w).mono (fun e w' h => ⟨⟨_, h.1⟩, h.2⟩)) (fun w => number_15 tv sz lc vl w) w
theorem ok_11 (tv sz lc vl at' : Int) (h : Rg tv sz lc vl at') : (Fq tv sz lc vl at' (⟨#[122, 101, 114, 111, 32, 49, 53]⟩ : ByteArray)).ok := by
  rw [fq_11]
  obtain ⟨h1, h2, h3, h4, h5⟩ := h
  exact ok_mk (by decide) ⟨by omega, by omega⟩ (by constructor <;> decide)
theorem fq_12 (tv sz lc vl at' : Int) : Fq tv sz lc vl at' (⟨#[106, 117, 109, 112, 32, 49, 55]⟩ : ByteArray) = ⟨19, at' + 17, 0⟩ := by kernel_rfl
theorem pi_12 (tv sz lc vl at' : Int) (h : Rg tv sz lc vl at') (w : World) : Calls Try.prog 106 #[.agg #[.int .i64 tv, .int .i64 sz, .int .i64 lc, .int .u64 vl], .int .i64 at', .string (⟨#[106, 117, 109, 112, 32, 49, 55]⟩ : ByteArray)] w fun e w' => e = .returned (.agg #[.int .u8 (Fq tv sz lc vl at' (⟨#[106, 117, 109, 112, 32, 49, 55]⟩ : ByteArray)).op, .int .i64 (Fq tv sz lc vl at' (⟨#[106, 117, 109, 112, 32, 49, 55]⟩ : ByteArray)).arg, .int .u64 (Fq tv sz lc vl at' (⟨#[106, 117, 109, 112, 32, 49, 55]⟩ : ByteArray)).val]) ∧ Below w.heap.size w w' := by
  rw [fq_12]
  exact ins_jmp19 tv sz lc vl at' (⟨#[106, 117, 109, 112, 32, 49, 55]⟩ : ByteArray) (by decide) (by decide) (⟨#[106, 117, 109, 112]⟩ : ByteArray) (⟨#[49, 55]⟩ : ByteArray) (by decide +kernel) 17 (by have := h.2.2.2.2; unfold wrap64; omega) (fun w => (readWord_any (⟨#[106, 117, 109, 112]⟩ : ByteArray) (by decide) 19 (by kernel_rfl) w).mono (fun e w' h => ⟨⟨_, h.1⟩, h.2⟩)) (fun w => number_17 tv sz lc vl w) w
theorem ok_12 (tv sz lc vl at' : Int) (h : Rg tv sz lc vl at') : (Fq tv sz lc vl at' (⟨#[106, 117, 109, 112, 32, 49, 55]⟩ : ByteArray)).ok := by
  rw [fq_12]
  obtain ⟨h1, h2, h3, h4, h5⟩ := h
  exact ok_mk (by decide) ⟨by omega, by omega⟩ (by constructor <;> decide)
theorem fq_13 (tv sz lc vl at' : Int) : Fq tv sz lc vl at' (⟨#[115, 117, 98]⟩ : ByteArray) = ⟨9, 0, 0⟩ := by kernel_rfl
theorem pi_13 (tv sz lc vl at' : Int) (h : Rg tv sz lc vl at') (w : World) : Calls Try.prog 106 #[.agg #[.int .i64 tv, .int .i64 sz, .int .i64 lc, .int .u64 vl], .int .i64 at', .string (⟨#[115, 117, 98]⟩ : ByteArray)] w fun e w' => e = .returned (.agg #[.int .u8 (Fq tv sz lc vl at' (⟨#[115, 117, 98]⟩ : ByteArray)).op, .int .i64 (Fq tv sz lc vl at' (⟨#[115, 117, 98]⟩ : ByteArray)).arg, .int .u64 (Fq tv sz lc vl at' (⟨#[115, 117, 98]⟩ : ByteArray)).val]) ∧ Below w.heap.size w w' := by
  rw [fq_13]
  exact ins_one tv sz lc vl at' (⟨#[115, 117, 98]⟩ : ByteArray) (by decide) (by decide) 9 (⟨#[115, 117, 98]⟩ : ByteArray) (by decide +kernel) (fun w => (readWord_any (⟨#[115, 117, 98]⟩ : ByteArray) (by decide) 9 (by kernel_rfl) w).mono (fun e w' h => ⟨⟨_, h.1⟩, h.2⟩)) w
theorem ok_13 (tv sz lc vl at' : Int) (h : Rg tv sz lc vl at') : (Fq tv sz lc vl at' (⟨#[115, 117, 98]⟩ : ByteArray)).ok := by
  rw [fq_13]
  obtain ⟨h1, h2, h3, h4, h5⟩ := h
  exact ok_mk (by decide) ⟨by omega, by omega⟩ (by constructor <;> decide)
theorem fq_14 (tv sz lc vl at' : Int) : Fq tv sz lc vl at' (⟨#[112, 117, 116, 97, 116, 32, 115]⟩ : ByteArray) = ⟨7, (tv + 2), 0⟩ := by kernel_rfl
theorem pi_14 (tv sz lc vl at' : Int) (h : Rg tv sz lc vl at') (w : World) : Calls Try.prog 106 #[.agg #[.int .i64 tv, .int .i64 sz, .int .i64 lc, .int .u64 vl], .int .i64 at', .string (⟨#[112, 117, 116, 97, 116, 32, 115]⟩ : ByteArray)] w fun e w' => e = .returned (.agg #[.int .u8 (Fq tv sz lc vl at' (⟨#[112, 117, 116, 97, 116, 32, 115]⟩ : ByteArray)).op, .int .i64 (Fq tv sz lc vl at' (⟨#[112, 117, 116, 97, 116, 32, 115]⟩ : ByteArray)).arg, .int .u64 (Fq tv sz lc vl at' (⟨#[112, 117, 116, 97, 116, 32, 115]⟩ : ByteArray)).val]) ∧ Below w.heap.size w w' := by
  rw [fq_14]
  exact ins_arg tv sz lc vl at' (⟨#[112, 117, 116, 97, 116, 32, 115]⟩ : ByteArray) (by decide) (by decide) (⟨#[112, 117, 116, 97, 116]⟩ : ByteArray) (⟨#[115]⟩ : ByteArray) (by decide +kernel) 7 (tv + 2) rfl rfl rfl rfl (fun w => (readWord_any (⟨#[112, 117, 116, 97, 116]⟩ : ByteArray) (by decide) 7 (by kernel_rfl) w).mono (fun e w' h => ⟨⟨_, h.1⟩, h.2⟩)) (fun w => number_s tv sz lc vl h.1.1 (by have := h.1.2; omega) w) w
theorem ok_14 (tv sz lc vl at' : Int) (h : Rg tv sz lc vl at') : (Fq tv sz lc vl at' (⟨#[112, 117, 116, 97, 116, 32, 115]⟩ : ByteArray)).ok := by
  rw [fq_14]
  obtain ⟨h1, h2, h3, h4, h5⟩ := h
  exact ok_mk (by decide) ⟨by omega, by omega⟩ (by constructor <;> decide)
theorem fq_15 (tv sz lc vl at' : Int) : Fq tv sz lc vl at' (⟨#[112, 117, 115, 104, 32, 49]⟩ : ByteArray) = ⟨1, 0, intV 1⟩ := by kernel_rfl
theorem pi_15 (tv sz lc vl at' : Int) (h : Rg tv sz lc vl at') (w : World) : Calls Try.prog 106 #[.agg #[.int .i64 tv, .int .i64 sz, .int .i64 lc, .int .u64 vl], .int .i64 at', .string (⟨#[112, 117, 115, 104, 32, 49]⟩ : ByteArray)] w fun e w' => e = .returned (.agg #[.int .u8 (Fq tv sz lc vl at' (⟨#[112, 117, 115, 104, 32, 49]⟩ : ByteArray)).op, .int .i64 (Fq tv sz lc vl at' (⟨#[112, 117, 115, 104, 32, 49]⟩ : ByteArray)).arg, .int .u64 (Fq tv sz lc vl at' (⟨#[112, 117, 115, 104, 32, 49]⟩ : ByteArray)).val]) ∧ Below w.heap.size w w' := by
  rw [fq_15]
  exact ins_push1 tv sz lc vl at' (⟨#[112, 117, 115, 104, 32, 49]⟩ : ByteArray) (by decide) (by decide) (⟨#[112, 117, 115, 104]⟩ : ByteArray) (by decide +kernel) 1 (fun w => (readWord_any (⟨#[112, 117, 115, 104]⟩ : ByteArray) (by decide) 1 (by kernel_rfl) w).mono (fun e w' h => ⟨⟨_, h.1⟩, h.2⟩)) (fun w => number_1 tv sz lc vl w) w
theorem ok_15 (tv sz lc vl at' : Int) (h : Rg tv sz lc vl at') : (Fq tv sz lc vl at' (⟨#[112, 117, 115, 104, 32, 49]⟩ : ByteArray)).ok := by
  rw [fq_15]
  obtain ⟨h1, h2, h3, h4, h5⟩ := h
  exact ok_mk (by decide) ⟨by omega, by omega⟩ (intV_w64 _)
theorem fq_16 (tv sz lc vl at' : Int) : Fq tv sz lc vl at' (⟨#[112, 117, 116, 32, 110]⟩ : ByteArray) = ⟨5, tv, 0⟩ := by kernel_rfl
theorem pi_16 (tv sz lc vl at' : Int) (h : Rg tv sz lc vl at') (w : World) : Calls Try.prog 106 #[.agg #[.int .i64 tv, .int .i64 sz, .int .i64 lc, .int .u64 vl], .int .i64 at', .string (⟨#[112, 117, 116, 32, 110]⟩ : ByteArray)] w fun e w' => e = .returned (.agg #[.int .u8 (Fq tv sz lc vl at' (⟨#[112, 117, 116, 32, 110]⟩ : ByteArray)).op, .int .i64 (Fq tv sz lc vl at' (⟨#[112, 117, 116, 32, 110]⟩ : ByteArray)).arg, .int .u64 (Fq tv sz lc vl at' (⟨#[112, 117, 116, 32, 110]⟩ : ByteArray)).val]) ∧ Below w.heap.size w w' := by
  rw [fq_16]
  exact ins_arg tv sz lc vl at' (⟨#[112, 117, 116, 32, 110]⟩ : ByteArray) (by decide) (by decide) (⟨#[112, 117, 116]⟩ : ByteArray) (⟨#[110]⟩ : ByteArray) (by decide +kernel) 5 tv rfl rfl rfl rfl (fun w => (readWord_any (⟨#[112, 117, 116]⟩ : ByteArray) (by decide) 5 (by kernel_rfl) w).mono (fun e w' h => ⟨⟨_, h.1⟩, h.2⟩)) (fun w => number_n tv sz lc vl h.1.1 (by have := h.1.2; omega) w) w
theorem ok_16 (tv sz lc vl at' : Int) (h : Rg tv sz lc vl at') : (Fq tv sz lc vl at' (⟨#[112, 117, 116, 32, 110]⟩ : ByteArray)).ok := by
  rw [fq_16]
  obtain ⟨h1, h2, h3, h4, h5⟩ := h
  exact ok_mk (by decide) ⟨by omega, by omega⟩ (by constructor <;> decide)
theorem fq_17 (tv sz lc vl at' : Int) : Fq tv sz lc vl at' (⟨#[101, 110, 100]⟩ : ByteArray) = ⟨22, 0, 0⟩ := by kernel_rfl
theorem pi_17 (tv sz lc vl at' : Int) (h : Rg tv sz lc vl at') (w : World) : Calls Try.prog 106 #[.agg #[.int .i64 tv, .int .i64 sz, .int .i64 lc, .int .u64 vl], .int .i64 at', .string (⟨#[101, 110, 100]⟩ : ByteArray)] w fun e w' => e = .returned (.agg #[.int .u8 (Fq tv sz lc vl at' (⟨#[101, 110, 100]⟩ : ByteArray)).op, .int .i64 (Fq tv sz lc vl at' (⟨#[101, 110, 100]⟩ : ByteArray)).arg, .int .u64 (Fq tv sz lc vl at' (⟨#[101, 110, 100]⟩ : ByteArray)).val]) ∧ Below w.heap.size w w' := by
  rw [fq_17]
  exact ins_one tv sz lc vl at' (⟨#[101, 110, 100]⟩ : ByteArray) (by decide) (by decide) 22 (⟨#[101, 110, 100]⟩ : ByteArray) (by decide +kernel) (fun w => (readWord_any (⟨#[101, 110, 100]⟩ : ByteArray) (by decide) 22 (by kernel_rfl) w).mono (fun e w' h => ⟨⟨_, h.1⟩, h.2⟩)) w
theorem ok_17 (tv sz lc vl at' : Int) (h : Rg tv sz lc vl at') : (Fq tv sz lc vl at' (⟨#[101, 110, 100]⟩ : ByteArray)).ok := by
  rw [fq_17]
  obtain ⟨h1, h2, h3, h4, h5⟩ := h
  exact ok_mk (by decide) ⟨by omega, by omega⟩ (by constructor <;> decide)
theorem fq_18 (tv sz lc vl at' : Int) : Fq tv sz lc vl at' (⟨#[97, 116, 111, 109, 105, 99, 32, 50, 51]⟩ : ByteArray) = ⟨21, at' + 23, 0⟩ := by kernel_rfl
theorem pi_18 (tv sz lc vl at' : Int) (h : Rg tv sz lc vl at') (w : World) : Calls Try.prog 106 #[.agg #[.int .i64 tv, .int .i64 sz, .int .i64 lc, .int .u64 vl], .int .i64 at', .string (⟨#[97, 116, 111, 109, 105, 99, 32, 50, 51]⟩ : ByteArray)] w fun e w' => e = .returned (.agg #[.int .u8 (Fq tv sz lc vl at' (⟨#[97, 116, 111, 109, 105, 99, 32, 50, 51]⟩ : ByteArray)).op, .int .i64 (Fq tv sz lc vl at' (⟨#[97, 116, 111, 109, 105, 99, 32, 50, 51]⟩ : ByteArray)).arg, .int .u64 (Fq tv sz lc vl at' (⟨#[97, 116, 111, 109, 105, 99, 32, 50, 51]⟩ : ByteArray)).val]) ∧ Below w.heap.size w w' := by
  rw [fq_18]
  exact ins_jmp21 tv sz lc vl at' (⟨#[97, 116, 111, 109, 105, 99, 32, 50, 51]⟩ : ByteArray) (by decide) (by decide) (⟨#[97, 116, 111, 109, 105, 99]⟩ : ByteArray) (⟨#[50, 51]⟩ : ByteArray) (by decide +kernel) 23 (by have := h.2.2.2.2; unfold wrap64; omega) (fun w => (readWord_any (⟨#[97, 116, 111, 109, 105, 99]⟩ : ByteArray) (by decide) 21 (by kernel_rfl) w).mono (fun e w' h => ⟨⟨_, h.1⟩, h.2⟩)) (fun w => number_23 tv sz lc vl w) w
theorem ok_18 (tv sz lc vl at' : Int) (h : Rg tv sz lc vl at') : (Fq tv sz lc vl at' (⟨#[97, 116, 111, 109, 105, 99, 32, 50, 51]⟩ : ByteArray)).ok := by
  rw [fq_18]
  obtain ⟨h1, h2, h3, h4, h5⟩ := h
  exact ok_mk (by decide) ⟨by omega, by omega⟩ (by constructor <;> decide)
theorem fq_19 (tv sz lc vl at' : Int) : Fq tv sz lc vl at' (⟨#[122, 101, 114, 111, 32, 50, 50]⟩ : ByteArray) = ⟨20, at' + 22, 0⟩ := by kernel_rfl
theorem pi_19 (tv sz lc vl at' : Int) (h : Rg tv sz lc vl at') (w : World) : Calls Try.prog 106 #[.agg #[.int .i64 tv, .int .i64 sz, .int .i64 lc, .int .u64 vl], .int .i64 at', .string (⟨#[122, 101, 114, 111, 32, 50, 50]⟩ : ByteArray)] w fun e w' => e = .returned (.agg #[.int .u8 (Fq tv sz lc vl at' (⟨#[122, 101, 114, 111, 32, 50, 50]⟩ : ByteArray)).op, .int .i64 (Fq tv sz lc vl at' (⟨#[122, 101, 114, 111, 32, 50, 50]⟩ : ByteArray)).arg, .int .u64 (Fq tv sz lc vl at' (⟨#[122, 101, 114, 111, 32, 50, 50]⟩ : ByteArray)).val]) ∧ Below w.heap.size w w' := by
  rw [fq_19]
  exact ins_jmp20 tv sz lc vl at' (⟨#[122, 101, 114, 111, 32, 50, 50]⟩ : ByteArray) (by decide) (by decide) (⟨#[122, 101, 114, 111]⟩ : ByteArray) (⟨#[50, 50]⟩ : ByteArray) (by decide +kernel) 22 (by have := h.2.2.2.2; unfold wrap64; omega) (fun w => (readWord_any (⟨#[122, 101, 114, 111]⟩ : ByteArray) (by decide) 20 (by kernel_rfl) w).mono (fun e w' h => ⟨⟨_, h.1⟩, h.2⟩)) (fun w => number_22 tv sz lc vl w) w
theorem ok_19 (tv sz lc vl at' : Int) (h : Rg tv sz lc vl at') : (Fq tv sz lc vl at' (⟨#[122, 101, 114, 111, 32, 50, 50]⟩ : ByteArray)).ok := by
  rw [fq_19]
  obtain ⟨h1, h2, h3, h4, h5⟩ := h
  exact ok_mk (by decide) ⟨by omega, by omega⟩ (by constructor <;> decide)
theorem fq_20 (tv sz lc vl at' : Int) : Fq tv sz lc vl at' (⟨#[103, 101, 116, 97, 116, 32, 115]⟩ : ByteArray) = ⟨6, (tv + 2), 0⟩ := by kernel_rfl
theorem pi_20 (tv sz lc vl at' : Int) (h : Rg tv sz lc vl at') (w : World) : Calls Try.prog 106 #[.agg #[.int .i64 tv, .int .i64 sz, .int .i64 lc, .int .u64 vl], .int .i64 at', .string (⟨#[103, 101, 116, 97, 116, 32, 115]⟩ : ByteArray)] w fun e w' => e = .returned (.agg #[.int .u8 (Fq tv sz lc vl at' (⟨#[103, 101, 116, 97, 116, 32, 115]⟩ : ByteArray)).op, .int .i64 (Fq tv sz lc vl at' (⟨#[103, 101, 116, 97, 116, 32, 115]⟩ : ByteArray)).arg, .int .u64 (Fq tv sz lc vl at' (⟨#[103, 101, 116, 97, 116, 32, 115]⟩ : ByteArray)).val]) ∧ Below w.heap.size w w' := by
  rw [fq_20]
  exact ins_arg tv sz lc vl at' (⟨#[103, 101, 116, 97, 116, 32, 115]⟩ : ByteArray) (by decide) (by decide) (⟨#[103, 101, 116, 97, 116]⟩ : ByteArray) (⟨#[115]⟩ : ByteArray) (by decide +kernel) 6 (tv + 2) rfl rfl rfl rfl (fun w => (readWord_any (⟨#[103, 101, 116, 97, 116]⟩ : ByteArray) (by decide) 6 (by kernel_rfl) w).mono (fun e w' h => ⟨⟨_, h.1⟩, h.2⟩)) (fun w => number_s tv sz lc vl h.1.1 (by have := h.1.2; omega) w) w
theorem ok_20 (tv sz lc vl at' : Int) (h : Rg tv sz lc vl at') : (Fq tv sz lc vl at' (⟨#[103, 101, 116, 97, 116, 32, 115]⟩ : ByteArray)).ok := by
  rw [fq_20]
  obtain ⟨h1, h2, h3, h4, h5⟩ := h
  exact ok_mk (by decide) ⟨by omega, by omega⟩ (by constructor <;> decide)
theorem fq_21 (tv sz lc vl at' : Int) : Fq tv sz lc vl at' (⟨#[122, 101, 114, 111, 32, 49, 56]⟩ : ByteArray) = ⟨20, at' + 18, 0⟩ := by kernel_rfl
theorem pi_21 (tv sz lc vl at' : Int) (h : Rg tv sz lc vl at') (w : World) : Calls Try.prog 106 #[.agg #[.int .i64 tv, .int .i64 sz, .int .i64 lc, .int .u64 vl], .int .i64 at', .string (⟨#[122, 101, 114, 111, 32, 49, 56]⟩ : ByteArray)] w fun e w' => e = .returned (.agg #[.int .u8 (Fq tv sz lc vl at' (⟨#[122, 101, 114, 111, 32, 49, 56]⟩ : ByteArray)).op, .int .i64 (Fq tv sz lc vl at' (⟨#[122, 101, 114, 111, 32, 49, 56]⟩ : ByteArray)).arg, .int .u64 (Fq tv sz lc vl at' (⟨#[122, 101, 114, 111, 32, 49, 56]⟩ : ByteArray)).val]) ∧ Below w.heap.size w w' := by
  rw [fq_21]
  exact ins_jmp20 tv sz lc vl at' (⟨#[122, 101, 114, 111, 32, 49, 56]⟩ : ByteArray) (by decide) (by decide) (⟨#[122, 101, 114, 111]⟩ : ByteArray) (⟨#[49, 56]⟩ : ByteArray) (by decide +kernel) 18 (by have := h.2.2.2.2; unfold wrap64; omega) (fun w => (readWord_any (⟨#[122, 101, 114, 111]⟩ : ByteArray) (by decide) 20 (by kernel_rfl) w).mono (fun e w' h => ⟨⟨_, h.1⟩, h.2⟩)) (fun w => number_18 tv sz lc vl w) w
theorem ok_21 (tv sz lc vl at' : Int) (h : Rg tv sz lc vl at') : (Fq tv sz lc vl at' (⟨#[122, 101, 114, 111, 32, 49, 56]⟩ : ByteArray)).ok := by
  rw [fq_21]
  obtain ⟨h1, h2, h3, h4, h5⟩ := h
  exact ok_mk (by decide) ⟨by omega, by omega⟩ (by constructor <;> decide)
theorem fq_22 (tv sz lc vl at' : Int) : Fq tv sz lc vl at' (⟨#[112, 117, 116, 32, 102]⟩ : ByteArray) = ⟨5, (tv + 1), 0⟩ := by kernel_rfl
theorem pi_22 (tv sz lc vl at' : Int) (h : Rg tv sz lc vl at') (w : World) : Calls Try.prog 106 #[.agg #[.int .i64 tv, .int .i64 sz, .int .i64 lc, .int .u64 vl], .int .i64 at', .string (⟨#[112, 117, 116, 32, 102]⟩ : ByteArray)] w fun e w' => e = .returned (.agg #[.int .u8 (Fq tv sz lc vl at' (⟨#[112, 117, 116, 32, 102]⟩ : ByteArray)).op, .int .i64 (Fq tv sz lc vl at' (⟨#[112, 117, 116, 32, 102]⟩ : ByteArray)).arg, .int .u64 (Fq tv sz lc vl at' (⟨#[112, 117, 116, 32, 102]⟩ : ByteArray)).val]) ∧ Below w.heap.size w w' := by
  rw [fq_22]
  exact ins_arg tv sz lc vl at' (⟨#[112, 117, 116, 32, 102]⟩ : ByteArray) (by decide) (by decide) (⟨#[112, 117, 116]⟩ : ByteArray) (⟨#[102]⟩ : ByteArray) (by decide +kernel) 5 (tv + 1) rfl rfl rfl rfl (fun w => (readWord_any (⟨#[112, 117, 116]⟩ : ByteArray) (by decide) 5 (by kernel_rfl) w).mono (fun e w' h => ⟨⟨_, h.1⟩, h.2⟩)) (fun w => number_f tv sz lc vl h.1.1 (by have := h.1.2; omega) w) w
theorem ok_22 (tv sz lc vl at' : Int) (h : Rg tv sz lc vl at') : (Fq tv sz lc vl at' (⟨#[112, 117, 116, 32, 102]⟩ : ByteArray)).ok := by
  rw [fq_22]
  obtain ⟨h1, h2, h3, h4, h5⟩ := h
  exact ok_mk (by decide) ⟨by omega, by omega⟩ (by constructor <;> decide)
theorem fq_23 (tv sz lc vl at' : Int) : Fq tv sz lc vl at' (⟨#[106, 117, 109, 112, 32, 50, 51]⟩ : ByteArray) = ⟨19, at' + 23, 0⟩ := by kernel_rfl
theorem pi_23 (tv sz lc vl at' : Int) (h : Rg tv sz lc vl at') (w : World) : Calls Try.prog 106 #[.agg #[.int .i64 tv, .int .i64 sz, .int .i64 lc, .int .u64 vl], .int .i64 at', .string (⟨#[106, 117, 109, 112, 32, 50, 51]⟩ : ByteArray)] w fun e w' => e = .returned (.agg #[.int .u8 (Fq tv sz lc vl at' (⟨#[106, 117, 109, 112, 32, 50, 51]⟩ : ByteArray)).op, .int .i64 (Fq tv sz lc vl at' (⟨#[106, 117, 109, 112, 32, 50, 51]⟩ : ByteArray)).arg, .int .u64 (Fq tv sz lc vl at' (⟨#[106, 117, 109, 112, 32, 50, 51]⟩ : ByteArray)).val]) ∧ Below w.heap.size w w' := by
  rw [fq_23]
  exact ins_jmp19 tv sz lc vl at' (⟨#[106, 117, 109, 112, 32, 50, 51]⟩ : ByteArray) (by decide) (by decide) (⟨#[106, 117, 109, 112]⟩ : ByteArray) (⟨#[50, 51]⟩ : ByteArray) (by decide +kernel) 23 (by have := h.2.2.2.2; unfold wrap64; omega) (fun w => (readWord_any (⟨#[106, 117, 109, 112]⟩ : ByteArray) (by decide) 19 (by kernel_rfl) w).mono (fun e w' h => ⟨⟨_, h.1⟩, h.2⟩)) (fun w => number_23 tv sz lc vl w) w
theorem ok_23 (tv sz lc vl at' : Int) (h : Rg tv sz lc vl at') : (Fq tv sz lc vl at' (⟨#[106, 117, 109, 112, 32, 50, 51]⟩ : ByteArray)).ok := by
  rw [fq_23]
  obtain ⟨h1, h2, h3, h4, h5⟩ := h
  exact ok_mk (by decide) ⟨by omega, by omega⟩ (by constructor <;> decide)
theorem fq_24 (tv sz lc vl at' : Int) : Fq tv sz lc vl at' (⟨#[112, 111, 112]⟩ : ByteArray) = ⟨17, 0, 0⟩ := by kernel_rfl
theorem pi_24 (tv sz lc vl at' : Int) (h : Rg tv sz lc vl at') (w : World) : Calls Try.prog 106 #[.agg #[.int .i64 tv, .int .i64 sz, .int .i64 lc, .int .u64 vl], .int .i64 at', .string (⟨#[112, 111, 112]⟩ : ByteArray)] w fun e w' => e = .returned (.agg #[.int .u8 (Fq tv sz lc vl at' (⟨#[112, 111, 112]⟩ : ByteArray)).op, .int .i64 (Fq tv sz lc vl at' (⟨#[112, 111, 112]⟩ : ByteArray)).arg, .int .u64 (Fq tv sz lc vl at' (⟨#[112, 111, 112]⟩ : ByteArray)).val]) ∧ Below w.heap.size w w' := by
  rw [fq_24]
  exact ins_one tv sz lc vl at' (⟨#[112, 111, 112]⟩ : ByteArray) (by decide) (by decide) 17 (⟨#[112, 111, 112]⟩ : ByteArray) (by decide +kernel) (fun w => (readWord_any (⟨#[112, 111, 112]⟩ : ByteArray) (by decide) 17 (by kernel_rfl) w).mono (fun e w' h => ⟨⟨_, h.1⟩, h.2⟩)) w
theorem ok_24 (tv sz lc vl at' : Int) (h : Rg tv sz lc vl at') : (Fq tv sz lc vl at' (⟨#[112, 111, 112]⟩ : ByteArray)).ok := by
  rw [fq_24]
  obtain ⟨h1, h2, h3, h4, h5⟩ := h
  exact ok_mk (by decide) ⟨by omega, by omega⟩ (by constructor <;> decide)
theorem fq_25 (tv sz lc vl at' : Int) : Fq tv sz lc vl at' (⟨#[112, 117, 115, 104, 32, 48]⟩ : ByteArray) = ⟨1, 0, intV 0⟩ := by kernel_rfl
theorem pi_25 (tv sz lc vl at' : Int) (h : Rg tv sz lc vl at') (w : World) : Calls Try.prog 106 #[.agg #[.int .i64 tv, .int .i64 sz, .int .i64 lc, .int .u64 vl], .int .i64 at', .string (⟨#[112, 117, 115, 104, 32, 48]⟩ : ByteArray)] w fun e w' => e = .returned (.agg #[.int .u8 (Fq tv sz lc vl at' (⟨#[112, 117, 115, 104, 32, 48]⟩ : ByteArray)).op, .int .i64 (Fq tv sz lc vl at' (⟨#[112, 117, 115, 104, 32, 48]⟩ : ByteArray)).arg, .int .u64 (Fq tv sz lc vl at' (⟨#[112, 117, 115, 104, 32, 48]⟩ : ByteArray)).val]) ∧ Below w.heap.size w w' := by
  rw [fq_25]
  exact ins_push0 tv sz lc vl at' (⟨#[112, 117, 115, 104, 32, 48]⟩ : ByteArray) (by decide) (by decide) (⟨#[112, 117, 115, 104]⟩ : ByteArray) (by decide +kernel) 0 (fun w => (readWord_any (⟨#[112, 117, 115, 104]⟩ : ByteArray) (by decide) 1 (by kernel_rfl) w).mono (fun e w' h => ⟨⟨_, h.1⟩, h.2⟩)) (fun w => number_0 tv sz lc vl w) w
theorem ok_25 (tv sz lc vl at' : Int) (h : Rg tv sz lc vl at') : (Fq tv sz lc vl at' (⟨#[112, 117, 115, 104, 32, 48]⟩ : ByteArray)).ok := by
  rw [fq_25]
  obtain ⟨h1, h2, h3, h4, h5⟩ := h
  exact ok_mk (by decide) ⟨by omega, by omega⟩ (intV_w64 _)
theorem fq_26 (tv sz lc vl at' : Int) : Fq tv sz lc vl at' (⟨#[97, 116, 111, 109, 105, 99, 32, 49, 56]⟩ : ByteArray) = ⟨21, at' + 18, 0⟩ := by kernel_rfl
theorem pi_26 (tv sz lc vl at' : Int) (h : Rg tv sz lc vl at') (w : World) : Calls Try.prog 106 #[.agg #[.int .i64 tv, .int .i64 sz, .int .i64 lc, .int .u64 vl], .int .i64 at', .string (⟨#[97, 116, 111, 109, 105, 99, 32, 49, 56]⟩ : ByteArray)] w fun e w' => e = .returned (.agg #[.int .u8 (Fq tv sz lc vl at' (⟨#[97, 116, 111, 109, 105, 99, 32, 49, 56]⟩ : ByteArray)).op, .int .i64 (Fq tv sz lc vl at' (⟨#[97, 116, 111, 109, 105, 99, 32, 49, 56]⟩ : ByteArray)).arg, .int .u64 (Fq tv sz lc vl at' (⟨#[97, 116, 111, 109, 105, 99, 32, 49, 56]⟩ : ByteArray)).val]) ∧ Below w.heap.size w w' := by
  rw [fq_26]
  exact ins_jmp21 tv sz lc vl at' (⟨#[97, 116, 111, 109, 105, 99, 32, 49, 56]⟩ : ByteArray) (by decide) (by decide) (⟨#[97, 116, 111, 109, 105, 99]⟩ : ByteArray) (⟨#[49, 56]⟩ : ByteArray) (by decide +kernel) 18 (by have := h.2.2.2.2; unfold wrap64; omega) (fun w => (readWord_any (⟨#[97, 116, 111, 109, 105, 99]⟩ : ByteArray) (by decide) 21 (by kernel_rfl) w).mono (fun e w' h => ⟨⟨_, h.1⟩, h.2⟩)) (fun w => number_18 tv sz lc vl w) w
theorem ok_26 (tv sz lc vl at' : Int) (h : Rg tv sz lc vl at') : (Fq tv sz lc vl at' (⟨#[97, 116, 111, 109, 105, 99, 32, 49, 56]⟩ : ByteArray)).ok := by
  rw [fq_26]
  obtain ⟨h1, h2, h3, h4, h5⟩ := h
  exact ok_mk (by decide) ⟨by omega, by omega⟩ (by constructor <;> decide)
theorem fq_27 (tv sz lc vl at' : Int) : Fq tv sz lc vl at' (⟨#[122, 101, 114, 111, 32, 49, 55]⟩ : ByteArray) = ⟨20, at' + 17, 0⟩ := by kernel_rfl
theorem pi_27 (tv sz lc vl at' : Int) (h : Rg tv sz lc vl at') (w : World) : Calls Try.prog 106 #[.agg #[.int .i64 tv, .int .i64 sz, .int .i64 lc, .int .u64 vl], .int .i64 at', .string (⟨#[122, 101, 114, 111, 32, 49, 55]⟩ : ByteArray)] w fun e w' => e = .returned (.agg #[.int .u8 (Fq tv sz lc vl at' (⟨#[122, 101, 114, 111, 32, 49, 55]⟩ : ByteArray)).op, .int .i64 (Fq tv sz lc vl at' (⟨#[122, 101, 114, 111, 32, 49, 55]⟩ : ByteArray)).arg, .int .u64 (Fq tv sz lc vl at' (⟨#[122, 101, 114, 111, 32, 49, 55]⟩ : ByteArray)).val]) ∧ Below w.heap.size w w' := by
  rw [fq_27]
  exact ins_jmp20 tv sz lc vl at' (⟨#[122, 101, 114, 111, 32, 49, 55]⟩ : ByteArray) (by decide) (by decide) (⟨#[122, 101, 114, 111]⟩ : ByteArray) (⟨#[49, 55]⟩ : ByteArray) (by decide +kernel) 17 (by have := h.2.2.2.2; unfold wrap64; omega) (fun w => (readWord_any (⟨#[122, 101, 114, 111]⟩ : ByteArray) (by decide) 20 (by kernel_rfl) w).mono (fun e w' h => ⟨⟨_, h.1⟩, h.2⟩)) (fun w => number_17 tv sz lc vl w) w
theorem ok_27 (tv sz lc vl at' : Int) (h : Rg tv sz lc vl at') : (Fq tv sz lc vl at' (⟨#[122, 101, 114, 111, 32, 49, 55]⟩ : ByteArray)).ok := by
  rw [fq_27]
  obtain ⟨h1, h2, h3, h4, h5⟩ := h
  exact ok_mk (by decide) ⟨by omega, by omega⟩ (by constructor <;> decide)
theorem fq_28 (tv sz lc vl at' : Int) : Fq tv sz lc vl at' (⟨#[106, 117, 109, 112, 32, 49, 56]⟩ : ByteArray) = ⟨19, at' + 18, 0⟩ := by kernel_rfl
theorem pi_28 (tv sz lc vl at' : Int) (h : Rg tv sz lc vl at') (w : World) : Calls Try.prog 106 #[.agg #[.int .i64 tv, .int .i64 sz, .int .i64 lc, .int .u64 vl], .int .i64 at', .string (⟨#[106, 117, 109, 112, 32, 49, 56]⟩ : ByteArray)] w fun e w' => e = .returned (.agg #[.int .u8 (Fq tv sz lc vl at' (⟨#[106, 117, 109, 112, 32, 49, 56]⟩ : ByteArray)).op, .int .i64 (Fq tv sz lc vl at' (⟨#[106, 117, 109, 112, 32, 49, 56]⟩ : ByteArray)).arg, .int .u64 (Fq tv sz lc vl at' (⟨#[106, 117, 109, 112, 32, 49, 56]⟩ : ByteArray)).val]) ∧ Below w.heap.size w w' := by
  rw [fq_28]
  exact ins_jmp19 tv sz lc vl at' (⟨#[106, 117, 109, 112, 32, 49, 56]⟩ : ByteArray) (by decide) (by decide) (⟨#[106, 117, 109, 112]⟩ : ByteArray) (⟨#[49, 56]⟩ : ByteArray) (by decide +kernel) 18 (by have := h.2.2.2.2; unfold wrap64; omega) (fun w => (readWord_any (⟨#[106, 117, 109, 112]⟩ : ByteArray) (by decide) 19 (by kernel_rfl) w).mono (fun e w' h => ⟨⟨_, h.1⟩, h.2⟩)) (fun w => number_18 tv sz lc vl w) w
theorem ok_28 (tv sz lc vl at' : Int) (h : Rg tv sz lc vl at') : (Fq tv sz lc vl at' (⟨#[106, 117, 109, 112, 32, 49, 56]⟩ : ByteArray)).ok := by
  rw [fq_28]
  obtain ⟨h1, h2, h3, h4, h5⟩ := h
  exact ok_mk (by decide) ⟨by omega, by omega⟩ (by constructor <;> decide)
theorem fq_29 (tv sz lc vl at' : Int) : Fq tv sz lc vl at' (⟨#[97, 116, 111, 109, 105, 99, 32, 55]⟩ : ByteArray) = ⟨21, at' + 7, 0⟩ := by kernel_rfl
theorem pi_29 (tv sz lc vl at' : Int) (h : Rg tv sz lc vl at') (w : World) : Calls Try.prog 106 #[.agg #[.int .i64 tv, .int .i64 sz, .int .i64 lc, .int .u64 vl], .int .i64 at', .string (⟨#[97, 116, 111, 109, 105, 99, 32, 55]⟩ : ByteArray)] w fun e w' => e = .returned (.agg #[.int .u8 (Fq tv sz lc vl at' (⟨#[97, 116, 111, 109, 105, 99, 32, 55]⟩ : ByteArray)).op, .int .i64 (Fq tv sz lc vl at' (⟨#[97, 116, 111, 109, 105, 99, 32, 55]⟩ : ByteArray)).arg, .int .u64 (Fq tv sz lc vl at' (⟨#[97, 116, 111, 109, 105, 99, 32, 55]⟩ : ByteArray)).val]) ∧ Below w.heap.size w w' := by
  rw [fq_29]
  exact ins_jmp21 tv sz lc vl at' (⟨#[97, 116, 111, 109, 105, 99, 32, 55]⟩ : ByteArray) (by decide) (by decide) (⟨#[97, 116, 111, 109, 105, 99]⟩ : ByteArray) (⟨#[55]⟩ : ByteArray) (by decide +kernel) 7 (by have := h.2.2.2.2; unfold wrap64; omega) (fun w => (readWord_any (⟨#[97, 116, 111, 109, 105, 99]⟩ : ByteArray) (by decide) 21 (by kernel_rfl) w).mono (fun e w' h => ⟨⟨_, h.1⟩, h.2⟩)) (fun w => number_7 tv sz lc vl w) w
theorem ok_29 (tv sz lc vl at' : Int) (h : Rg tv sz lc vl at') : (Fq tv sz lc vl at' (⟨#[97, 116, 111, 109, 105, 99, 32, 55]⟩ : ByteArray)).ok := by
  rw [fq_29]
  obtain ⟨h1, h2, h3, h4, h5⟩ := h
  exact ok_mk (by decide) ⟨by omega, by omega⟩ (by constructor <;> decide)
theorem fq_30 (tv sz lc vl at' : Int) : Fq tv sz lc vl at' (⟨#[108, 111, 99, 97, 108, 32, 108]⟩ : ByteArray) = ⟨2, lc, 0⟩ := by kernel_rfl
theorem pi_30 (tv sz lc vl at' : Int) (h : Rg tv sz lc vl at') (w : World) : Calls Try.prog 106 #[.agg #[.int .i64 tv, .int .i64 sz, .int .i64 lc, .int .u64 vl], .int .i64 at', .string (⟨#[108, 111, 99, 97, 108, 32, 108]⟩ : ByteArray)] w fun e w' => e = .returned (.agg #[.int .u8 (Fq tv sz lc vl at' (⟨#[108, 111, 99, 97, 108, 32, 108]⟩ : ByteArray)).op, .int .i64 (Fq tv sz lc vl at' (⟨#[108, 111, 99, 97, 108, 32, 108]⟩ : ByteArray)).arg, .int .u64 (Fq tv sz lc vl at' (⟨#[108, 111, 99, 97, 108, 32, 108]⟩ : ByteArray)).val]) ∧ Below w.heap.size w w' := by
  rw [fq_30]
  exact ins_arg tv sz lc vl at' (⟨#[108, 111, 99, 97, 108, 32, 108]⟩ : ByteArray) (by decide) (by decide) (⟨#[108, 111, 99, 97, 108]⟩ : ByteArray) (⟨#[108]⟩ : ByteArray) (by decide +kernel) 2 lc rfl rfl rfl rfl (fun w => (readWord_any (⟨#[108, 111, 99, 97, 108]⟩ : ByteArray) (by decide) 2 (by kernel_rfl) w).mono (fun e w' h => ⟨⟨_, h.1⟩, h.2⟩)) (fun w => number_l tv sz lc vl h.1.1 (by have := h.1.2; omega) w) w
theorem ok_30 (tv sz lc vl at' : Int) (h : Rg tv sz lc vl at') : (Fq tv sz lc vl at' (⟨#[108, 111, 99, 97, 108, 32, 108]⟩ : ByteArray)).ok := by
  rw [fq_30]
  obtain ⟨h1, h2, h3, h4, h5⟩ := h
  exact ok_mk (by decide) ⟨by omega, by omega⟩ (by constructor <;> decide)
theorem fq_31 (tv sz lc vl at' : Int) : Fq tv sz lc vl at' (⟨#[106, 117, 109, 112, 32, 55]⟩ : ByteArray) = ⟨19, at' + 7, 0⟩ := by kernel_rfl
theorem pi_31 (tv sz lc vl at' : Int) (h : Rg tv sz lc vl at') (w : World) : Calls Try.prog 106 #[.agg #[.int .i64 tv, .int .i64 sz, .int .i64 lc, .int .u64 vl], .int .i64 at', .string (⟨#[106, 117, 109, 112, 32, 55]⟩ : ByteArray)] w fun e w' => e = .returned (.agg #[.int .u8 (Fq tv sz lc vl at' (⟨#[106, 117, 109, 112, 32, 55]⟩ : ByteArray)).op, .int .i64 (Fq tv sz lc vl at' (⟨#[106, 117, 109, 112, 32, 55]⟩ : ByteArray)).arg, .int .u64 (Fq tv sz lc vl at' (⟨#[106, 117, 109, 112, 32, 55]⟩ : ByteArray)).val]) ∧ Below w.heap.size w w' := by
  rw [fq_31]
  exact ins_jmp19 tv sz lc vl at' (⟨#[106, 117, 109, 112, 32, 55]⟩ : ByteArray) (by decide) (by decide) (⟨#[106, 117, 109, 112]⟩ : ByteArray) (⟨#[55]⟩ : ByteArray) (by decide +kernel) 7 (by have := h.2.2.2.2; unfold wrap64; omega) (fun w => (readWord_any (⟨#[106, 117, 109, 112]⟩ : ByteArray) (by decide) 19 (by kernel_rfl) w).mono (fun e w' h => ⟨⟨_, h.1⟩, h.2⟩)) (fun w => number_7 tv sz lc vl w) w
theorem ok_31 (tv sz lc vl at' : Int) (h : Rg tv sz lc vl at') : (Fq tv sz lc vl at' (⟨#[106, 117, 109, 112, 32, 55]⟩ : ByteArray)).ok := by
  rw [fq_31]
  obtain ⟨h1, h2, h3, h4, h5⟩ := h
  exact ok_mk (by decide) ⟨by omega, by omega⟩ (by constructor <;> decide)
def enterT : ByteArray := (⟨#[97, 116, 111, 109, 105, 99, 32, 50, 50, 44, 103, 101, 116, 32, 110, 44, 112, 117, 115, 104, 32, 122, 44, 115, 97, 109, 101, 44, 122, 101, 114, 111, 32, 54, 44, 114, 101, 116, 114, 121, 44, 112, 117, 115, 104, 32, 118, 44, 103, 101, 116, 32, 102, 44, 103, 101, 116, 32, 110, 44, 97, 100, 100, 44, 100, 117, 112, 44, 112, 117, 115, 104, 32, 122, 44, 108, 101, 115, 115, 44, 122, 101, 114, 111, 32, 49, 53, 44, 106, 117, 109, 112, 32, 49, 55, 44, 112, 117, 115, 104, 32, 122, 44, 115, 117, 98, 44, 112, 117, 116, 97, 116, 32, 115, 44, 103, 101, 116, 32, 110, 44, 112, 117, 115, 104, 32, 49, 44, 97, 100, 100, 44, 112, 117, 116, 32, 110, 44, 101, 110, 100]⟩ : ByteArray)
def enterL (tv sz lc vl at' : Int) : List Ins3 := [⟨21, at' + 22, 0⟩, ⟨4, tv, 0⟩, ⟨1, 0, intV sz⟩, ⟨14, 0, 0⟩, ⟨20, at' + 6, 0⟩, ⟨26, 0, 0⟩, ⟨1, 0, vl⟩, ⟨4, (tv + 1), 0⟩, ⟨4, tv, 0⟩, ⟨8, 0, 0⟩, ⟨16, 0, 0⟩, ⟨1, 0, intV sz⟩, ⟨13, 0, 0⟩, ⟨20, at' + 15, 0⟩, ⟨19, at' + 17, 0⟩, ⟨1, 0, intV sz⟩, ⟨9, 0, 0⟩, ⟨7, (tv + 2), 0⟩, ⟨4, tv, 0⟩, ⟨1, 0, intV 1⟩, ⟨8, 0, 0⟩, ⟨5, tv, 0⟩, ⟨22, 0, 0⟩]
theorem enter_pcs : pcs enterT 44 = [(⟨#[97, 116, 111, 109, 105, 99, 32, 50, 50]⟩ : ByteArray), (⟨#[103, 101, 116, 32, 110]⟩ : ByteArray), (⟨#[112, 117, 115, 104, 32, 122]⟩ : ByteArray), (⟨#[115, 97, 109, 101]⟩ : ByteArray), (⟨#[122, 101, 114, 111, 32, 54]⟩ : ByteArray), (⟨#[114, 101, 116, 114, 121]⟩ : ByteArray), (⟨#[112, 117, 115, 104, 32, 118]⟩ : ByteArray), (⟨#[103, 101, 116, 32, 102]⟩ : ByteArray), (⟨#[103, 101, 116, 32, 110]⟩ : ByteArray), (⟨#[97, 100, 100]⟩ : ByteArray), (⟨#[100, 117, 112]⟩ : ByteArray), (⟨#[112, 117, 115, 104, 32, 122]⟩ : ByteArray), (⟨#[108, 101, 115, 115]⟩ : ByteArray), (⟨#[122, 101, 114, 111, 32, 49, 53]⟩ : ByteArray), (⟨#[106, 117, 109, 112, 32, 49, 55]⟩ : ByteArray), (⟨#[112, 117, 115, 104, 32, 122]⟩ : ByteArray), (⟨#[115, 117, 98]⟩ : ByteArray), (⟨#[112, 117, 116, 97, 116, 32, 115]⟩ : ByteArray), (⟨#[103, 101, 116, 32, 110]⟩ : ByteArray), (⟨#[112, 117, 115, 104, 32, 49]⟩ : ByteArray), (⟨#[97, 100, 100]⟩ : ByteArray), (⟨#[112, 117, 116, 32, 110]⟩ : ByteArray), (⟨#[101, 110, 100]⟩ : ByteArray)] := by decide +kernel
theorem enter_blk (tv sz lc vl at' : Int) (h : Rg tv sz lc vl at') (w : World) : Calls Try.prog 85 #[.agg #[.int .i64 tv, .int .i64 sz, .int .i64 lc, .int .u64 vl], .int .i64 at', .string enterT] w (BPost w (enterL tv sz lc vl at') at') := by
  have e : (pcs enterT 44).map (Fq tv sz lc vl at') = enterL tv sz lc vl at' := by rw [enter_pcs]; kernel_rfl
  rw [← e]
  refine block_any tv sz lc vl at' enterT (by decide +kernel) (by decide +kernel) ⟨h.2.2.2.2.1, by have := h.2.2.2.2.2; omega⟩ (Fq tv sz lc vl at') (by rw [enter_pcs]; decide +kernel) ?_ ?_ w
  · intro p hp
    rw [enter_pcs] at hp
    simp only [List.mem_cons, List.not_mem_nil, or_false] at hp
    rcases hp with rfl | rfl | rfl | rfl | rfl | rfl | rfl | rfl | rfl | rfl | rfl | rfl | rfl | rfl | rfl | rfl | rfl | rfl | rfl | rfl | rfl | rfl | rfl
    · exact ok_0 tv sz lc vl at' h
    · exact ok_1 tv sz lc vl at' h
    · exact ok_2 tv sz lc vl at' h
    · exact ok_3 tv sz lc vl at' h
    · exact ok_4 tv sz lc vl at' h
    · exact ok_5 tv sz lc vl at' h
    · exact ok_6 tv sz lc vl at' h
    · exact ok_7 tv sz lc vl at' h
    · exact ok_1 tv sz lc vl at' h
    · exact ok_8 tv sz lc vl at' h
    · exact ok_9 tv sz lc vl at' h
    · exact ok_2 tv sz lc vl at' h
    · exact ok_10 tv sz lc vl at' h
    · exact ok_11 tv sz lc vl at' h
    · exact ok_12 tv sz lc vl at' h
    · exact ok_2 tv sz lc vl at' h
    · exact ok_13 tv sz lc vl at' h
    · exact ok_14 tv sz lc vl at' h
    · exact ok_1 tv sz lc vl at' h
    · exact ok_15 tv sz lc vl at' h
    · exact ok_8 tv sz lc vl at' h
    · exact ok_16 tv sz lc vl at' h
    · exact ok_17 tv sz lc vl at' h
  · intro p hp w
    rw [enter_pcs] at hp
    simp only [List.mem_cons, List.not_mem_nil, or_false] at hp
    rcases hp with rfl | rfl | rfl | rfl | rfl | rfl | rfl | rfl | rfl | rfl | rfl | rfl | rfl | rfl | rfl | rfl | rfl | rfl | rfl | rfl | rfl | rfl | rfl
    · exact pi_0 tv sz lc vl at' h w
    · exact pi_1 tv sz lc vl at' h w
    · exact pi_2 tv sz lc vl at' h w
    · exact pi_3 tv sz lc vl at' h w
    · exact pi_4 tv sz lc vl at' h w
    · exact pi_5 tv sz lc vl at' h w
    · exact pi_6 tv sz lc vl at' h w
    · exact pi_7 tv sz lc vl at' h w
    · exact pi_1 tv sz lc vl at' h w
    · exact pi_8 tv sz lc vl at' h w
    · exact pi_9 tv sz lc vl at' h w
    · exact pi_2 tv sz lc vl at' h w
    · exact pi_10 tv sz lc vl at' h w
    · exact pi_11 tv sz lc vl at' h w
    · exact pi_12 tv sz lc vl at' h w
    · exact pi_2 tv sz lc vl at' h w
    · exact pi_13 tv sz lc vl at' h w
    · exact pi_14 tv sz lc vl at' h w
    · exact pi_1 tv sz lc vl at' h w
    · exact pi_15 tv sz lc vl at' h w
    · exact pi_8 tv sz lc vl at' h w
    · exact pi_16 tv sz lc vl at' h w
    · exact pi_17 tv sz lc vl at' h w
def takeT : ByteArray := (⟨#[97, 116, 111, 109, 105, 99, 32, 50, 51, 44, 103, 101, 116, 32, 110, 44, 122, 101, 114, 111, 32, 50, 50, 44, 103, 101, 116, 32, 102, 44, 103, 101, 116, 97, 116, 32, 115, 44, 103, 101, 116, 32, 110, 44, 112, 117, 115, 104, 32, 49, 44, 115, 117, 98, 44, 112, 117, 116, 32, 110, 44, 103, 101, 116, 32, 102, 44, 112, 117, 115, 104, 32, 49, 44, 97, 100, 100, 44, 100, 117, 112, 44, 112, 117, 115, 104, 32, 122, 44, 108, 101, 115, 115, 44, 122, 101, 114, 111, 32, 49, 56, 44, 112, 117, 116, 32, 102, 44, 106, 117, 109, 112, 32, 50, 51, 44, 112, 111, 112, 44, 112, 117, 115, 104, 32, 48, 44, 112, 117, 116, 32, 102, 44, 106, 117, 109, 112, 32, 50, 51, 44, 114, 101, 116, 114, 121, 44, 101, 110, 100]⟩ : ByteArray)
def takeL (tv sz lc vl at' : Int) : List Ins3 := [⟨21, at' + 23, 0⟩, ⟨4, tv, 0⟩, ⟨20, at' + 22, 0⟩, ⟨4, (tv + 1), 0⟩, ⟨6, (tv + 2), 0⟩, ⟨4, tv, 0⟩, ⟨1, 0, intV 1⟩, ⟨9, 0, 0⟩, ⟨5, tv, 0⟩, ⟨4, (tv + 1), 0⟩, ⟨1, 0, intV 1⟩, ⟨8, 0, 0⟩, ⟨16, 0, 0⟩, ⟨1, 0, intV sz⟩, ⟨13, 0, 0⟩, ⟨20, at' + 18, 0⟩, ⟨5, (tv + 1), 0⟩, ⟨19, at' + 23, 0⟩, ⟨17, 0, 0⟩, ⟨1, 0, intV 0⟩, ⟨5, (tv + 1), 0⟩, ⟨19, at' + 23, 0⟩, ⟨26, 0, 0⟩, ⟨22, 0, 0⟩]
theorem take_pcs : pcs takeT 44 = [(⟨#[97, 116, 111, 109, 105, 99, 32, 50, 51]⟩ : ByteArray), (⟨#[103, 101, 116, 32, 110]⟩ : ByteArray), (⟨#[122, 101, 114, 111, 32, 50, 50]⟩ : ByteArray), (⟨#[103, 101, 116, 32, 102]⟩ : ByteArray), (⟨#[103, 101, 116, 97, 116, 32, 115]⟩ : ByteArray), (⟨#[103, 101, 116, 32, 110]⟩ : ByteArray), (⟨#[112, 117, 115, 104, 32, 49]⟩ : ByteArray), (⟨#[115, 117, 98]⟩ : ByteArray), (⟨#[112, 117, 116, 32, 110]⟩ : ByteArray), (⟨#[103, 101, 116, 32, 102]⟩ : ByteArray), (⟨#[112, 117, 115, 104, 32, 49]⟩ : ByteArray), (⟨#[97, 100, 100]⟩ : ByteArray), (⟨#[100, 117, 112]⟩ : ByteArray), (⟨#[112, 117, 115, 104, 32, 122]⟩ : ByteArray), (⟨#[108, 101, 115, 115]⟩ : ByteArray), (⟨#[122, 101, 114, 111, 32, 49, 56]⟩ : ByteArray), (⟨#[112, 117, 116, 32, 102]⟩ : ByteArray), (⟨#[106, 117, 109, 112, 32, 50, 51]⟩ : ByteArray), (⟨#[112, 111, 112]⟩ : ByteArray), (⟨#[112, 117, 115, 104, 32, 48]⟩ : ByteArray), (⟨#[112, 117, 116, 32, 102]⟩ : ByteArray), (⟨#[106, 117, 109, 112, 32, 50, 51]⟩ : ByteArray), (⟨#[114, 101, 116, 114, 121]⟩ : ByteArray), (⟨#[101, 110, 100]⟩ : ByteArray)] := by decide +kernel
theorem take_blk (tv sz lc vl at' : Int) (h : Rg tv sz lc vl at') (w : World) : Calls Try.prog 85 #[.agg #[.int .i64 tv, .int .i64 sz, .int .i64 lc, .int .u64 vl], .int .i64 at', .string takeT] w (BPost w (takeL tv sz lc vl at') at') := by
  have e : (pcs takeT 44).map (Fq tv sz lc vl at') = takeL tv sz lc vl at' := by rw [take_pcs]; kernel_rfl
  rw [← e]
  refine block_any tv sz lc vl at' takeT (by decide +kernel) (by decide +kernel) ⟨h.2.2.2.2.1, by have := h.2.2.2.2.2; omega⟩ (Fq tv sz lc vl at') (by rw [take_pcs]; decide +kernel) ?_ ?_ w
  · intro p hp
    rw [take_pcs] at hp
    simp only [List.mem_cons, List.not_mem_nil, or_false] at hp
    rcases hp with rfl | rfl | rfl | rfl | rfl | rfl | rfl | rfl | rfl | rfl | rfl | rfl | rfl | rfl | rfl | rfl | rfl | rfl | rfl | rfl | rfl | rfl | rfl | rfl
    · exact ok_18 tv sz lc vl at' h
    · exact ok_1 tv sz lc vl at' h
    · exact ok_19 tv sz lc vl at' h
    · exact ok_7 tv sz lc vl at' h
    · exact ok_20 tv sz lc vl at' h
    · exact ok_1 tv sz lc vl at' h
    · exact ok_15 tv sz lc vl at' h
    · exact ok_13 tv sz lc vl at' h
    · exact ok_16 tv sz lc vl at' h
    · exact ok_7 tv sz lc vl at' h
    · exact ok_15 tv sz lc vl at' h
    · exact ok_8 tv sz lc vl at' h
    · exact ok_9 tv sz lc vl at' h
    · exact ok_2 tv sz lc vl at' h
    · exact ok_10 tv sz lc vl at' h
    · exact ok_21 tv sz lc vl at' h
    · exact ok_22 tv sz lc vl at' h
    · exact ok_23 tv sz lc vl at' h
    · exact ok_24 tv sz lc vl at' h
    · exact ok_25 tv sz lc vl at' h
    · exact ok_22 tv sz lc vl at' h
    · exact ok_23 tv sz lc vl at' h
    · exact ok_5 tv sz lc vl at' h
    · exact ok_17 tv sz lc vl at' h
  · intro p hp w
    rw [take_pcs] at hp
    simp only [List.mem_cons, List.not_mem_nil, or_false] at hp
    rcases hp with rfl | rfl | rfl | rfl | rfl | rfl | rfl | rfl | rfl | rfl | rfl | rfl | rfl | rfl | rfl | rfl | rfl | rfl | rfl | rfl | rfl | rfl | rfl | rfl
    · exact pi_18 tv sz lc vl at' h w
    · exact pi_1 tv sz lc vl at' h w
    · exact pi_19 tv sz lc vl at' h w
    · exact pi_7 tv sz lc vl at' h w
    · exact pi_20 tv sz lc vl at' h w
    · exact pi_1 tv sz lc vl at' h w
    · exact pi_15 tv sz lc vl at' h w
    · exact pi_13 tv sz lc vl at' h w
    · exact pi_16 tv sz lc vl at' h w
    · exact pi_7 tv sz lc vl at' h w
    · exact pi_15 tv sz lc vl at' h w
    · exact pi_8 tv sz lc vl at' h w
    · exact pi_9 tv sz lc vl at' h w
    · exact pi_2 tv sz lc vl at' h w
    · exact pi_10 tv sz lc vl at' h w
    · exact pi_21 tv sz lc vl at' h w
    · exact pi_22 tv sz lc vl at' h w
    · exact pi_23 tv sz lc vl at' h w
    · exact pi_24 tv sz lc vl at' h w
    · exact pi_25 tv sz lc vl at' h w
    · exact pi_22 tv sz lc vl at' h w
    · exact pi_23 tv sz lc vl at' h w
    · exact pi_5 tv sz lc vl at' h w
    · exact pi_17 tv sz lc vl at' h w
def arriveT : ByteArray := (⟨#[97, 116, 111, 109, 105, 99, 32, 49, 56, 44, 103, 101, 116, 32, 102, 44, 103, 101, 116, 32, 110, 44, 112, 117, 115, 104, 32, 49, 44, 97, 100, 100, 44, 100, 117, 112, 44, 112, 117, 115, 104, 32, 122, 44, 115, 97, 109, 101, 44, 122, 101, 114, 111, 32, 49, 55, 44, 112, 111, 112, 44, 112, 117, 115, 104, 32, 48, 44, 112, 117, 116, 32, 110, 44, 103, 101, 116, 32, 102, 44, 112, 117, 115, 104, 32, 49, 44, 97, 100, 100, 44, 112, 117, 116, 32, 102, 44, 106, 117, 109, 112, 32, 49, 56, 44, 112, 117, 116, 32, 110, 44, 101, 110, 100]⟩ : ByteArray)
def arriveL (tv sz lc vl at' : Int) : List Ins3 := [⟨21, at' + 18, 0⟩, ⟨4, (tv + 1), 0⟩, ⟨4, tv, 0⟩, ⟨1, 0, intV 1⟩, ⟨8, 0, 0⟩, ⟨16, 0, 0⟩, ⟨1, 0, intV sz⟩, ⟨14, 0, 0⟩, ⟨20, at' + 17, 0⟩, ⟨17, 0, 0⟩, ⟨1, 0, intV 0⟩, ⟨5, tv, 0⟩, ⟨4, (tv + 1), 0⟩, ⟨1, 0, intV 1⟩, ⟨8, 0, 0⟩, ⟨5, (tv + 1), 0⟩, ⟨19, at' + 18, 0⟩, ⟨5, tv, 0⟩, ⟨22, 0, 0⟩]
theorem arrive_pcs : pcs arriveT 44 = [(⟨#[97, 116, 111, 109, 105, 99, 32, 49, 56]⟩ : ByteArray), (⟨#[103, 101, 116, 32, 102]⟩ : ByteArray), (⟨#[103, 101, 116, 32, 110]⟩ : ByteArray), (⟨#[112, 117, 115, 104, 32, 49]⟩ : ByteArray), (⟨#[97, 100, 100]⟩ : ByteArray), (⟨#[100, 117, 112]⟩ : ByteArray), (⟨#[112, 117, 115, 104, 32, 122]⟩ : ByteArray), (⟨#[115, 97, 109, 101]⟩ : ByteArray), (⟨#[122, 101, 114, 111, 32, 49, 55]⟩ : ByteArray), (⟨#[112, 111, 112]⟩ : ByteArray), (⟨#[112, 117, 115, 104, 32, 48]⟩ : ByteArray), (⟨#[112, 117, 116, 32, 110]⟩ : ByteArray), (⟨#[103, 101, 116, 32, 102]⟩ : ByteArray), (⟨#[112, 117, 115, 104, 32, 49]⟩ : ByteArray), (⟨#[97, 100, 100]⟩ : ByteArray), (⟨#[112, 117, 116, 32, 102]⟩ : ByteArray), (⟨#[106, 117, 109, 112, 32, 49, 56]⟩ : ByteArray), (⟨#[112, 117, 116, 32, 110]⟩ : ByteArray), (⟨#[101, 110, 100]⟩ : ByteArray)] := by decide +kernel
theorem arrive_blk (tv sz lc vl at' : Int) (h : Rg tv sz lc vl at') (w : World) : Calls Try.prog 85 #[.agg #[.int .i64 tv, .int .i64 sz, .int .i64 lc, .int .u64 vl], .int .i64 at', .string arriveT] w (BPost w (arriveL tv sz lc vl at') at') := by
  have e : (pcs arriveT 44).map (Fq tv sz lc vl at') = arriveL tv sz lc vl at' := by rw [arrive_pcs]; kernel_rfl
  rw [← e]
  refine block_any tv sz lc vl at' arriveT (by decide +kernel) (by decide +kernel) ⟨h.2.2.2.2.1, by have := h.2.2.2.2.2; omega⟩ (Fq tv sz lc vl at') (by rw [arrive_pcs]; decide +kernel) ?_ ?_ w
  · intro p hp
    rw [arrive_pcs] at hp
    simp only [List.mem_cons, List.not_mem_nil, or_false] at hp
    rcases hp with rfl | rfl | rfl | rfl | rfl | rfl | rfl | rfl | rfl | rfl | rfl | rfl | rfl | rfl | rfl | rfl | rfl | rfl | rfl
    · exact ok_26 tv sz lc vl at' h
    · exact ok_7 tv sz lc vl at' h
    · exact ok_1 tv sz lc vl at' h
    · exact ok_15 tv sz lc vl at' h
    · exact ok_8 tv sz lc vl at' h
    · exact ok_9 tv sz lc vl at' h
    · exact ok_2 tv sz lc vl at' h
    · exact ok_3 tv sz lc vl at' h
    · exact ok_27 tv sz lc vl at' h
    · exact ok_24 tv sz lc vl at' h
    · exact ok_25 tv sz lc vl at' h
    · exact ok_16 tv sz lc vl at' h
    · exact ok_7 tv sz lc vl at' h
    · exact ok_15 tv sz lc vl at' h
    · exact ok_8 tv sz lc vl at' h
    · exact ok_22 tv sz lc vl at' h
    · exact ok_28 tv sz lc vl at' h
    · exact ok_16 tv sz lc vl at' h
    · exact ok_17 tv sz lc vl at' h
  · intro p hp w
    rw [arrive_pcs] at hp
    simp only [List.mem_cons, List.not_mem_nil, or_false] at hp
    rcases hp with rfl | rfl | rfl | rfl | rfl | rfl | rfl | rfl | rfl | rfl | rfl | rfl | rfl | rfl | rfl | rfl | rfl | rfl | rfl
    · exact pi_26 tv sz lc vl at' h w
    · exact pi_7 tv sz lc vl at' h w
    · exact pi_1 tv sz lc vl at' h w
    · exact pi_15 tv sz lc vl at' h w
    · exact pi_8 tv sz lc vl at' h w
    · exact pi_9 tv sz lc vl at' h w
    · exact pi_2 tv sz lc vl at' h w
    · exact pi_3 tv sz lc vl at' h w
    · exact pi_27 tv sz lc vl at' h w
    · exact pi_24 tv sz lc vl at' h w
    · exact pi_25 tv sz lc vl at' h w
    · exact pi_16 tv sz lc vl at' h w
    · exact pi_7 tv sz lc vl at' h w
    · exact pi_15 tv sz lc vl at' h w
    · exact pi_8 tv sz lc vl at' h w
    · exact pi_22 tv sz lc vl at' h w
    · exact pi_28 tv sz lc vl at' h w
    · exact pi_16 tv sz lc vl at' h w
    · exact pi_17 tv sz lc vl at' h w
def leaveT : ByteArray := (⟨#[97, 116, 111, 109, 105, 99, 32, 55, 44, 108, 111, 99, 97, 108, 32, 108, 44, 103, 101, 116, 32, 102, 44, 108, 101, 115, 115, 44, 122, 101, 114, 111, 32, 54, 44, 106, 117, 109, 112, 32, 55, 44, 114, 101, 116, 114, 121, 44, 101, 110, 100]⟩ : ByteArray)
def leaveL (tv sz lc vl at' : Int) : List Ins3 := [⟨21, at' + 7, 0⟩, ⟨2, lc, 0⟩, ⟨4, (tv + 1), 0⟩, ⟨13, 0, 0⟩, ⟨20, at' + 6, 0⟩, ⟨19, at' + 7, 0⟩, ⟨26, 0, 0⟩, ⟨22, 0, 0⟩]
theorem leave_pcs : pcs leaveT 44 = [(⟨#[97, 116, 111, 109, 105, 99, 32, 55]⟩ : ByteArray), (⟨#[108, 111, 99, 97, 108, 32, 108]⟩ : ByteArray), (⟨#[103, 101, 116, 32, 102]⟩ : ByteArray), (⟨#[108, 101, 115, 115]⟩ : ByteArray), (⟨#[122, 101, 114, 111, 32, 54]⟩ : ByteArray), (⟨#[106, 117, 109, 112, 32, 55]⟩ : ByteArray), (⟨#[114, 101, 116, 114, 121]⟩ : ByteArray), (⟨#[101, 110, 100]⟩ : ByteArray)] := by decide +kernel
theorem leave_blk (tv sz lc vl at' : Int) (h : Rg tv sz lc vl at') (w : World) : Calls Try.prog 85 #[.agg #[.int .i64 tv, .int .i64 sz, .int .i64 lc, .int .u64 vl], .int .i64 at', .string leaveT] w (BPost w (leaveL tv sz lc vl at') at') := by
  have e : (pcs leaveT 44).map (Fq tv sz lc vl at') = leaveL tv sz lc vl at' := by rw [leave_pcs]; kernel_rfl
  rw [← e]
  refine block_any tv sz lc vl at' leaveT (by decide +kernel) (by decide +kernel) ⟨h.2.2.2.2.1, by have := h.2.2.2.2.2; omega⟩ (Fq tv sz lc vl at') (by rw [leave_pcs]; decide +kernel) ?_ ?_ w
  · intro p hp
    rw [leave_pcs] at hp
    simp only [List.mem_cons, List.not_mem_nil, or_false] at hp
    rcases hp with rfl | rfl | rfl | rfl | rfl | rfl | rfl | rfl
    · exact ok_29 tv sz lc vl at' h
    · exact ok_30 tv sz lc vl at' h
    · exact ok_7 tv sz lc vl at' h
    · exact ok_10 tv sz lc vl at' h
    · exact ok_4 tv sz lc vl at' h
    · exact ok_31 tv sz lc vl at' h
    · exact ok_5 tv sz lc vl at' h
    · exact ok_17 tv sz lc vl at' h
  · intro p hp w
    rw [leave_pcs] at hp
    simp only [List.mem_cons, List.not_mem_nil, or_false] at hp
    rcases hp with rfl | rfl | rfl | rfl | rfl | rfl | rfl | rfl
    · exact pi_29 tv sz lc vl at' h w
    · exact pi_30 tv sz lc vl at' h w
    · exact pi_7 tv sz lc vl at' h w
    · exact pi_10 tv sz lc vl at' h w
    · exact pi_4 tv sz lc vl at' h w
    · exact pi_31 tv sz lc vl at' h w
    · exact pi_5 tv sz lc vl at' h w
    · exact pi_17 tv sz lc vl at' h w
end Go.Proofs.Ytmmfadakhnagpaa
