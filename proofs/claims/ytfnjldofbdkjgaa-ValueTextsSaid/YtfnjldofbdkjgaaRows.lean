/-
  No cell of these rows narrows 'for every input' (looked for: loops, veiled, ifaces, maps, wideKeys, modest, calm, conditions, laid).
  DERIVED. THE GIVEN ROWS OF THIS SEAT. 9 by the template 'for every input the law returns true; each argument reads behind the call as it read before'; 0 by the template 'total and deterministic' (their statements: YtfnjldofbdkjgaaTotals.lean).
  GIVEN WITH THE SEED: the statements are not yours to turn. If you find one false, say at which input.
  Laid BY PROGRAM, IN A SANDBOX (cutbox-rows.mjs): the forced cells as the released guide's own fill.sh prints them over the translation ea3f71cc2ff68210… (all of the seat's roots in one cut). By AI agents, Wed Nov 11 2026. No macro, syntax, notation, axiom, sorry.
-/
import Derived.Test.YtfnjldofbdkjgaaChecked
import GoSem.Claim
import GoSem.ClaimJoined
import GoSem.ClaimMapViews
import Derived.JoinedTies
import Derived.KernelRfl
namespace Go.Proofs.Ytfnjldofbdkjgaa
/- THE CELL 'sum', in the pinned program and in every row, IS THE sha256 OF THE DUMP (.gsa) THAT YtfnjldofbdkjgaaProg.lean LOADS. Nothing in Lean hashes anything: it is a label: what it is worth is what the hold of that sum in a sandbox is worth. -/
noncomputable def Try.pinned : Pinned := { name := "ytfnjldofbdkjgaa", sum := "ea3f71cc2ff68210c3d4bd8948c3d39730b9b40a4c0adab4e3d0e09afb644569", checked := Try.checked }
namespace Rows
def none {H : Type} : Left H := { results := [], args := [] }

/-- 'rowlocklaw01.ValueFloats': WHATEVER THE INPUT: true; the input reads as it did. -/
def valueFloatsSpec : ChangeSpec := { name := "valueFloats", fn := fun _ => fun
  | [d] => { results := [.lit (.bool true)], args := [d] }
  | _ => none }
def valueFloatsRow : OpenClaim := { program := "ytfnjldofbdkjgaa", sum := "ea3f71cc2ff68210c3d4bd8948c3d39730b9b40a4c0adab4e3d0e09afb644569", func := "rowlock/rowlocklaw01.ValueFloats", spec := "valueFloats", inPlace := ["math.Float64bits", "math.Float64frombits", "math.archTrunc"], unfollowed := true, recurses := true, apart := false }
def ValueFloatsSaid : Prop := valueFloatsRow.holds Try.pinned (OpenSpec.ofChange valueFloatsSpec)

/-- ITS FALSE NEIGHBOUR: 'it returns false'. Refute it at one input. -/
def valueFloatsWrong : ChangeSpec := { name := "valueFloats", fn := fun _ => fun
  | [d] => { results := [.lit (.bool false)], args := [d] }
  | _ => none }
def ValueFloatsWrongFalsely : Prop := valueFloatsRow.holds Try.pinned (OpenSpec.ofChange valueFloatsWrong)

/-- 'rowlocklaw01.ValueForms': WHATEVER THE INPUT: true; the input reads as it did. -/
def valueFormsSpec : ChangeSpec := { name := "valueForms", fn := fun _ => fun
  | [d] => { results := [.lit (.bool true)], args := [d] }
  | _ => none }
def valueFormsRow : OpenClaim := { program := "ytfnjldofbdkjgaa", sum := "ea3f71cc2ff68210c3d4bd8948c3d39730b9b40a4c0adab4e3d0e09afb644569", func := "rowlock/rowlocklaw01.ValueForms", spec := "valueForms", inPlace := ["math.Float64frombits", "math.Float64bits", "math.archTrunc"], unfollowed := true, recurses := true, apart := false }
def ValueFormsSaid : Prop := valueFormsRow.holds Try.pinned (OpenSpec.ofChange valueFormsSpec)

/-- ITS FALSE NEIGHBOUR: 'it returns false'. Refute it at one input. -/
def valueFormsWrong : ChangeSpec := { name := "valueForms", fn := fun _ => fun
  | [d] => { results := [.lit (.bool false)], args := [d] }
  | _ => none }
def ValueFormsWrongFalsely : Prop := valueFormsRow.holds Try.pinned (OpenSpec.ofChange valueFormsWrong)

/-- 'rowlocklaw01.ValueOrder': WHATEVER THE INPUT: true; the input reads as it did. -/
def valueOrderSpec : ChangeSpec := { name := "valueOrder", fn := fun _ => fun
  | [d1, d2, d3] => { results := [.lit (.bool true)], args := [d1, d2, d3] }
  | _ => none }
def valueOrderRow : OpenClaim := { program := "ytfnjldofbdkjgaa", sum := "ea3f71cc2ff68210c3d4bd8948c3d39730b9b40a4c0adab4e3d0e09afb644569", func := "rowlock/rowlocklaw01.ValueOrder", spec := "valueOrder", inPlace := ["math.Float64bits", "math.Float64frombits", "math.archTrunc"], unfollowed := true, recurses := true, apart := false }
def ValueOrderSaid : Prop := valueOrderRow.holds Try.pinned (OpenSpec.ofChange valueOrderSpec)

/-- ITS FALSE NEIGHBOUR: 'it returns false'. Refute it at one input. -/
def valueOrderWrong : ChangeSpec := { name := "valueOrder", fn := fun _ => fun
  | [d1, d2, d3] => { results := [.lit (.bool false)], args := [d1, d2, d3] }
  | _ => none }
def ValueOrderWrongFalsely : Prop := valueOrderRow.holds Try.pinned (OpenSpec.ofChange valueOrderWrong)

/-- 'rowlocklaw01.ValueTurns': WHATEVER THE INPUT: true; the input reads as it did. -/
def valueTurnsSpec : ChangeSpec := { name := "valueTurns", fn := fun _ => fun
  | [d1, d2, d3] => { results := [.lit (.bool true)], args := [d1, d2, d3] }
  | _ => none }
def valueTurnsRow : OpenClaim := { program := "ytfnjldofbdkjgaa", sum := "ea3f71cc2ff68210c3d4bd8948c3d39730b9b40a4c0adab4e3d0e09afb644569", func := "rowlock/rowlocklaw01.ValueTurns", spec := "valueTurns", inPlace := ["math.Float64bits", "math.Float64frombits", "math.archTrunc"], unfollowed := true, recurses := true, apart := false }
def ValueTurnsSaid : Prop := valueTurnsRow.holds Try.pinned (OpenSpec.ofChange valueTurnsSpec)

/-- ITS FALSE NEIGHBOUR: 'it returns false'. Refute it at one input. -/
def valueTurnsWrong : ChangeSpec := { name := "valueTurns", fn := fun _ => fun
  | [d1, d2, d3] => { results := [.lit (.bool false)], args := [d1, d2, d3] }
  | _ => none }
def ValueTurnsWrongFalsely : Prop := valueTurnsRow.holds Try.pinned (OpenSpec.ofChange valueTurnsWrong)

/-- 'rowlocklaw01.ValueReckons': WHATEVER THE INPUT: true; the input reads as it did. -/
def valueReckonsSpec : ChangeSpec := { name := "valueReckons", fn := fun _ => fun
  | [d1, d2] => { results := [.lit (.bool true)], args := [d1, d2] }
  | _ => none }
def valueReckonsRow : OpenClaim := { program := "ytfnjldofbdkjgaa", sum := "ea3f71cc2ff68210c3d4bd8948c3d39730b9b40a4c0adab4e3d0e09afb644569", func := "rowlock/rowlocklaw01.ValueReckons", spec := "valueReckons", inPlace := ["math.Float64bits", "math.Float64frombits", "math.archTrunc"], unfollowed := true, recurses := true, apart := false }
def ValueReckonsSaid : Prop := valueReckonsRow.holds Try.pinned (OpenSpec.ofChange valueReckonsSpec)

/-- ITS FALSE NEIGHBOUR: 'it returns false'. Refute it at one input. -/
def valueReckonsWrong : ChangeSpec := { name := "valueReckons", fn := fun _ => fun
  | [d1, d2] => { results := [.lit (.bool false)], args := [d1, d2] }
  | _ => none }
def ValueReckonsWrongFalsely : Prop := valueReckonsRow.holds Try.pinned (OpenSpec.ofChange valueReckonsWrong)

/-- 'rowlocklaw01.ValueTexts': WHATEVER THE INPUT: true; the input reads as it did. -/
def valueTextsSpec : ChangeSpec := { name := "valueTexts", fn := fun _ => fun
  | [d1, d2, d3] => { results := [.lit (.bool true)], args := [d1, d2, d3] }
  | _ => none }
def valueTextsRow : OpenClaim := { program := "ytfnjldofbdkjgaa", sum := "ea3f71cc2ff68210c3d4bd8948c3d39730b9b40a4c0adab4e3d0e09afb644569", func := "rowlock/rowlocklaw01.ValueTexts", spec := "valueTexts", inPlace := ["math.Float64bits", "math.Float64frombits", "math.archTrunc"], unfollowed := true, recurses := true, apart := false }
def ValueTextsSaid : Prop := valueTextsRow.holds Try.pinned (OpenSpec.ofChange valueTextsSpec)

/-- ITS FALSE NEIGHBOUR: 'it returns false'. Refute it at one input. -/
def valueTextsWrong : ChangeSpec := { name := "valueTexts", fn := fun _ => fun
  | [d1, d2, d3] => { results := [.lit (.bool false)], args := [d1, d2, d3] }
  | _ => none }
def ValueTextsWrongFalsely : Prop := valueTextsRow.holds Try.pinned (OpenSpec.ofChange valueTextsWrong)

/-- 'rowlocklaw01.ValueAsks': WHATEVER THE INPUT: true; the input reads as it did. -/
def valueAsksSpec : ChangeSpec := { name := "valueAsks", fn := fun _ => fun
  | [d1, d2] => { results := [.lit (.bool true)], args := [d1, d2] }
  | _ => none }
def valueAsksRow : OpenClaim := { program := "ytfnjldofbdkjgaa", sum := "ea3f71cc2ff68210c3d4bd8948c3d39730b9b40a4c0adab4e3d0e09afb644569", func := "rowlock/rowlocklaw01.ValueAsks", spec := "valueAsks", inPlace := ["math.Float64bits", "math.Float64frombits", "math.archTrunc"], unfollowed := true, recurses := true, apart := false }
def ValueAsksSaid : Prop := valueAsksRow.holds Try.pinned (OpenSpec.ofChange valueAsksSpec)

/-- ITS FALSE NEIGHBOUR: 'it returns false'. Refute it at one input. -/
def valueAsksWrong : ChangeSpec := { name := "valueAsks", fn := fun _ => fun
  | [d1, d2] => { results := [.lit (.bool false)], args := [d1, d2] }
  | _ => none }
def ValueAsksWrongFalsely : Prop := valueAsksRow.holds Try.pinned (OpenSpec.ofChange valueAsksWrong)

/-- 'rowlocklaw01.ValueSigns': WHATEVER THE INPUT: true; the input reads as it did. -/
def valueSignsSpec : ChangeSpec := { name := "valueSigns", fn := fun _ => fun
  | [d1, d2] => { results := [.lit (.bool true)], args := [d1, d2] }
  | _ => none }
def valueSignsRow : OpenClaim := { program := "ytfnjldofbdkjgaa", sum := "ea3f71cc2ff68210c3d4bd8948c3d39730b9b40a4c0adab4e3d0e09afb644569", func := "rowlock/rowlocklaw01.ValueSigns", spec := "valueSigns", inPlace := ["math.Float64bits", "math.Float64frombits", "math.archTrunc"], unfollowed := true, recurses := true, apart := false }
def ValueSignsSaid : Prop := valueSignsRow.holds Try.pinned (OpenSpec.ofChange valueSignsSpec)

/-- ITS FALSE NEIGHBOUR: 'it returns false'. Refute it at one input. -/
def valueSignsWrong : ChangeSpec := { name := "valueSigns", fn := fun _ => fun
  | [d1, d2] => { results := [.lit (.bool false)], args := [d1, d2] }
  | _ => none }
def ValueSignsWrongFalsely : Prop := valueSignsRow.holds Try.pinned (OpenSpec.ofChange valueSignsWrong)

/-- 'rowlocktop.TopSorted': WHATEVER THE INPUT: true; the input reads as it did. -/
def topSortedSpec : ChangeSpec := { name := "topSorted", fn := fun _ => fun
  | [d] => { results := [.lit (.bool true)], args := [d] }
  | _ => none }
def topSortedRow : OpenClaim := { program := "ytfnjldofbdkjgaa", sum := "ea3f71cc2ff68210c3d4bd8948c3d39730b9b40a4c0adab4e3d0e09afb644569", func := "rowlock/rowlocktop.TopSorted", spec := "topSorted", apart := false }
def TopSortedSaid : Prop := topSortedRow.holds Try.pinned (OpenSpec.ofChange topSortedSpec)

/-- ITS FALSE NEIGHBOUR: 'it returns false'. Refute it at one input. -/
def topSortedWrong : ChangeSpec := { name := "topSorted", fn := fun _ => fun
  | [d] => { results := [.lit (.bool false)], args := [d] }
  | _ => none }
def TopSortedWrongFalsely : Prop := topSortedRow.holds Try.pinned (OpenSpec.ofChange topSortedWrong)

/- THE SECOND FORM. 'bulk': how many values and letters a reading holds, each counted each time it is reached (what is shared counts as often as it is met; a slice's spare places count too). A statement '..UptoSaid' is the law's where the arguments, and the package variables that the reading takes, are together of bulk at most 1048576: NARROWER than '..Said'. Prove '..Said' where nothing that the law and all that it calls make is longer than what came in: it says more and counts as full. Else prove '..UptoSaid'. A law counts once. -/
mutual
def uptoBulk {H : Type} : DataW H → Nat
  | .lit (.string bytes) => bytes.length + 1
  | .lit _ => 1
  | .nil => 1
  | .ptr d => uptoBulk d + 1
  | .slice elems spare => uptoBulkAll elems + uptoBulkAll spare + 1
  | .agg parts => uptoBulkAll parts + 1
  | .iface _ d => uptoBulk d + 1
  | .map entries => uptoBulkEntries entries + 1
  | .held _ => 1
def uptoBulkAll {H : Type} : List (DataW H) → Nat
  | [] => 0
  | d :: r => uptoBulk d + uptoBulkAll r
def uptoBulkEntries {H : Type} : List (Lit × DataW H) → Nat
  | [] => 0
  | x :: r => uptoBulkEntry x + uptoBulkEntries r
def uptoBulkEntry {H : Type} : Lit × DataW H → Nat
  | (.string bytes, d) => bytes.length + uptoBulk d + 1
  | (_, d) => uptoBulk d + 1
 end
def uptoSmall : (H : Type) → List (DataW H) → Bool := fun _ ds => decide (uptoBulkAll ds ≤ 1048576)
def OpenSpec.upto (s : _root_.Go.ChangeSpec) : _root_.Go.OpenSpec := { _root_.Go.OpenSpec.ofChange s with cond := some uptoSmall }

/-- 'rowlocklaw01.ValueFloats', WHERE WHAT IT READS IS OF BULK AT MOST 1048576: true; the input reads as it did. -/
def valueFloatsUptoRow : OpenClaim := { program := "ytfnjldofbdkjgaa", sum := "ea3f71cc2ff68210c3d4bd8948c3d39730b9b40a4c0adab4e3d0e09afb644569", func := "rowlock/rowlocklaw01.ValueFloats", spec := "valueFloats", inPlace := ["math.Float64bits", "math.Float64frombits", "math.archTrunc"], unfollowed := true, recurses := true, apart := false, narrowed := true }
def ValueFloatsUptoSaid : Prop := valueFloatsUptoRow.holds Try.pinned (OpenSpec.upto valueFloatsSpec)

/-- 'rowlocklaw01.ValueForms', WHERE WHAT IT READS IS OF BULK AT MOST 1048576: true; the input reads as it did. -/
def valueFormsUptoRow : OpenClaim := { program := "ytfnjldofbdkjgaa", sum := "ea3f71cc2ff68210c3d4bd8948c3d39730b9b40a4c0adab4e3d0e09afb644569", func := "rowlock/rowlocklaw01.ValueForms", spec := "valueForms", inPlace := ["math.Float64frombits", "math.Float64bits", "math.archTrunc"], unfollowed := true, recurses := true, apart := false, narrowed := true }
def ValueFormsUptoSaid : Prop := valueFormsUptoRow.holds Try.pinned (OpenSpec.upto valueFormsSpec)

/-- 'rowlocklaw01.ValueOrder', WHERE WHAT IT READS IS OF BULK AT MOST 1048576: true; the input reads as it did. -/
def valueOrderUptoRow : OpenClaim := { program := "ytfnjldofbdkjgaa", sum := "ea3f71cc2ff68210c3d4bd8948c3d39730b9b40a4c0adab4e3d0e09afb644569", func := "rowlock/rowlocklaw01.ValueOrder", spec := "valueOrder", inPlace := ["math.Float64bits", "math.Float64frombits", "math.archTrunc"], unfollowed := true, recurses := true, apart := false, narrowed := true }
def ValueOrderUptoSaid : Prop := valueOrderUptoRow.holds Try.pinned (OpenSpec.upto valueOrderSpec)

/-- 'rowlocklaw01.ValueTurns', WHERE WHAT IT READS IS OF BULK AT MOST 1048576: true; the input reads as it did. -/
def valueTurnsUptoRow : OpenClaim := { program := "ytfnjldofbdkjgaa", sum := "ea3f71cc2ff68210c3d4bd8948c3d39730b9b40a4c0adab4e3d0e09afb644569", func := "rowlock/rowlocklaw01.ValueTurns", spec := "valueTurns", inPlace := ["math.Float64bits", "math.Float64frombits", "math.archTrunc"], unfollowed := true, recurses := true, apart := false, narrowed := true }
def ValueTurnsUptoSaid : Prop := valueTurnsUptoRow.holds Try.pinned (OpenSpec.upto valueTurnsSpec)

/-- 'rowlocklaw01.ValueReckons', WHERE WHAT IT READS IS OF BULK AT MOST 1048576: true; the input reads as it did. -/
def valueReckonsUptoRow : OpenClaim := { program := "ytfnjldofbdkjgaa", sum := "ea3f71cc2ff68210c3d4bd8948c3d39730b9b40a4c0adab4e3d0e09afb644569", func := "rowlock/rowlocklaw01.ValueReckons", spec := "valueReckons", inPlace := ["math.Float64bits", "math.Float64frombits", "math.archTrunc"], unfollowed := true, recurses := true, apart := false, narrowed := true }
def ValueReckonsUptoSaid : Prop := valueReckonsUptoRow.holds Try.pinned (OpenSpec.upto valueReckonsSpec)

/-- 'rowlocklaw01.ValueTexts', WHERE WHAT IT READS IS OF BULK AT MOST 1048576: true; the input reads as it did. -/
def valueTextsUptoRow : OpenClaim := { program := "ytfnjldofbdkjgaa", sum := "ea3f71cc2ff68210c3d4bd8948c3d39730b9b40a4c0adab4e3d0e09afb644569", func := "rowlock/rowlocklaw01.ValueTexts", spec := "valueTexts", inPlace := ["math.Float64bits", "math.Float64frombits", "math.archTrunc"], unfollowed := true, recurses := true, apart := false, narrowed := true }
def ValueTextsUptoSaid : Prop := valueTextsUptoRow.holds Try.pinned (OpenSpec.upto valueTextsSpec)

/-- 'rowlocklaw01.ValueAsks', WHERE WHAT IT READS IS OF BULK AT MOST 1048576: true; the input reads as it did. -/
def valueAsksUptoRow : OpenClaim := { program := "ytfnjldofbdkjgaa", sum := "ea3f71cc2ff68210c3d4bd8948c3d39730b9b40a4c0adab4e3d0e09afb644569", func := "rowlock/rowlocklaw01.ValueAsks", spec := "valueAsks", inPlace := ["math.Float64bits", "math.Float64frombits", "math.archTrunc"], unfollowed := true, recurses := true, apart := false, narrowed := true }
def ValueAsksUptoSaid : Prop := valueAsksUptoRow.holds Try.pinned (OpenSpec.upto valueAsksSpec)

/-- 'rowlocklaw01.ValueSigns', WHERE WHAT IT READS IS OF BULK AT MOST 1048576: true; the input reads as it did. -/
def valueSignsUptoRow : OpenClaim := { program := "ytfnjldofbdkjgaa", sum := "ea3f71cc2ff68210c3d4bd8948c3d39730b9b40a4c0adab4e3d0e09afb644569", func := "rowlock/rowlocklaw01.ValueSigns", spec := "valueSigns", inPlace := ["math.Float64bits", "math.Float64frombits", "math.archTrunc"], unfollowed := true, recurses := true, apart := false, narrowed := true }
def ValueSignsUptoSaid : Prop := valueSignsUptoRow.holds Try.pinned (OpenSpec.upto valueSignsSpec)

/-- 'rowlocktop.TopSorted', WHERE WHAT IT READS IS OF BULK AT MOST 1048576: true; the input reads as it did. -/
def topSortedUptoRow : OpenClaim := { program := "ytfnjldofbdkjgaa", sum := "ea3f71cc2ff68210c3d4bd8948c3d39730b9b40a4c0adab4e3d0e09afb644569", func := "rowlock/rowlocktop.TopSorted", spec := "topSorted", apart := false, narrowed := true }
def TopSortedUptoSaid : Prop := topSortedUptoRow.holds Try.pinned (OpenSpec.upto topSortedSpec)

end Rows
end Go.Proofs.Ytfnjldofbdkjgaa
