/-
  No cell of these rows narrows 'for every input' (looked for: loops, veiled, ifaces, maps, wideKeys, modest, calm, conditions, laid).
  DERIVED. THE GIVEN ROWS OF THIS SEAT. 7 by the template 'for every input the law returns true; each argument reads behind the call as it read before'; 0 by the template 'total and deterministic' (their statements: YtlgpjcdlomhlcaaTotals.lean).
  GIVEN WITH THE SEED: the statements are not yours to turn. If you find one false, say at which input.
  Laid BY PROGRAM, IN A SANDBOX (cutbox-rows.mjs): the forced cells as the released guide's own fill.sh prints them over the translation d89c1bd273a44d18… (all of the seat's roots in one cut). By AI agents, Wed Nov 11 2026. No macro, syntax, notation, axiom, sorry.
-/
import Derived.Test.YtlgpjcdlomhlcaaChecked
import GoSem.Claim
import GoSem.ClaimJoined
import GoSem.ClaimMapViews
import Derived.JoinedTies
import Derived.KernelRfl
namespace Go.Proofs.Ytlgpjcdlomhlcaa
/- THE CELL 'sum', in the pinned program and in every row, IS THE sha256 OF THE DUMP (.gsa) THAT YtlgpjcdlomhlcaaProg.lean LOADS. Nothing in Lean hashes anything: it is a label: what it is worth is what the hold of that sum in a sandbox is worth. -/
noncomputable def Try.pinned : Pinned := { name := "ytlgpjcdlomhlcaa", sum := "d89c1bd273a44d180e8749b2006bb31518aed57c3bb6a642825e0afaa9643c4f", checked := Try.checked }
namespace Rows
def none {H : Type} : Left H := { results := [], args := [] }

/-- 'rowlocklaw17.SpecSteps': WHATEVER THE INPUT: true; the input reads as it did. -/
def specStepsSpec : ChangeSpec := { name := "specSteps", fn := fun _ => fun
  | [d1, d2] => { results := [.lit (.bool true)], args := [d1, d2] }
  | _ => none }
def specStepsRow : OpenClaim := { program := "ytlgpjcdlomhlcaa", sum := "d89c1bd273a44d180e8749b2006bb31518aed57c3bb6a642825e0afaa9643c4f", func := "rowlock/rowlocklaw17.SpecSteps", spec := "specSteps", inPlace := ["math.Float64frombits", "math.Float64bits", "math.archTrunc"], unfollowed := true, recurses := true, apart := false }
def SpecStepsSaid : Prop := specStepsRow.holds Try.pinned (OpenSpec.ofChange specStepsSpec)

/-- ITS FALSE NEIGHBOUR: 'it returns false'. Refute it at one input. -/
def specStepsWrong : ChangeSpec := { name := "specSteps", fn := fun _ => fun
  | [d1, d2] => { results := [.lit (.bool false)], args := [d1, d2] }
  | _ => none }
def SpecStepsWrongFalsely : Prop := specStepsRow.holds Try.pinned (OpenSpec.ofChange specStepsWrong)

/-- 'rowlocklaw17.SpecLeft': WHATEVER THE INPUT: true; the input reads as it did. -/
def specLeftSpec : ChangeSpec := { name := "specLeft", fn := fun _ => fun
  | [d1, d2, d3] => { results := [.lit (.bool true)], args := [d1, d2, d3] }
  | _ => none }
def specLeftRow : OpenClaim := { program := "ytlgpjcdlomhlcaa", sum := "d89c1bd273a44d180e8749b2006bb31518aed57c3bb6a642825e0afaa9643c4f", func := "rowlock/rowlocklaw17.SpecLeft", spec := "specLeft", inPlace := ["math.Float64frombits", "math.Float64bits", "math.archTrunc"], unfollowed := true, recurses := true, apart := false }
def SpecLeftSaid : Prop := specLeftRow.holds Try.pinned (OpenSpec.ofChange specLeftSpec)

/-- ITS FALSE NEIGHBOUR: 'it returns false'. Refute it at one input. -/
def specLeftWrong : ChangeSpec := { name := "specLeft", fn := fun _ => fun
  | [d1, d2, d3] => { results := [.lit (.bool false)], args := [d1, d2, d3] }
  | _ => none }
def SpecLeftWrongFalsely : Prop := specLeftRow.holds Try.pinned (OpenSpec.ofChange specLeftWrong)

/-- 'rowlocklaw17.SpecHangs': WHATEVER THE INPUT: true; the input reads as it did. -/
def specHangsSpec : ChangeSpec := { name := "specHangs", fn := fun _ => fun
  | [d1, d2, d3] => { results := [.lit (.bool true)], args := [d1, d2, d3] }
  | _ => none }
def specHangsRow : OpenClaim := { program := "ytlgpjcdlomhlcaa", sum := "d89c1bd273a44d180e8749b2006bb31518aed57c3bb6a642825e0afaa9643c4f", func := "rowlock/rowlocklaw17.SpecHangs", spec := "specHangs", inPlace := ["math.Float64frombits", "math.archTrunc", "math.Float64bits"], unfollowed := true, recurses := true, apart := false }
def SpecHangsSaid : Prop := specHangsRow.holds Try.pinned (OpenSpec.ofChange specHangsSpec)

/-- ITS FALSE NEIGHBOUR: 'it returns false'. Refute it at one input. -/
def specHangsWrong : ChangeSpec := { name := "specHangs", fn := fun _ => fun
  | [d1, d2, d3] => { results := [.lit (.bool false)], args := [d1, d2, d3] }
  | _ => none }
def SpecHangsWrongFalsely : Prop := specHangsRow.holds Try.pinned (OpenSpec.ofChange specHangsWrong)

/-- 'rowlocklaw17.SpecSafe': WHATEVER THE INPUT: true; the input reads as it did. -/
def specSafeSpec : ChangeSpec := { name := "specSafe", fn := fun _ => fun
  | [d1, d2] => { results := [.lit (.bool true)], args := [d1, d2] }
  | _ => none }
def specSafeRow : OpenClaim := { program := "ytlgpjcdlomhlcaa", sum := "d89c1bd273a44d180e8749b2006bb31518aed57c3bb6a642825e0afaa9643c4f", func := "rowlock/rowlocklaw17.SpecSafe", spec := "specSafe", inPlace := ["math.Float64frombits", "math.archTrunc", "math.Float64bits"], unfollowed := true, recurses := true, apart := false }
def SpecSafeSaid : Prop := specSafeRow.holds Try.pinned (OpenSpec.ofChange specSafeSpec)

/-- ITS FALSE NEIGHBOUR: 'it returns false'. Refute it at one input. -/
def specSafeWrong : ChangeSpec := { name := "specSafe", fn := fun _ => fun
  | [d1, d2] => { results := [.lit (.bool false)], args := [d1, d2] }
  | _ => none }
def SpecSafeWrongFalsely : Prop := specSafeRow.holds Try.pinned (OpenSpec.ofChange specSafeWrong)

/-- 'rowlocklaw17.SpecStack': WHATEVER THE INPUT: true; the input reads as it did. -/
def specStackSpec : ChangeSpec := { name := "specStack", fn := fun _ => fun
  | [d1, d2] => { results := [.lit (.bool true)], args := [d1, d2] }
  | _ => none }
def specStackRow : OpenClaim := { program := "ytlgpjcdlomhlcaa", sum := "d89c1bd273a44d180e8749b2006bb31518aed57c3bb6a642825e0afaa9643c4f", func := "rowlock/rowlocklaw17.SpecStack", spec := "specStack", inPlace := ["math.Float64frombits", "math.archTrunc", "math.Float64bits"], unfollowed := true, recurses := true, apart := false }
def SpecStackSaid : Prop := specStackRow.holds Try.pinned (OpenSpec.ofChange specStackSpec)

/-- ITS FALSE NEIGHBOUR: 'it returns false'. Refute it at one input. -/
def specStackWrong : ChangeSpec := { name := "specStack", fn := fun _ => fun
  | [d1, d2] => { results := [.lit (.bool false)], args := [d1, d2] }
  | _ => none }
def SpecStackWrongFalsely : Prop := specStackRow.holds Try.pinned (OpenSpec.ofChange specStackWrong)

/-- 'rowlocktop.TopFuel': WHATEVER THE INPUT: true; the input reads as it did. -/
def topFuelSpec : ChangeSpec := { name := "topFuel", fn := fun _ => fun
  | [d1, d2, d3] => { results := [.lit (.bool true)], args := [d1, d2, d3] }
  | _ => none }
def topFuelRow : OpenClaim := { program := "ytlgpjcdlomhlcaa", sum := "d89c1bd273a44d180e8749b2006bb31518aed57c3bb6a642825e0afaa9643c4f", func := "rowlock/rowlocktop.TopFuel", spec := "topFuel", inPlace := ["math.Float64frombits", "math.archTrunc", "math.Float64bits"], unfollowed := true, recurses := true, apart := false }
def TopFuelSaid : Prop := topFuelRow.holds Try.pinned (OpenSpec.ofChange topFuelSpec)

/-- ITS FALSE NEIGHBOUR: 'it returns false'. Refute it at one input. -/
def topFuelWrong : ChangeSpec := { name := "topFuel", fn := fun _ => fun
  | [d1, d2, d3] => { results := [.lit (.bool false)], args := [d1, d2, d3] }
  | _ => none }
def TopFuelWrongFalsely : Prop := topFuelRow.holds Try.pinned (OpenSpec.ofChange topFuelWrong)

/-- 'rowlocktop.TopFirst': WHATEVER THE INPUT: true; the input reads as it did. -/
def topFirstSpec : ChangeSpec := { name := "topFirst", fn := fun _ => fun
  | [d1, d2] => { results := [.lit (.bool true)], args := [d1, d2] }
  | _ => none }
def topFirstRow : OpenClaim := { program := "ytlgpjcdlomhlcaa", sum := "d89c1bd273a44d180e8749b2006bb31518aed57c3bb6a642825e0afaa9643c4f", func := "rowlock/rowlocktop.TopFirst", spec := "topFirst", inPlace := ["math.Float64bits", "math.Float64frombits", "math.archTrunc"], unfollowed := true, recurses := true, apart := false }
def TopFirstSaid : Prop := topFirstRow.holds Try.pinned (OpenSpec.ofChange topFirstSpec)

/-- ITS FALSE NEIGHBOUR: 'it returns false'. Refute it at one input. -/
def topFirstWrong : ChangeSpec := { name := "topFirst", fn := fun _ => fun
  | [d1, d2] => { results := [.lit (.bool false)], args := [d1, d2] }
  | _ => none }
def TopFirstWrongFalsely : Prop := topFirstRow.holds Try.pinned (OpenSpec.ofChange topFirstWrong)

/- THE SECOND FORM. 'bulk': how many values and letters a reading holds, each counted each time it is reached (what is shared counts as often as it is met; a slice's spare places count too). A statement '..UptoSaid' is the law's where the arguments, and the package variables that the reading takes, are together of bulk at most 1048576: NARROWER than '..Said'. Prove '..Said' where nothing that the law and all that it calls make is longer than what came in: it says more and counts as full. Else prove '..UptoSaid'. A law counts once. -/
mutual
def uptoBulk {H : Type} : DataW H → Nat
  | .lit (.string bytes) => bytes.length + 1
  | .lit _ => 1
  | .nil => 1
  | .ptr d => uptoBulk d + 1
  | .slice elems spare => uptoBulkAll elems + uptoBulkAll spare + 1
  | .agg parts => uptoBulkAll parts + 1
  | .iface _ d => uptoBulk d + 1
  | .map entries => uptoBulkEntries entries + 1
  | .held _ => 1
def uptoBulkAll {H : Type} : List (DataW H) → Nat
  | [] => 0
  | d :: r => uptoBulk d + uptoBulkAll r
def uptoBulkEntries {H : Type} : List (Lit × DataW H) → Nat
  | [] => 0
  | x :: r => uptoBulkEntry x + uptoBulkEntries r
def uptoBulkEntry {H : Type} : Lit × DataW H → Nat
  | (.string bytes, d) => bytes.length + uptoBulk d + 1
  | (_, d) => uptoBulk d + 1
 end
def uptoSmall : (H : Type) → List (DataW H) → Bool := fun _ ds => decide (uptoBulkAll ds ≤ 1048576)
def OpenSpec.upto (s : _root_.Go.ChangeSpec) : _root_.Go.OpenSpec := { _root_.Go.OpenSpec.ofChange s with cond := some uptoSmall }

/-- 'rowlocklaw17.SpecSteps', WHERE WHAT IT READS IS OF BULK AT MOST 1048576: true; the input reads as it did. -/
def specStepsUptoRow : OpenClaim := { program := "ytlgpjcdlomhlcaa", sum := "d89c1bd273a44d180e8749b2006bb31518aed57c3bb6a642825e0afaa9643c4f", func := "rowlock/rowlocklaw17.SpecSteps", spec := "specSteps", inPlace := ["math.Float64frombits", "math.Float64bits", "math.archTrunc"], unfollowed := true, recurses := true, apart := false, narrowed := true }
def SpecStepsUptoSaid : Prop := specStepsUptoRow.holds Try.pinned (OpenSpec.upto specStepsSpec)

/-- 'rowlocklaw17.SpecLeft', WHERE WHAT IT READS IS OF BULK AT MOST 1048576: true; the input reads as it did. -/
def specLeftUptoRow : OpenClaim := { program := "ytlgpjcdlomhlcaa", sum := "d89c1bd273a44d180e8749b2006bb31518aed57c3bb6a642825e0afaa9643c4f", func := "rowlock/rowlocklaw17.SpecLeft", spec := "specLeft", inPlace := ["math.Float64frombits", "math.Float64bits", "math.archTrunc"], unfollowed := true, recurses := true, apart := false, narrowed := true }
def SpecLeftUptoSaid : Prop := specLeftUptoRow.holds Try.pinned (OpenSpec.upto specLeftSpec)

/-- 'rowlocklaw17.SpecHangs', WHERE WHAT IT READS IS OF BULK AT MOST 1048576: true; the input reads as it did. -/
def specHangsUptoRow : OpenClaim := { program := "ytlgpjcdlomhlcaa", sum := "d89c1bd273a44d180e8749b2006bb31518aed57c3bb6a642825e0afaa9643c4f", func := "rowlock/rowlocklaw17.SpecHangs", spec := "specHangs", inPlace := ["math.Float64frombits", "math.archTrunc", "math.Float64bits"], unfollowed := true, recurses := true, apart := false, narrowed := true }
def SpecHangsUptoSaid : Prop := specHangsUptoRow.holds Try.pinned (OpenSpec.upto specHangsSpec)

/-- 'rowlocklaw17.SpecSafe', WHERE WHAT IT READS IS OF BULK AT MOST 1048576: true; the input reads as it did. -/
def specSafeUptoRow : OpenClaim := { program := "ytlgpjcdlomhlcaa", sum := "d89c1bd273a44d180e8749b2006bb31518aed57c3bb6a642825e0afaa9643c4f", func := "rowlock/rowlocklaw17.SpecSafe", spec := "specSafe", inPlace := ["math.Float64frombits", "math.archTrunc", "math.Float64bits"], unfollowed := true, recurses := true, apart := false, narrowed := true }
def SpecSafeUptoSaid : Prop := specSafeUptoRow.holds Try.pinned (OpenSpec.upto specSafeSpec)

/-- 'rowlocklaw17.SpecStack', WHERE WHAT IT READS IS OF BULK AT MOST 1048576: true; the input reads as it did. -/
def specStackUptoRow : OpenClaim := { program := "ytlgpjcdlomhlcaa", sum := "d89c1bd273a44d180e8749b2006bb31518aed57c3bb6a642825e0afaa9643c4f", func := "rowlock/rowlocklaw17.SpecStack", spec := "specStack", inPlace := ["math.Float64frombits", "math.archTrunc", "math.Float64bits"], unfollowed := true, recurses := true, apart := false, narrowed := true }
def SpecStackUptoSaid : Prop := specStackUptoRow.holds Try.pinned (OpenSpec.upto specStackSpec)

/-- 'rowlocktop.TopFuel', WHERE WHAT IT READS IS OF BULK AT MOST 1048576: true; the input reads as it did. -/
def topFuelUptoRow : OpenClaim := { program := "ytlgpjcdlomhlcaa", sum := "d89c1bd273a44d180e8749b2006bb31518aed57c3bb6a642825e0afaa9643c4f", func := "rowlock/rowlocktop.TopFuel", spec := "topFuel", inPlace := ["math.Float64frombits", "math.archTrunc", "math.Float64bits"], unfollowed := true, recurses := true, apart := false, narrowed := true }
def TopFuelUptoSaid : Prop := topFuelUptoRow.holds Try.pinned (OpenSpec.upto topFuelSpec)

/-- 'rowlocktop.TopFirst', WHERE WHAT IT READS IS OF BULK AT MOST 1048576: true; the input reads as it did. -/
def topFirstUptoRow : OpenClaim := { program := "ytlgpjcdlomhlcaa", sum := "d89c1bd273a44d180e8749b2006bb31518aed57c3bb6a642825e0afaa9643c4f", func := "rowlock/rowlocktop.TopFirst", spec := "topFirst", inPlace := ["math.Float64bits", "math.Float64frombits", "math.archTrunc"], unfollowed := true, recurses := true, apart := false, narrowed := true }
def TopFirstUptoSaid : Prop := topFirstUptoRow.holds Try.pinned (OpenSpec.upto topFirstSpec)

end Rows
end Go.Proofs.Ytlgpjcdlomhlcaa
