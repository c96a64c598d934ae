/-
  No cell of these rows narrows 'for every input' (looked for: loops, veiled, ifaces, maps, wideKeys, modest, calm, conditions, laid).
  DERIVED. THE GIVEN ROWS OF THIS SEAT. 3 by the template 'for every input the law returns true; each argument reads behind the call as it read before'; 0 by the template 'total and deterministic' (their statements: YtmmfadakhnagpaaTotals.lean).
  GIVEN WITH THE SEED: the statements are not yours to turn. If you find one false, say at which input.
  Laid BY PROGRAM, IN A SANDBOX (cutbox-rows.mjs): the forced cells as the released guide's own fill.sh prints them over the translation f2e03d31c921dd16… (all of the seat's roots in one cut). By AI agents, Wed Nov 11 2026. No macro, syntax, notation, axiom, sorry.
-/
import Derived.Test.YtmmfadakhnagpaaChecked
import GoSem.Claim
import GoSem.ClaimJoined
import GoSem.ClaimMapViews
import Derived.JoinedTies
import Derived.KernelRfl
namespace Go.Proofs.Ytmmfadakhnagpaa
/- THE CELL 'sum', in the pinned program and in every row, IS THE sha256 OF THE DUMP (.gsa) THAT YtmmfadakhnagpaaProg.lean LOADS. Nothing in Lean hashes anything: it is a label: what it is worth is what the hold of that sum in a sandbox is worth. -/
noncomputable def Try.pinned : Pinned := { name := "ytmmfadakhnagpaa", sum := "f2e03d31c921dd166b619590e78d3e830728343e564ff866545b7d9298ba30d9", checked := Try.checked }
namespace Rows
def none {H : Type} : Left H := { results := [], args := [] }

/-- 'rowlocklaw24.CallsPrograms': WHATEVER THE INPUT: true; the input reads as it did. -/
def callsProgramsSpec : ChangeSpec := { name := "callsPrograms", fn := fun _ => fun
  | [d1, d2, d3] => { results := [.lit (.bool true)], args := [d1, d2, d3] }
  | _ => none }
def callsProgramsRow : OpenClaim := { program := "ytmmfadakhnagpaa", sum := "f2e03d31c921dd166b619590e78d3e830728343e564ff866545b7d9298ba30d9", func := "rowlock/rowlocklaw24.CallsPrograms", spec := "callsPrograms", inPlace := ["math.Float64bits", "math.Float64frombits"], unfollowed := true, recurses := true, apart := false }
def CallsProgramsSaid : Prop := callsProgramsRow.holds Try.pinned (OpenSpec.ofChange callsProgramsSpec)

/-- ITS FALSE NEIGHBOUR: 'it returns false'. Refute it at one input. -/
def callsProgramsWrong : ChangeSpec := { name := "callsPrograms", fn := fun _ => fun
  | [d1, d2, d3] => { results := [.lit (.bool false)], args := [d1, d2, d3] }
  | _ => none }
def CallsProgramsWrongFalsely : Prop := callsProgramsRow.holds Try.pinned (OpenSpec.ofChange callsProgramsWrong)

/-- 'rowlocklaw24.CallsMay': WHATEVER THE INPUT: true; the input reads as it did. -/
def callsMaySpec : ChangeSpec := { name := "callsMay", fn := fun _ => fun
  | [d1, d2, d3] => { results := [.lit (.bool true)], args := [d1, d2, d3] }
  | _ => none }
def callsMayRow : OpenClaim := { program := "ytmmfadakhnagpaa", sum := "f2e03d31c921dd166b619590e78d3e830728343e564ff866545b7d9298ba30d9", func := "rowlock/rowlocklaw24.CallsMay", spec := "callsMay", inPlace := ["math.Float64bits", "math.Float64frombits"], unfollowed := true, recurses := true, apart := false }
def CallsMaySaid : Prop := callsMayRow.holds Try.pinned (OpenSpec.ofChange callsMaySpec)

/-- ITS FALSE NEIGHBOUR: 'it returns false'. Refute it at one input. -/
def callsMayWrong : ChangeSpec := { name := "callsMay", fn := fun _ => fun
  | [d1, d2, d3] => { results := [.lit (.bool false)], args := [d1, d2, d3] }
  | _ => none }
def CallsMayWrongFalsely : Prop := callsMayRow.holds Try.pinned (OpenSpec.ofChange callsMayWrong)

/-- 'rowlocklaw24.CallsBegins': WHATEVER THE INPUT: true; the input reads as it did. -/
def callsBeginsSpec : ChangeSpec := { name := "callsBegins", fn := fun _ => fun
  | [d1, d2] => { results := [.lit (.bool true)], args := [d1, d2] }
  | _ => none }
def callsBeginsRow : OpenClaim := { program := "ytmmfadakhnagpaa", sum := "f2e03d31c921dd166b619590e78d3e830728343e564ff866545b7d9298ba30d9", func := "rowlock/rowlocklaw24.CallsBegins", spec := "callsBegins", inPlace := ["math.Float64bits", "math.Float64frombits", "math.archTrunc"], unfollowed := true, recurses := true, apart := false }
def CallsBeginsSaid : Prop := callsBeginsRow.holds Try.pinned (OpenSpec.ofChange callsBeginsSpec)

/-- ITS FALSE NEIGHBOUR: 'it returns false'. Refute it at one input. -/
def callsBeginsWrong : ChangeSpec := { name := "callsBegins", fn := fun _ => fun
  | [d1, d2] => { results := [.lit (.bool false)], args := [d1, d2] }
  | _ => none }
def CallsBeginsWrongFalsely : Prop := callsBeginsRow.holds Try.pinned (OpenSpec.ofChange callsBeginsWrong)

/- THE SECOND FORM. 'bulk': how many values and letters a reading holds, each counted each time it is reached (what is shared counts as often as it is met; a slice's spare places count too). A statement '..UptoSaid' is the law's where the arguments, and the package variables that the reading takes, are together of bulk at most 1048576: NARROWER than '..Said'. Prove '..Said' where nothing that the law and all that it calls make is longer than what came in: it says more and counts as full. Else prove '..UptoSaid'. A law counts once. -/
mutual
def uptoBulk {H : Type} : DataW H → Nat
  | .lit (.string bytes) => bytes.length + 1
  | .lit _ => 1
  | .nil => 1
  | .ptr d => uptoBulk d + 1
  | .slice elems spare => uptoBulkAll elems + uptoBulkAll spare + 1
  | .agg parts => uptoBulkAll parts + 1
  | .iface _ d => uptoBulk d + 1
  | .map entries => uptoBulkEntries entries + 1
  | .held _ => 1
def uptoBulkAll {H : Type} : List (DataW H) → Nat
  | [] => 0
  | d :: r => uptoBulk d + uptoBulkAll r
def uptoBulkEntries {H : Type} : List (Lit × DataW H) → Nat
  | [] => 0
  | x :: r => uptoBulkEntry x + uptoBulkEntries r
def uptoBulkEntry {H : Type} : Lit × DataW H → Nat
  | (.string bytes, d) => bytes.length + uptoBulk d + 1
  | (_, d) => uptoBulk d + 1
 end
def uptoSmall : (H : Type) → List (DataW H) → Bool := fun _ ds => decide (uptoBulkAll ds ≤ 1048576)
def OpenSpec.upto (s : _root_.Go.ChangeSpec) : _root_.Go.OpenSpec := { _root_.Go.OpenSpec.ofChange s with cond := some uptoSmall }

/-- 'rowlocklaw24.CallsPrograms', WHERE WHAT IT READS IS OF BULK AT MOST 1048576: true; the input reads as it did. -/
def callsProgramsUptoRow : OpenClaim := { program := "ytmmfadakhnagpaa", sum := "f2e03d31c921dd166b619590e78d3e830728343e564ff866545b7d9298ba30d9", func := "rowlock/rowlocklaw24.CallsPrograms", spec := "callsPrograms", inPlace := ["math.Float64bits", "math.Float64frombits"], unfollowed := true, recurses := true, apart := false, narrowed := true }
def CallsProgramsUptoSaid : Prop := callsProgramsUptoRow.holds Try.pinned (OpenSpec.upto callsProgramsSpec)

/-- 'rowlocklaw24.CallsMay', WHERE WHAT IT READS IS OF BULK AT MOST 1048576: true; the input reads as it did. -/
def callsMayUptoRow : OpenClaim := { program := "ytmmfadakhnagpaa", sum := "f2e03d31c921dd166b619590e78d3e830728343e564ff866545b7d9298ba30d9", func := "rowlock/rowlocklaw24.CallsMay", spec := "callsMay", inPlace := ["math.Float64bits", "math.Float64frombits"], unfollowed := true, recurses := true, apart := false, narrowed := true }
def CallsMayUptoSaid : Prop := callsMayUptoRow.holds Try.pinned (OpenSpec.upto callsMaySpec)

/-- 'rowlocklaw24.CallsBegins', WHERE WHAT IT READS IS OF BULK AT MOST 1048576: true; the input reads as it did. -/
def callsBeginsUptoRow : OpenClaim := { program := "ytmmfadakhnagpaa", sum := "f2e03d31c921dd166b619590e78d3e830728343e564ff866545b7d9298ba30d9", func := "rowlock/rowlocklaw24.CallsBegins", spec := "callsBegins", inPlace := ["math.Float64bits", "math.Float64frombits", "math.archTrunc"], unfollowed := true, recurses := true, apart := false, narrowed := true }
def CallsBeginsUptoSaid : Prop := callsBeginsUptoRow.holds Try.pinned (OpenSpec.upto callsBeginsSpec)

end Rows
end Go.Proofs.Ytmmfadakhnagpaa
