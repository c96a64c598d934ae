/-
  No cell of these rows narrows 'for every input' (looked for: loops, veiled, ifaces, maps, wideKeys, modest, calm, conditions, laid).
  DERIVED. THE GIVEN ROWS OF THIS SEAT. 3 by the template 'for every input the law returns true; each argument reads behind the call as it read before'; 0 by the template 'total and deterministic' (their statements: YtbanfaboimachaaTotals.lean).
  GIVEN WITH THE SEED: the statements are not yours to turn. If you find one false, say at which input.
  Laid BY PROGRAM, IN A SANDBOX (cutbox-rows.mjs): the forced cells as the released guide's own fill.sh prints them over the translation 27a1e6b377de7f43… (all of the seat's roots in one cut). By AI agents, Wed Nov 11 2026. No macro, syntax, notation, axiom, sorry.
-/
import Derived.Test.YtbanfaboimachaaChecked
import GoSem.Claim
import GoSem.ClaimJoined
import GoSem.ClaimMapViews
import Derived.JoinedTies
import Derived.KernelRfl
namespace Go.Proofs.Ytbanfaboimachaa
/- THE CELL 'sum', in the pinned program and in every row, IS THE sha256 OF THE DUMP (.gsa) THAT YtbanfaboimachaaProg.lean LOADS. Nothing in Lean hashes anything: it is a label: what it is worth is what the hold of that sum in a sandbox is worth. -/
noncomputable def Try.pinned : Pinned := { name := "ytbanfaboimachaa", sum := "27a1e6b377de7f43544c84939540a0e6502c8047318abdc5dc2530517fe66f0d", checked := Try.checked }
namespace Rows
def none {H : Type} : Left H := { results := [], args := [] }

/-- 'rowlocklaw21.LinearIs': WHATEVER THE INPUT: true; the input reads as it did. -/
def linearIsSpec : ChangeSpec := { name := "linearIs", fn := fun _ => fun
  | [d1, d2] => { results := [.lit (.bool true)], args := [d1, d2] }
  | _ => none }
def linearIsRow : OpenClaim := { program := "ytbanfaboimachaa", sum := "27a1e6b377de7f43544c84939540a0e6502c8047318abdc5dc2530517fe66f0d", func := "rowlock/rowlocklaw21.LinearIs", spec := "linearIs", unfollowed := true, recurses := true, apart := false }
def LinearIsSaid : Prop := linearIsRow.holds Try.pinned (OpenSpec.ofChange linearIsSpec)

/-- ITS FALSE NEIGHBOUR: 'it returns false'. Refute it at one input. -/
def linearIsWrong : ChangeSpec := { name := "linearIs", fn := fun _ => fun
  | [d1, d2] => { results := [.lit (.bool false)], args := [d1, d2] }
  | _ => none }
def LinearIsWrongFalsely : Prop := linearIsRow.holds Try.pinned (OpenSpec.ofChange linearIsWrong)

/-- 'rowlocklaw21.LinearFound': WHATEVER THE INPUT: true; the input reads as it did. -/
def linearFoundSpec : ChangeSpec := { name := "linearFound", fn := fun _ => fun
  | [d1, d2] => { results := [.lit (.bool true)], args := [d1, d2] }
  | _ => none }
def linearFoundRow : OpenClaim := { program := "ytbanfaboimachaa", sum := "27a1e6b377de7f43544c84939540a0e6502c8047318abdc5dc2530517fe66f0d", func := "rowlock/rowlocklaw21.LinearFound", spec := "linearFound", inPlace := ["math.Float64frombits", "math.Float64bits"], unfollowed := true, recurses := true, apart := false }
def LinearFoundSaid : Prop := linearFoundRow.holds Try.pinned (OpenSpec.ofChange linearFoundSpec)

/-- ITS FALSE NEIGHBOUR: 'it returns false'. Refute it at one input. -/
def linearFoundWrong : ChangeSpec := { name := "linearFound", fn := fun _ => fun
  | [d1, d2] => { results := [.lit (.bool false)], args := [d1, d2] }
  | _ => none }
def LinearFoundWrongFalsely : Prop := linearFoundRow.holds Try.pinned (OpenSpec.ofChange linearFoundWrong)

/-- 'rowlocktop.TopOverlap': WHATEVER THE INPUT: true; the input reads as it did. -/
def topOverlapSpec : ChangeSpec := { name := "topOverlap", fn := fun _ => fun
  | [d1, d2, d3] => { results := [.lit (.bool true)], args := [d1, d2, d3] }
  | _ => none }
def topOverlapRow : OpenClaim := { program := "ytbanfaboimachaa", sum := "27a1e6b377de7f43544c84939540a0e6502c8047318abdc5dc2530517fe66f0d", func := "rowlock/rowlocktop.TopOverlap", spec := "topOverlap", unfollowed := true, recurses := true, apart := false }
def TopOverlapSaid : Prop := topOverlapRow.holds Try.pinned (OpenSpec.ofChange topOverlapSpec)

/-- ITS FALSE NEIGHBOUR: 'it returns false'. Refute it at one input. -/
def topOverlapWrong : ChangeSpec := { name := "topOverlap", fn := fun _ => fun
  | [d1, d2, d3] => { results := [.lit (.bool false)], args := [d1, d2, d3] }
  | _ => none }
def TopOverlapWrongFalsely : Prop := topOverlapRow.holds Try.pinned (OpenSpec.ofChange topOverlapWrong)

/- THE SECOND FORM. 'bulk': how many values and letters a reading holds, each counted each time it is reached (what is shared counts as often as it is met; a slice's spare places count too). A statement '..UptoSaid' is the law's where the arguments, and the package variables that the reading takes, are together of bulk at most 1048576: NARROWER than '..Said'. Prove '..Said' where nothing that the law and all that it calls make is longer than what came in: it says more and counts as full. Else prove '..UptoSaid'. A law counts once. -/
mutual
def uptoBulk {H : Type} : DataW H → Nat
  | .lit (.string bytes) => bytes.length + 1
  | .lit _ => 1
  | .nil => 1
  | .ptr d => uptoBulk d + 1
  | .slice elems spare => uptoBulkAll elems + uptoBulkAll spare + 1
  | .agg parts => uptoBulkAll parts + 1
  | .iface _ d => uptoBulk d + 1
  | .map entries => uptoBulkEntries entries + 1
  | .held _ => 1
def uptoBulkAll {H : Type} : List (DataW H) → Nat
  | [] => 0
  | d :: r => uptoBulk d + uptoBulkAll r
def uptoBulkEntries {H : Type} : List (Lit × DataW H) → Nat
  | [] => 0
  | x :: r => uptoBulkEntry x + uptoBulkEntries r
def uptoBulkEntry {H : Type} : Lit × DataW H → Nat
  | (.string bytes, d) => bytes.length + uptoBulk d + 1
  | (_, d) => uptoBulk d + 1
 end
def uptoSmall : (H : Type) → List (DataW H) → Bool := fun _ ds => decide (uptoBulkAll ds ≤ 1048576)
def OpenSpec.upto (s : _root_.Go.ChangeSpec) : _root_.Go.OpenSpec := { _root_.Go.OpenSpec.ofChange s with cond := some uptoSmall }

/-- 'rowlocklaw21.LinearIs', WHERE WHAT IT READS IS OF BULK AT MOST 1048576: true; the input reads as it did. -/
def linearIsUptoRow : OpenClaim := { program := "ytbanfaboimachaa", sum := "27a1e6b377de7f43544c84939540a0e6502c8047318abdc5dc2530517fe66f0d", func := "rowlock/rowlocklaw21.LinearIs", spec := "linearIs", unfollowed := true, recurses := true, apart := false, narrowed := true }
def LinearIsUptoSaid : Prop := linearIsUptoRow.holds Try.pinned (OpenSpec.upto linearIsSpec)

/-- 'rowlocklaw21.LinearFound', WHERE WHAT IT READS IS OF BULK AT MOST 1048576: true; the input reads as it did. -/
def linearFoundUptoRow : OpenClaim := { program := "ytbanfaboimachaa", sum := "27a1e6b377de7f43544c84939540a0e6502c8047318abdc5dc2530517fe66f0d", func := "rowlock/rowlocklaw21.LinearFound", spec := "linearFound", inPlace := ["math.Float64frombits", "math.Float64bits"], unfollowed := true, recurses := true, apart := false, narrowed := true }
def LinearFoundUptoSaid : Prop := linearFoundUptoRow.holds Try.pinned (OpenSpec.upto linearFoundSpec)

/-- 'rowlocktop.TopOverlap', WHERE WHAT IT READS IS OF BULK AT MOST 1048576: true; the input reads as it did. -/
def topOverlapUptoRow : OpenClaim := { program := "ytbanfaboimachaa", sum := "27a1e6b377de7f43544c84939540a0e6502c8047318abdc5dc2530517fe66f0d", func := "rowlock/rowlocktop.TopOverlap", spec := "topOverlap", unfollowed := true, recurses := true, apart := false, narrowed := true }
def TopOverlapUptoSaid : Prop := topOverlapUptoRow.holds Try.pinned (OpenSpec.upto topOverlapSpec)

end Rows
end Go.Proofs.Ytbanfaboimachaa
