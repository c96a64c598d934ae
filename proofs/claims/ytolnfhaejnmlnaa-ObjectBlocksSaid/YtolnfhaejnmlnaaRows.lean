/-
  No cell of these rows narrows 'for every input' (looked for: loops, veiled, ifaces, maps, wideKeys, modest, calm, conditions, laid).
  DERIVED. THE GIVEN ROWS OF THIS SEAT. 6 by the template 'for every input the law returns true; each argument reads behind the call as it read before'; 0 by the template 'total and deterministic' (their statements: YtolnfhaejnmlnaaTotals.lean).
  GIVEN WITH THE SEED: the statements are not yours to turn. If you find one false, say at which input.
  Laid BY PROGRAM, IN A SANDBOX (cutbox-rows.mjs): the forced cells as the released guide's own fill.sh prints them over the translation fff8e3df55607e3e… (all of the seat's roots in one cut). By AI agents, Wed Nov 11 2026. No macro, syntax, notation, axiom, sorry.
-/
import Derived.Test.YtolnfhaejnmlnaaChecked
import GoSem.Claim
import GoSem.ClaimJoined
import GoSem.ClaimMapViews
import Derived.JoinedTies
import Derived.KernelRfl
namespace Go.Proofs.Ytolnfhaejnmlnaa
/- THE CELL 'sum', in the pinned program and in every row, IS THE sha256 OF THE DUMP (.gsa) THAT YtolnfhaejnmlnaaProg.lean LOADS. Nothing in Lean hashes anything: it is a label: what it is worth is what the hold of that sum in a sandbox is worth. -/
noncomputable def Try.pinned : Pinned := { name := "ytolnfhaejnmlnaa", sum := "fff8e3df55607e3e1426111fa7a25e744d6dbb556b196589e04b8228d823054f", checked := Try.checked }
namespace Rows
def none {H : Type} : Left H := { results := [], args := [] }

/-- 'rowlocklaw20.ObjectFlows': WHATEVER THE INPUT: true; the input reads as it did. -/
def objectFlowsSpec : ChangeSpec := { name := "objectFlows", fn := fun _ => fun
  | [d1, d2] => { results := [.lit (.bool true)], args := [d1, d2] }
  | _ => none }
def objectFlowsRow : OpenClaim := { program := "ytolnfhaejnmlnaa", sum := "fff8e3df55607e3e1426111fa7a25e744d6dbb556b196589e04b8228d823054f", func := "rowlock/rowlocklaw20.ObjectFlows", spec := "objectFlows", unfollowed := true, recurses := true, apart := false }
def ObjectFlowsSaid : Prop := objectFlowsRow.holds Try.pinned (OpenSpec.ofChange objectFlowsSpec)

/-- ITS FALSE NEIGHBOUR: 'it returns false'. Refute it at one input. -/
def objectFlowsWrong : ChangeSpec := { name := "objectFlows", fn := fun _ => fun
  | [d1, d2] => { results := [.lit (.bool false)], args := [d1, d2] }
  | _ => none }
def ObjectFlowsWrongFalsely : Prop := objectFlowsRow.holds Try.pinned (OpenSpec.ofChange objectFlowsWrong)

/-- 'rowlocklaw20.ObjectOwns': WHATEVER THE INPUT: true; the input reads as it did. -/
def objectOwnsSpec : ChangeSpec := { name := "objectOwns", fn := fun _ => fun
  | [d1, d2] => { results := [.lit (.bool true)], args := [d1, d2] }
  | _ => none }
def objectOwnsRow : OpenClaim := { program := "ytolnfhaejnmlnaa", sum := "fff8e3df55607e3e1426111fa7a25e744d6dbb556b196589e04b8228d823054f", func := "rowlock/rowlocklaw20.ObjectOwns", spec := "objectOwns", unfollowed := true, recurses := true, apart := false }
def ObjectOwnsSaid : Prop := objectOwnsRow.holds Try.pinned (OpenSpec.ofChange objectOwnsSpec)

/-- ITS FALSE NEIGHBOUR: 'it returns false'. Refute it at one input. -/
def objectOwnsWrong : ChangeSpec := { name := "objectOwns", fn := fun _ => fun
  | [d1, d2] => { results := [.lit (.bool false)], args := [d1, d2] }
  | _ => none }
def ObjectOwnsWrongFalsely : Prop := objectOwnsRow.holds Try.pinned (OpenSpec.ofChange objectOwnsWrong)

/-- 'rowlocklaw20.ObjectWaits': WHATEVER THE INPUT: true; the input reads as it did. -/
def objectWaitsSpec : ChangeSpec := { name := "objectWaits", fn := fun _ => fun
  | [d1, d2] => { results := [.lit (.bool true)], args := [d1, d2] }
  | _ => none }
def objectWaitsRow : OpenClaim := { program := "ytolnfhaejnmlnaa", sum := "fff8e3df55607e3e1426111fa7a25e744d6dbb556b196589e04b8228d823054f", func := "rowlock/rowlocklaw20.ObjectWaits", spec := "objectWaits", inPlace := ["math.Float64bits"], unfollowed := true, recurses := true, apart := false }
def ObjectWaitsSaid : Prop := objectWaitsRow.holds Try.pinned (OpenSpec.ofChange objectWaitsSpec)

/-- ITS FALSE NEIGHBOUR: 'it returns false'. Refute it at one input. -/
def objectWaitsWrong : ChangeSpec := { name := "objectWaits", fn := fun _ => fun
  | [d1, d2] => { results := [.lit (.bool false)], args := [d1, d2] }
  | _ => none }
def ObjectWaitsWrongFalsely : Prop := objectWaitsRow.holds Try.pinned (OpenSpec.ofChange objectWaitsWrong)

/-- 'rowlocklaw20.ObjectPlays': WHATEVER THE INPUT: true; the input reads as it did. -/
def objectPlaysSpec : ChangeSpec := { name := "objectPlays", fn := fun _ => fun
  | [d1, d2, d3] => { results := [.lit (.bool true)], args := [d1, d2, d3] }
  | _ => none }
def objectPlaysRow : OpenClaim := { program := "ytolnfhaejnmlnaa", sum := "fff8e3df55607e3e1426111fa7a25e744d6dbb556b196589e04b8228d823054f", func := "rowlock/rowlocklaw20.ObjectPlays", spec := "objectPlays", inPlace := ["math.Float64frombits", "math.Float64bits"], unfollowed := true, recurses := true, apart := false }
def ObjectPlaysSaid : Prop := objectPlaysRow.holds Try.pinned (OpenSpec.ofChange objectPlaysSpec)

/-- ITS FALSE NEIGHBOUR: 'it returns false'. Refute it at one input. -/
def objectPlaysWrong : ChangeSpec := { name := "objectPlays", fn := fun _ => fun
  | [d1, d2, d3] => { results := [.lit (.bool false)], args := [d1, d2, d3] }
  | _ => none }
def ObjectPlaysWrongFalsely : Prop := objectPlaysRow.holds Try.pinned (OpenSpec.ofChange objectPlaysWrong)

/-- 'rowlocklaw20.ObjectBlocks': WHATEVER THE INPUT: true; the input reads as it did. -/
def objectBlocksSpec : ChangeSpec := { name := "objectBlocks", fn := fun _ => fun
  | [d1, d2, d3] => { results := [.lit (.bool true)], args := [d1, d2, d3] }
  | _ => none }
def objectBlocksRow : OpenClaim := { program := "ytolnfhaejnmlnaa", sum := "fff8e3df55607e3e1426111fa7a25e744d6dbb556b196589e04b8228d823054f", func := "rowlock/rowlocklaw20.ObjectBlocks", spec := "objectBlocks", inPlace := ["math.Float64frombits", "math.Float64bits"], unfollowed := true, recurses := true, apart := false }
def ObjectBlocksSaid : Prop := objectBlocksRow.holds Try.pinned (OpenSpec.ofChange objectBlocksSpec)

/-- ITS FALSE NEIGHBOUR: 'it returns false'. Refute it at one input. -/
def objectBlocksWrong : ChangeSpec := { name := "objectBlocks", fn := fun _ => fun
  | [d1, d2, d3] => { results := [.lit (.bool false)], args := [d1, d2, d3] }
  | _ => none }
def ObjectBlocksWrongFalsely : Prop := objectBlocksRow.holds Try.pinned (OpenSpec.ofChange objectBlocksWrong)

/-- 'rowlocklaw20.ObjectForks': WHATEVER THE INPUT: true; the input reads as it did. -/
def objectForksSpec : ChangeSpec := { name := "objectForks", fn := fun _ => fun
  | [d1, d2, d3] => { results := [.lit (.bool true)], args := [d1, d2, d3] }
  | _ => none }
def objectForksRow : OpenClaim := { program := "ytolnfhaejnmlnaa", sum := "fff8e3df55607e3e1426111fa7a25e744d6dbb556b196589e04b8228d823054f", func := "rowlock/rowlocklaw20.ObjectForks", spec := "objectForks", inPlace := ["math.Float64frombits", "math.Float64bits"], unfollowed := true, recurses := true, apart := false }
def ObjectForksSaid : Prop := objectForksRow.holds Try.pinned (OpenSpec.ofChange objectForksSpec)

/-- ITS FALSE NEIGHBOUR: 'it returns false'. Refute it at one input. -/
def objectForksWrong : ChangeSpec := { name := "objectForks", fn := fun _ => fun
  | [d1, d2, d3] => { results := [.lit (.bool false)], args := [d1, d2, d3] }
  | _ => none }
def ObjectForksWrongFalsely : Prop := objectForksRow.holds Try.pinned (OpenSpec.ofChange objectForksWrong)

/- THE SECOND FORM. 'bulk': how many values and letters a reading holds, each counted each time it is reached (what is shared counts as often as it is met; a slice's spare places count too). A statement '..UptoSaid' is the law's where the arguments, and the package variables that the reading takes, are together of bulk at most 1048576: NARROWER than '..Said'. Prove '..Said' where nothing that the law and all that it calls make is longer than what came in: it says more and counts as full. Else prove '..UptoSaid'. A law counts once. -/
mutual
def uptoBulk {H : Type} : DataW H → Nat
  | .lit (.string bytes) => bytes.length + 1
  | .lit _ => 1
  | .nil => 1
  | .ptr d => uptoBulk d + 1
  | .slice elems spare => uptoBulkAll elems + uptoBulkAll spare + 1
  | .agg parts => uptoBulkAll parts + 1
  | .iface _ d => uptoBulk d + 1
  | .map entries => uptoBulkEntries entries + 1
  | .held _ => 1
def uptoBulkAll {H : Type} : List (DataW H) → Nat
  | [] => 0
  | d :: r => uptoBulk d + uptoBulkAll r
def uptoBulkEntries {H : Type} : List (Lit × DataW H) → Nat
  | [] => 0
  | x :: r => uptoBulkEntry x + uptoBulkEntries r
def uptoBulkEntry {H : Type} : Lit × DataW H → Nat
  | (.string bytes, d) => bytes.length + uptoBulk d + 1
  | (_, d) => uptoBulk d + 1
 end
def uptoSmall : (H : Type) → List (DataW H) → Bool := fun _ ds => decide (uptoBulkAll ds ≤ 1048576)
def OpenSpec.upto (s : _root_.Go.ChangeSpec) : _root_.Go.OpenSpec := { _root_.Go.OpenSpec.ofChange s with cond := some uptoSmall }

/-- 'rowlocklaw20.ObjectFlows', WHERE WHAT IT READS IS OF BULK AT MOST 1048576: true; the input reads as it did. -/
def objectFlowsUptoRow : OpenClaim := { program := "ytolnfhaejnmlnaa", sum := "fff8e3df55607e3e1426111fa7a25e744d6dbb556b196589e04b8228d823054f", func := "rowlock/rowlocklaw20.ObjectFlows", spec := "objectFlows", unfollowed := true, recurses := true, apart := false, narrowed := true }
def ObjectFlowsUptoSaid : Prop := objectFlowsUptoRow.holds Try.pinned (OpenSpec.upto objectFlowsSpec)

/-- 'rowlocklaw20.ObjectOwns', WHERE WHAT IT READS IS OF BULK AT MOST 1048576: true; the input reads as it did. -/
def objectOwnsUptoRow : OpenClaim := { program := "ytolnfhaejnmlnaa", sum := "fff8e3df55607e3e1426111fa7a25e744d6dbb556b196589e04b8228d823054f", func := "rowlock/rowlocklaw20.ObjectOwns", spec := "objectOwns", unfollowed := true, recurses := true, apart := false, narrowed := true }
def ObjectOwnsUptoSaid : Prop := objectOwnsUptoRow.holds Try.pinned (OpenSpec.upto objectOwnsSpec)

/-- 'rowlocklaw20.ObjectWaits', WHERE WHAT IT READS IS OF BULK AT MOST 1048576: true; the input reads as it did. -/
def objectWaitsUptoRow : OpenClaim := { program := "ytolnfhaejnmlnaa", sum := "fff8e3df55607e3e1426111fa7a25e744d6dbb556b196589e04b8228d823054f", func := "rowlock/rowlocklaw20.ObjectWaits", spec := "objectWaits", inPlace := ["math.Float64bits"], unfollowed := true, recurses := true, apart := false, narrowed := true }
def ObjectWaitsUptoSaid : Prop := objectWaitsUptoRow.holds Try.pinned (OpenSpec.upto objectWaitsSpec)

/-- 'rowlocklaw20.ObjectPlays', WHERE WHAT IT READS IS OF BULK AT MOST 1048576: true; the input reads as it did. -/
def objectPlaysUptoRow : OpenClaim := { program := "ytolnfhaejnmlnaa", sum := "fff8e3df55607e3e1426111fa7a25e744d6dbb556b196589e04b8228d823054f", func := "rowlock/rowlocklaw20.ObjectPlays", spec := "objectPlays", inPlace := ["math.Float64frombits", "math.Float64bits"], unfollowed := true, recurses := true, apart := false, narrowed := true }
def ObjectPlaysUptoSaid : Prop := objectPlaysUptoRow.holds Try.pinned (OpenSpec.upto objectPlaysSpec)

/-- 'rowlocklaw20.ObjectBlocks', WHERE WHAT IT READS IS OF BULK AT MOST 1048576: true; the input reads as it did. -/
def objectBlocksUptoRow : OpenClaim := { program := "ytolnfhaejnmlnaa", sum := "fff8e3df55607e3e1426111fa7a25e744d6dbb556b196589e04b8228d823054f", func := "rowlock/rowlocklaw20.ObjectBlocks", spec := "objectBlocks", inPlace := ["math.Float64frombits", "math.Float64bits"], unfollowed := true, recurses := true, apart := false, narrowed := true }
def ObjectBlocksUptoSaid : Prop := objectBlocksUptoRow.holds Try.pinned (OpenSpec.upto objectBlocksSpec)

/-- 'rowlocklaw20.ObjectForks', WHERE WHAT IT READS IS OF BULK AT MOST 1048576: true; the input reads as it did. -/
def objectForksUptoRow : OpenClaim := { program := "ytolnfhaejnmlnaa", sum := "fff8e3df55607e3e1426111fa7a25e744d6dbb556b196589e04b8228d823054f", func := "rowlock/rowlocklaw20.ObjectForks", spec := "objectForks", inPlace := ["math.Float64frombits", "math.Float64bits"], unfollowed := true, recurses := true, apart := false, narrowed := true }
def ObjectForksUptoSaid : Prop := objectForksUptoRow.holds Try.pinned (OpenSpec.upto objectForksSpec)

end Rows
end Go.Proofs.Ytolnfhaejnmlnaa
