/-
  No cell of these rows narrows 'for every input' (looked for: loops, veiled, ifaces, maps, wideKeys, modest, calm, conditions, laid).
  DERIVED. THE GIVEN ROWS OF THIS SEAT. 6 by the template 'for every input the law returns true; each argument reads behind the call as it read before'; 0 by the template 'total and deterministic' (their statements: YtcjkpeojjonpiaaTotals.lean).
  GIVEN WITH THE SEED: the statements are not yours to turn. If you find one false, say at which input.
  Laid BY PROGRAM, IN A SANDBOX (cutbox-rows.mjs): the forced cells as the released guide's own fill.sh prints them over the translation a85630e12d749ade… (all of the seat's roots in one cut). By AI agents, Wed Nov 11 2026. No macro, syntax, notation, axiom, sorry.
-/
import Derived.Test.YtcjkpeojjonpiaaChecked
import GoSem.Claim
import GoSem.ClaimJoined
import GoSem.ClaimMapViews
import Derived.JoinedTies
import Derived.KernelRfl
namespace Go.Proofs.Ytcjkpeojjonpiaa
/- THE CELL 'sum', in the pinned program and in every row, IS THE sha256 OF THE DUMP (.gsa) THAT YtcjkpeojjonpiaaProg.lean LOADS. Nothing in Lean hashes anything: it is a label: what it is worth is what the hold of that sum in a sandbox is worth. -/
noncomputable def Try.pinned : Pinned := { name := "ytcjkpeojjonpiaa", sum := "a85630e12d749adee37bae8a0c113e870a5735da824b0252b8d4871a42c81840", checked := Try.checked }
namespace Rows
def none {H : Type} : Left H := { results := [], args := [] }

/-- 'rowlocklaw22.LocksMay': WHATEVER THE INPUT: true; the input reads as it did. -/
def locksMaySpec : ChangeSpec := { name := "locksMay", fn := fun _ => fun
  | [d1, d2, d3] => { results := [.lit (.bool true)], args := [d1, d2, d3] }
  | _ => none }
def locksMayRow : OpenClaim := { program := "ytcjkpeojjonpiaa", sum := "a85630e12d749adee37bae8a0c113e870a5735da824b0252b8d4871a42c81840", func := "rowlock/rowlocklaw22.LocksMay", spec := "locksMay", inPlace := ["math.Float64bits", "math.Float64frombits"], apart := false }
def LocksMaySaid : Prop := locksMayRow.holds Try.pinned (OpenSpec.ofChange locksMaySpec)

/-- ITS FALSE NEIGHBOUR: 'it returns false'. Refute it at one input. -/
def locksMayWrong : ChangeSpec := { name := "locksMay", fn := fun _ => fun
  | [d1, d2, d3] => { results := [.lit (.bool false)], args := [d1, d2, d3] }
  | _ => none }
def LocksMayWrongFalsely : Prop := locksMayRow.holds Try.pinned (OpenSpec.ofChange locksMayWrong)

/-- 'rowlocklaw22.LocksMean': WHATEVER THE INPUT: true; the input reads as it did. -/
def locksMeanSpec : ChangeSpec := { name := "locksMean", fn := fun _ => fun
  | [d1, d2, d3] => { results := [.lit (.bool true)], args := [d1, d2, d3] }
  | _ => none }
def locksMeanRow : OpenClaim := { program := "ytcjkpeojjonpiaa", sum := "a85630e12d749adee37bae8a0c113e870a5735da824b0252b8d4871a42c81840", func := "rowlock/rowlocklaw22.LocksMean", spec := "locksMean", inPlace := ["math.Float64bits", "math.Float64frombits"], apart := false }
def LocksMeanSaid : Prop := locksMeanRow.holds Try.pinned (OpenSpec.ofChange locksMeanSpec)

/-- ITS FALSE NEIGHBOUR: 'it returns false'. Refute it at one input. -/
def locksMeanWrong : ChangeSpec := { name := "locksMean", fn := fun _ => fun
  | [d1, d2, d3] => { results := [.lit (.bool false)], args := [d1, d2, d3] }
  | _ => none }
def LocksMeanWrongFalsely : Prop := locksMeanRow.holds Try.pinned (OpenSpec.ofChange locksMeanWrong)

/-- 'rowlocklaw23.FlowsBarriers': WHATEVER THE INPUT: true; the input reads as it did. -/
def flowsBarriersSpec : ChangeSpec := { name := "flowsBarriers", fn := fun _ => fun
  | [d1, d2, d3] => { results := [.lit (.bool true)], args := [d1, d2, d3] }
  | _ => none }
def flowsBarriersRow : OpenClaim := { program := "ytcjkpeojjonpiaa", sum := "a85630e12d749adee37bae8a0c113e870a5735da824b0252b8d4871a42c81840", func := "rowlock/rowlocklaw23.FlowsBarriers", spec := "flowsBarriers", inPlace := ["math.Float64bits"], unfollowed := true, recurses := true, apart := false }
def FlowsBarriersSaid : Prop := flowsBarriersRow.holds Try.pinned (OpenSpec.ofChange flowsBarriersSpec)

/-- ITS FALSE NEIGHBOUR: 'it returns false'. Refute it at one input. -/
def flowsBarriersWrong : ChangeSpec := { name := "flowsBarriers", fn := fun _ => fun
  | [d1, d2, d3] => { results := [.lit (.bool false)], args := [d1, d2, d3] }
  | _ => none }
def FlowsBarriersWrongFalsely : Prop := flowsBarriersRow.holds Try.pinned (OpenSpec.ofChange flowsBarriersWrong)

/-- 'rowlocklaw23.FlowsQueues': WHATEVER THE INPUT: true; the input reads as it did. -/
def flowsQueuesSpec : ChangeSpec := { name := "flowsQueues", fn := fun _ => fun
  | [d1, d2, d3] => { results := [.lit (.bool true)], args := [d1, d2, d3] }
  | _ => none }
def flowsQueuesRow : OpenClaim := { program := "ytcjkpeojjonpiaa", sum := "a85630e12d749adee37bae8a0c113e870a5735da824b0252b8d4871a42c81840", func := "rowlock/rowlocklaw23.FlowsQueues", spec := "flowsQueues", inPlace := ["math.Float64bits", "math.Float64frombits"], unfollowed := true, recurses := true, apart := false }
def FlowsQueuesSaid : Prop := flowsQueuesRow.holds Try.pinned (OpenSpec.ofChange flowsQueuesSpec)

/-- ITS FALSE NEIGHBOUR: 'it returns false'. Refute it at one input. -/
def flowsQueuesWrong : ChangeSpec := { name := "flowsQueues", fn := fun _ => fun
  | [d1, d2, d3] => { results := [.lit (.bool false)], args := [d1, d2, d3] }
  | _ => none }
def FlowsQueuesWrongFalsely : Prop := flowsQueuesRow.holds Try.pinned (OpenSpec.ofChange flowsQueuesWrong)

/-- 'rowlocklaw23.FlowsMay': WHATEVER THE INPUT: true; the input reads as it did. -/
def flowsMaySpec : ChangeSpec := { name := "flowsMay", fn := fun _ => fun
  | [d1, d2, d3] => { results := [.lit (.bool true)], args := [d1, d2, d3] }
  | _ => none }
def flowsMayRow : OpenClaim := { program := "ytcjkpeojjonpiaa", sum := "a85630e12d749adee37bae8a0c113e870a5735da824b0252b8d4871a42c81840", func := "rowlock/rowlocklaw23.FlowsMay", spec := "flowsMay", inPlace := ["math.Float64frombits", "math.Float64bits"], unfollowed := true, recurses := true, apart := false }
def FlowsMaySaid : Prop := flowsMayRow.holds Try.pinned (OpenSpec.ofChange flowsMaySpec)

/-- ITS FALSE NEIGHBOUR: 'it returns false'. Refute it at one input. -/
def flowsMayWrong : ChangeSpec := { name := "flowsMay", fn := fun _ => fun
  | [d1, d2, d3] => { results := [.lit (.bool false)], args := [d1, d2, d3] }
  | _ => none }
def FlowsMayWrongFalsely : Prop := flowsMayRow.holds Try.pinned (OpenSpec.ofChange flowsMayWrong)

/-- 'rowlocklaw23.FlowsMean': WHATEVER THE INPUT: true; the input reads as it did. -/
def flowsMeanSpec : ChangeSpec := { name := "flowsMean", fn := fun _ => fun
  | [d1, d2, d3] => { results := [.lit (.bool true)], args := [d1, d2, d3] }
  | _ => none }
def flowsMeanRow : OpenClaim := { program := "ytcjkpeojjonpiaa", sum := "a85630e12d749adee37bae8a0c113e870a5735da824b0252b8d4871a42c81840", func := "rowlock/rowlocklaw23.FlowsMean", spec := "flowsMean", inPlace := ["math.Float64bits", "math.Float64frombits"], unfollowed := true, recurses := true, apart := false }
def FlowsMeanSaid : Prop := flowsMeanRow.holds Try.pinned (OpenSpec.ofChange flowsMeanSpec)

/-- ITS FALSE NEIGHBOUR: 'it returns false'. Refute it at one input. -/
def flowsMeanWrong : ChangeSpec := { name := "flowsMean", fn := fun _ => fun
  | [d1, d2, d3] => { results := [.lit (.bool false)], args := [d1, d2, d3] }
  | _ => none }
def FlowsMeanWrongFalsely : Prop := flowsMeanRow.holds Try.pinned (OpenSpec.ofChange flowsMeanWrong)

/- THE SECOND FORM. 'bulk': how many values and letters a reading holds, each counted each time it is reached (what is shared counts as often as it is met; a slice's spare places count too). A statement '..UptoSaid' is the law's where the arguments, and the package variables that the reading takes, are together of bulk at most 1048576: NARROWER than '..Said'. Prove '..Said' where nothing that the law and all that it calls make is longer than what came in: it says more and counts as full. Else prove '..UptoSaid'. A law counts once. -/
mutual
def uptoBulk {H : Type} : DataW H → Nat
  | .lit (.string bytes) => bytes.length + 1
  | .lit _ => 1
  | .nil => 1
  | .ptr d => uptoBulk d + 1
  | .slice elems spare => uptoBulkAll elems + uptoBulkAll spare + 1
  | .agg parts => uptoBulkAll parts + 1
  | .iface _ d => uptoBulk d + 1
  | .map entries => uptoBulkEntries entries + 1
  | .held _ => 1
def uptoBulkAll {H : Type} : List (DataW H) → Nat
  | [] => 0
  | d :: r => uptoBulk d + uptoBulkAll r
def uptoBulkEntries {H : Type} : List (Lit × DataW H) → Nat
  | [] => 0
  | x :: r => uptoBulkEntry x + uptoBulkEntries r
def uptoBulkEntry {H : Type} : Lit × DataW H → Nat
  | (.string bytes, d) => bytes.length + uptoBulk d + 1
  | (_, d) => uptoBulk d + 1
 end
def uptoSmall : (H : Type) → List (DataW H) → Bool := fun _ ds => decide (uptoBulkAll ds ≤ 1048576)
def OpenSpec.upto (s : _root_.Go.ChangeSpec) : _root_.Go.OpenSpec := { _root_.Go.OpenSpec.ofChange s with cond := some uptoSmall }

/-- 'rowlocklaw22.LocksMay', WHERE WHAT IT READS IS OF BULK AT MOST 1048576: true; the input reads as it did. -/
def locksMayUptoRow : OpenClaim := { program := "ytcjkpeojjonpiaa", sum := "a85630e12d749adee37bae8a0c113e870a5735da824b0252b8d4871a42c81840", func := "rowlock/rowlocklaw22.LocksMay", spec := "locksMay", inPlace := ["math.Float64bits", "math.Float64frombits"], apart := false, narrowed := true }
def LocksMayUptoSaid : Prop := locksMayUptoRow.holds Try.pinned (OpenSpec.upto locksMaySpec)

/-- 'rowlocklaw22.LocksMean', WHERE WHAT IT READS IS OF BULK AT MOST 1048576: true; the input reads as it did. -/
def locksMeanUptoRow : OpenClaim := { program := "ytcjkpeojjonpiaa", sum := "a85630e12d749adee37bae8a0c113e870a5735da824b0252b8d4871a42c81840", func := "rowlock/rowlocklaw22.LocksMean", spec := "locksMean", inPlace := ["math.Float64bits", "math.Float64frombits"], apart := false, narrowed := true }
def LocksMeanUptoSaid : Prop := locksMeanUptoRow.holds Try.pinned (OpenSpec.upto locksMeanSpec)

/-- 'rowlocklaw23.FlowsBarriers', WHERE WHAT IT READS IS OF BULK AT MOST 1048576: true; the input reads as it did. -/
def flowsBarriersUptoRow : OpenClaim := { program := "ytcjkpeojjonpiaa", sum := "a85630e12d749adee37bae8a0c113e870a5735da824b0252b8d4871a42c81840", func := "rowlock/rowlocklaw23.FlowsBarriers", spec := "flowsBarriers", inPlace := ["math.Float64bits"], unfollowed := true, recurses := true, apart := false, narrowed := true }
def FlowsBarriersUptoSaid : Prop := flowsBarriersUptoRow.holds Try.pinned (OpenSpec.upto flowsBarriersSpec)

/-- 'rowlocklaw23.FlowsQueues', WHERE WHAT IT READS IS OF BULK AT MOST 1048576: true; the input reads as it did. -/
def flowsQueuesUptoRow : OpenClaim := { program := "ytcjkpeojjonpiaa", sum := "a85630e12d749adee37bae8a0c113e870a5735da824b0252b8d4871a42c81840", func := "rowlock/rowlocklaw23.FlowsQueues", spec := "flowsQueues", inPlace := ["math.Float64bits", "math.Float64frombits"], unfollowed := true, recurses := true, apart := false, narrowed := true }
def FlowsQueuesUptoSaid : Prop := flowsQueuesUptoRow.holds Try.pinned (OpenSpec.upto flowsQueuesSpec)

/-- 'rowlocklaw23.FlowsMay', WHERE WHAT IT READS IS OF BULK AT MOST 1048576: true; the input reads as it did. -/
def flowsMayUptoRow : OpenClaim := { program := "ytcjkpeojjonpiaa", sum := "a85630e12d749adee37bae8a0c113e870a5735da824b0252b8d4871a42c81840", func := "rowlock/rowlocklaw23.FlowsMay", spec := "flowsMay", inPlace := ["math.Float64frombits", "math.Float64bits"], unfollowed := true, recurses := true, apart := false, narrowed := true }
def FlowsMayUptoSaid : Prop := flowsMayUptoRow.holds Try.pinned (OpenSpec.upto flowsMaySpec)

/-- 'rowlocklaw23.FlowsMean', WHERE WHAT IT READS IS OF BULK AT MOST 1048576: true; the input reads as it did. -/
def flowsMeanUptoRow : OpenClaim := { program := "ytcjkpeojjonpiaa", sum := "a85630e12d749adee37bae8a0c113e870a5735da824b0252b8d4871a42c81840", func := "rowlock/rowlocklaw23.FlowsMean", spec := "flowsMean", inPlace := ["math.Float64bits", "math.Float64frombits"], unfollowed := true, recurses := true, apart := false, narrowed := true }
def FlowsMeanUptoSaid : Prop := flowsMeanUptoRow.holds Try.pinned (OpenSpec.upto flowsMeanSpec)

end Rows
end Go.Proofs.Ytcjkpeojjonpiaa
