/-
  No cell of these rows narrows 'for every input' (looked for: loops, veiled, ifaces, maps, wideKeys, modest, calm, conditions, laid).
  DERIVED. THE GIVEN ROWS OF THIS SEAT. 8 by the template 'for every input the law returns true; each argument reads behind the call as it read before'; 0 by the template 'total and deterministic' (their statements: YteojcehneipgdaaGreatTotals.lean).
  GIVEN WITH THE SEED: the statements are not yours to turn. If you find one false, say at which input.
  Laid BY PROGRAM, IN A SANDBOX (cutbox-rows.mjs): the forced cells as the released guide's own fill.sh prints them over the translation 0fab8cf014a69a70… (all of the seat's roots in one cut). By AI agents, Wed Nov 11 2026. No macro, syntax, notation, axiom, sorry.
-/
import Derived.Test.YteojcehneipgdaaGreatChecked
import GoSem.Claim
import GoSem.ClaimJoined
import GoSem.ClaimMapViews
import Derived.JoinedTies
import Derived.KernelRfl
namespace Go.Proofs.YteojcehneipgdaaGreat
/- THE CELL 'sum', in the pinned program and in every row, IS THE sha256 OF THE DUMP (.gsa) THAT YteojcehneipgdaaGreatProg.lean LOADS. Nothing in Lean hashes anything: it is a label: what it is worth is what the hold of that sum in a sandbox is worth. -/
noncomputable def Tryz.pinned : Pinned := { name := "yteojcehneipgdaagreat", sum := "0fab8cf014a69a70d11dfe078e7355ba9021d38941ec2ae1340687ce2ace72e5", checked := Tryz.checked }
namespace Rows
def none {H : Type} : Left H := { results := [], args := [] }

/-- 'laws.FnStep': WHATEVER THE INPUT: true; the input reads as it did. -/
def fnStepSpec : ChangeSpec := { name := "fnStep", fn := fun _ => fun
  | [d] => { results := [.lit (.bool true)], args := [d] }
  | _ => none }
def fnStepRow : OpenClaim := { program := "yteojcehneipgdaagreat", sum := "0fab8cf014a69a70d11dfe078e7355ba9021d38941ec2ae1340687ce2ace72e5", func := "loop.example/g00249/laws.FnStep", spec := "fnStep", unfollowed := true, recurses := true, apart := false }
def FnStepSaid : Prop := fnStepRow.holds Tryz.pinned (OpenSpec.ofChange fnStepSpec)

/-- ITS FALSE NEIGHBOUR: 'it returns false'. Refute it at one input. -/
def fnStepWrong : ChangeSpec := { name := "fnStep", fn := fun _ => fun
  | [d] => { results := [.lit (.bool false)], args := [d] }
  | _ => none }
def FnStepWrongFalsely : Prop := fnStepRow.holds Tryz.pinned (OpenSpec.ofChange fnStepWrong)

/-- 'laws.FnRun': WHATEVER THE INPUT: true; the input reads as it did. -/
def fnRunSpec : ChangeSpec := { name := "fnRun", fn := fun _ => fun
  | [d] => { results := [.lit (.bool true)], args := [d] }
  | _ => none }
def fnRunRow : OpenClaim := { program := "yteojcehneipgdaagreat", sum := "0fab8cf014a69a70d11dfe078e7355ba9021d38941ec2ae1340687ce2ace72e5", func := "loop.example/g00249/laws.FnRun", spec := "fnRun", unfollowed := true, recurses := true, apart := false }
def FnRunSaid : Prop := fnRunRow.holds Tryz.pinned (OpenSpec.ofChange fnRunSpec)

/-- ITS FALSE NEIGHBOUR: 'it returns false'. Refute it at one input. -/
def fnRunWrong : ChangeSpec := { name := "fnRun", fn := fun _ => fun
  | [d] => { results := [.lit (.bool false)], args := [d] }
  | _ => none }
def FnRunWrongFalsely : Prop := fnRunRow.holds Tryz.pinned (OpenSpec.ofChange fnRunWrong)

/-- 'laws.FnClosed': WHATEVER THE INPUT: true; the input reads as it did. -/
def fnClosedSpec : ChangeSpec := { name := "fnClosed", fn := fun _ => fun
  | [d] => { results := [.lit (.bool true)], args := [d] }
  | _ => none }
def fnClosedRow : OpenClaim := { program := "yteojcehneipgdaagreat", sum := "0fab8cf014a69a70d11dfe078e7355ba9021d38941ec2ae1340687ce2ace72e5", func := "loop.example/g00249/laws.FnClosed", spec := "fnClosed", unfollowed := true, recurses := true, apart := false }
def FnClosedSaid : Prop := fnClosedRow.holds Tryz.pinned (OpenSpec.ofChange fnClosedSpec)

/-- ITS FALSE NEIGHBOUR: 'it returns false'. Refute it at one input. -/
def fnClosedWrong : ChangeSpec := { name := "fnClosed", fn := fun _ => fun
  | [d] => { results := [.lit (.bool false)], args := [d] }
  | _ => none }
def FnClosedWrongFalsely : Prop := fnClosedRow.holds Tryz.pinned (OpenSpec.ofChange fnClosedWrong)

/-- 'laws.FnPulled': WHATEVER THE INPUT: true; the input reads as it did. -/
def fnPulledSpec : ChangeSpec := { name := "fnPulled", fn := fun _ => fun
  | [d] => { results := [.lit (.bool true)], args := [d] }
  | _ => none }
def fnPulledRow : OpenClaim := { program := "yteojcehneipgdaagreat", sum := "0fab8cf014a69a70d11dfe078e7355ba9021d38941ec2ae1340687ce2ace72e5", func := "loop.example/g00249/laws.FnPulled", spec := "fnPulled", unfollowed := true, recurses := true, apart := false }
def FnPulledSaid : Prop := fnPulledRow.holds Tryz.pinned (OpenSpec.ofChange fnPulledSpec)

/-- ITS FALSE NEIGHBOUR: 'it returns false'. Refute it at one input. -/
def fnPulledWrong : ChangeSpec := { name := "fnPulled", fn := fun _ => fun
  | [d] => { results := [.lit (.bool false)], args := [d] }
  | _ => none }
def FnPulledWrongFalsely : Prop := fnPulledRow.holds Tryz.pinned (OpenSpec.ofChange fnPulledWrong)

/-- 'laws.FnCommitted': WHATEVER THE INPUT: true; the input reads as it did. -/
def fnCommittedSpec : ChangeSpec := { name := "fnCommitted", fn := fun _ => fun
  | [d] => { results := [.lit (.bool true)], args := [d] }
  | _ => none }
def fnCommittedRow : OpenClaim := { program := "yteojcehneipgdaagreat", sum := "0fab8cf014a69a70d11dfe078e7355ba9021d38941ec2ae1340687ce2ace72e5", func := "loop.example/g00249/laws.FnCommitted", spec := "fnCommitted", unfollowed := true, recurses := true, apart := false }
def FnCommittedSaid : Prop := fnCommittedRow.holds Tryz.pinned (OpenSpec.ofChange fnCommittedSpec)

/-- ITS FALSE NEIGHBOUR: 'it returns false'. Refute it at one input. -/
def fnCommittedWrong : ChangeSpec := { name := "fnCommitted", fn := fun _ => fun
  | [d] => { results := [.lit (.bool false)], args := [d] }
  | _ => none }
def FnCommittedWrongFalsely : Prop := fnCommittedRow.holds Tryz.pinned (OpenSpec.ofChange fnCommittedWrong)

/-- 'laws.FnSettled': WHATEVER THE INPUT: true; the input reads as it did. -/
def fnSettledSpec : ChangeSpec := { name := "fnSettled", fn := fun _ => fun
  | [d] => { results := [.lit (.bool true)], args := [d] }
  | _ => none }
def fnSettledRow : OpenClaim := { program := "yteojcehneipgdaagreat", sum := "0fab8cf014a69a70d11dfe078e7355ba9021d38941ec2ae1340687ce2ace72e5", func := "loop.example/g00249/laws.FnSettled", spec := "fnSettled", unfollowed := true, recurses := true, apart := false }
def FnSettledSaid : Prop := fnSettledRow.holds Tryz.pinned (OpenSpec.ofChange fnSettledSpec)

/-- ITS FALSE NEIGHBOUR: 'it returns false'. Refute it at one input. -/
def fnSettledWrong : ChangeSpec := { name := "fnSettled", fn := fun _ => fun
  | [d] => { results := [.lit (.bool false)], args := [d] }
  | _ => none }
def FnSettledWrongFalsely : Prop := fnSettledRow.holds Tryz.pinned (OpenSpec.ofChange fnSettledWrong)

/-- 'laws.FnValues': WHATEVER THE INPUT: true; the input reads as it did. -/
def fnValuesSpec : ChangeSpec := { name := "fnValues", fn := fun _ => fun
  | [d] => { results := [.lit (.bool true)], args := [d] }
  | _ => none }
def fnValuesRow : OpenClaim := { program := "yteojcehneipgdaagreat", sum := "0fab8cf014a69a70d11dfe078e7355ba9021d38941ec2ae1340687ce2ace72e5", func := "loop.example/g00249/laws.FnValues", spec := "fnValues", unfollowed := true, recurses := true, apart := false }
def FnValuesSaid : Prop := fnValuesRow.holds Tryz.pinned (OpenSpec.ofChange fnValuesSpec)

/-- ITS FALSE NEIGHBOUR: 'it returns false'. Refute it at one input. -/
def fnValuesWrong : ChangeSpec := { name := "fnValues", fn := fun _ => fun
  | [d] => { results := [.lit (.bool false)], args := [d] }
  | _ => none }
def FnValuesWrongFalsely : Prop := fnValuesRow.holds Tryz.pinned (OpenSpec.ofChange fnValuesWrong)

/-- 'laws.FnDone': WHATEVER THE INPUT: true; the input reads as it did. -/
def fnDoneSpec : ChangeSpec := { name := "fnDone", fn := fun _ => fun
  | [d] => { results := [.lit (.bool true)], args := [d] }
  | _ => none }
def fnDoneRow : OpenClaim := { program := "yteojcehneipgdaagreat", sum := "0fab8cf014a69a70d11dfe078e7355ba9021d38941ec2ae1340687ce2ace72e5", func := "loop.example/g00249/laws.FnDone", spec := "fnDone", unfollowed := true, recurses := true, apart := false }
def FnDoneSaid : Prop := fnDoneRow.holds Tryz.pinned (OpenSpec.ofChange fnDoneSpec)

/-- ITS FALSE NEIGHBOUR: 'it returns false'. Refute it at one input. -/
def fnDoneWrong : ChangeSpec := { name := "fnDone", fn := fun _ => fun
  | [d] => { results := [.lit (.bool false)], args := [d] }
  | _ => none }
def FnDoneWrongFalsely : Prop := fnDoneRow.holds Tryz.pinned (OpenSpec.ofChange fnDoneWrong)

/- THE SECOND FORM. 'bulk': how many values and letters a reading holds, each counted each time it is reached (what is shared counts as often as it is met; a slice's spare places count too). A statement '..UptoSaid' is the law's where the arguments, and the package variables that the reading takes, are together of bulk at most 1048576: NARROWER than '..Said'. Prove '..Said' where nothing that the law and all that it calls make is longer than what came in: it says more and counts as full. Else prove '..UptoSaid'. A law counts once. -/
mutual
def uptoBulk {H : Type} : DataW H → Nat
  | .lit (.string bytes) => bytes.length + 1
  | .lit _ => 1
  | .nil => 1
  | .ptr d => uptoBulk d + 1
  | .slice elems spare => uptoBulkAll elems + uptoBulkAll spare + 1
  | .agg parts => uptoBulkAll parts + 1
  | .iface _ d => uptoBulk d + 1
  | .map entries => uptoBulkEntries entries + 1
  | .held _ => 1
def uptoBulkAll {H : Type} : List (DataW H) → Nat
  | [] => 0
  | d :: r => uptoBulk d + uptoBulkAll r
def uptoBulkEntries {H : Type} : List (Lit × DataW H) → Nat
  | [] => 0
  | x :: r => uptoBulkEntry x + uptoBulkEntries r
def uptoBulkEntry {H : Type} : Lit × DataW H → Nat
  | (.string bytes, d) => bytes.length + uptoBulk d + 1
  | (_, d) => uptoBulk d + 1
 end
def uptoSmall : (H : Type) → List (DataW H) → Bool := fun _ ds => decide (uptoBulkAll ds ≤ 1048576)
def OpenSpec.upto (s : _root_.Go.ChangeSpec) : _root_.Go.OpenSpec := { _root_.Go.OpenSpec.ofChange s with cond := some uptoSmall }

/-- 'laws.FnStep', WHERE WHAT IT READS IS OF BULK AT MOST 1048576: true; the input reads as it did. -/
def fnStepUptoRow : OpenClaim := { program := "yteojcehneipgdaagreat", sum := "0fab8cf014a69a70d11dfe078e7355ba9021d38941ec2ae1340687ce2ace72e5", func := "loop.example/g00249/laws.FnStep", spec := "fnStep", unfollowed := true, recurses := true, apart := false, narrowed := true }
def FnStepUptoSaid : Prop := fnStepUptoRow.holds Tryz.pinned (OpenSpec.upto fnStepSpec)

/-- 'laws.FnRun', WHERE WHAT IT READS IS OF BULK AT MOST 1048576: true; the input reads as it did. -/
def fnRunUptoRow : OpenClaim := { program := "yteojcehneipgdaagreat", sum := "0fab8cf014a69a70d11dfe078e7355ba9021d38941ec2ae1340687ce2ace72e5", func := "loop.example/g00249/laws.FnRun", spec := "fnRun", unfollowed := true, recurses := true, apart := false, narrowed := true }
def FnRunUptoSaid : Prop := fnRunUptoRow.holds Tryz.pinned (OpenSpec.upto fnRunSpec)

/-- 'laws.FnClosed', WHERE WHAT IT READS IS OF BULK AT MOST 1048576: true; the input reads as it did. -/
def fnClosedUptoRow : OpenClaim := { program := "yteojcehneipgdaagreat", sum := "0fab8cf014a69a70d11dfe078e7355ba9021d38941ec2ae1340687ce2ace72e5", func := "loop.example/g00249/laws.FnClosed", spec := "fnClosed", unfollowed := true, recurses := true, apart := false, narrowed := true }
def FnClosedUptoSaid : Prop := fnClosedUptoRow.holds Tryz.pinned (OpenSpec.upto fnClosedSpec)

/-- 'laws.FnPulled', WHERE WHAT IT READS IS OF BULK AT MOST 1048576: true; the input reads as it did. -/
def fnPulledUptoRow : OpenClaim := { program := "yteojcehneipgdaagreat", sum := "0fab8cf014a69a70d11dfe078e7355ba9021d38941ec2ae1340687ce2ace72e5", func := "loop.example/g00249/laws.FnPulled", spec := "fnPulled", unfollowed := true, recurses := true, apart := false, narrowed := true }
def FnPulledUptoSaid : Prop := fnPulledUptoRow.holds Tryz.pinned (OpenSpec.upto fnPulledSpec)

/-- 'laws.FnCommitted', WHERE WHAT IT READS IS OF BULK AT MOST 1048576: true; the input reads as it did. -/
def fnCommittedUptoRow : OpenClaim := { program := "yteojcehneipgdaagreat", sum := "0fab8cf014a69a70d11dfe078e7355ba9021d38941ec2ae1340687ce2ace72e5", func := "loop.example/g00249/laws.FnCommitted", spec := "fnCommitted", unfollowed := true, recurses := true, apart := false, narrowed := true }
def FnCommittedUptoSaid : Prop := fnCommittedUptoRow.holds Tryz.pinned (OpenSpec.upto fnCommittedSpec)

/-- 'laws.FnSettled', WHERE WHAT IT READS IS OF BULK AT MOST 1048576: true; the input reads as it did. -/
def fnSettledUptoRow : OpenClaim := { program := "yteojcehneipgdaagreat", sum := "0fab8cf014a69a70d11dfe078e7355ba9021d38941ec2ae1340687ce2ace72e5", func := "loop.example/g00249/laws.FnSettled", spec := "fnSettled", unfollowed := true, recurses := true, apart := false, narrowed := true }
def FnSettledUptoSaid : Prop := fnSettledUptoRow.holds Tryz.pinned (OpenSpec.upto fnSettledSpec)

/-- 'laws.FnValues', WHERE WHAT IT READS IS OF BULK AT MOST 1048576: true; the input reads as it did. -/
def fnValuesUptoRow : OpenClaim := { program := "yteojcehneipgdaagreat", sum := "0fab8cf014a69a70d11dfe078e7355ba9021d38941ec2ae1340687ce2ace72e5", func := "loop.example/g00249/laws.FnValues", spec := "fnValues", unfollowed := true, recurses := true, apart := false, narrowed := true }
def FnValuesUptoSaid : Prop := fnValuesUptoRow.holds Tryz.pinned (OpenSpec.upto fnValuesSpec)

/-- 'laws.FnDone', WHERE WHAT IT READS IS OF BULK AT MOST 1048576: true; the input reads as it did. -/
def fnDoneUptoRow : OpenClaim := { program := "yteojcehneipgdaagreat", sum := "0fab8cf014a69a70d11dfe078e7355ba9021d38941ec2ae1340687ce2ace72e5", func := "loop.example/g00249/laws.FnDone", spec := "fnDone", unfollowed := true, recurses := true, apart := false, narrowed := true }
def FnDoneUptoSaid : Prop := fnDoneUptoRow.holds Tryz.pinned (OpenSpec.upto fnDoneSpec)

end Rows
end Go.Proofs.YteojcehneipgdaaGreat
