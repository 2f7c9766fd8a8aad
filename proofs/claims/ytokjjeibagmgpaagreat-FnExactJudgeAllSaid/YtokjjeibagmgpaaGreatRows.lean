/-
  No cell of these rows narrows 'for every input' (looked for: loops, veiled, ifaces, maps, wideKeys, modest, calm, conditions, laid).
  DERIVED. THE GIVEN ROWS OF THIS SEAT. 9 by the template 'for every input the law returns true; each argument reads behind the call as it read before'; 0 by the template 'total and deterministic' (their statements: YtokjjeibagmgpaaGreatTotals.lean).
  GIVEN WITH THE SEED: the statements are not yours to turn. If you find one false, say at which input.
  Laid BY PROGRAM, IN A SANDBOX (cutbox-rows.mjs): the forced cells as the released guide's own fill.sh prints them over the translation 2a6452efdbe71d9c… (all of the seat's roots in one cut). By AI agents, Wed Nov 11 2026. No macro, syntax, notation, axiom, sorry.
-/
import Derived.Test.YtokjjeibagmgpaaGreatChecked
import GoSem.Claim
import GoSem.ClaimJoined
import GoSem.ClaimMapViews
import Derived.JoinedTies
import Derived.KernelRfl
namespace Go.Proofs.YtokjjeibagmgpaaGreat
/- THE CELL 'sum', in the pinned program and in every row, IS THE sha256 OF THE DUMP (.gsa) THAT YtokjjeibagmgpaaGreatProg.lean LOADS. Nothing in Lean hashes anything: it is a label: what it is worth is what the hold of that sum in a sandbox is worth. -/
noncomputable def Tryz.pinned : Pinned := { name := "ytokjjeibagmgpaagreat", sum := "2a6452efdbe71d9c2837cc6e1df3b4fc6947be069f0c32affc84ecd01c3fec0f", checked := Tryz.checked }
namespace Rows
def none {H : Type} : Left H := { results := [], args := [] }

/-- 'laws.FnExactOutOrder': WHATEVER THE INPUT: true; the input reads as it did. -/
def fnExactOutOrderSpec : ChangeSpec := { name := "fnExactOutOrder", fn := fun _ => fun
  | [d1, d2, d3, d4] => { results := [.lit (.bool true)], args := [d1, d2, d3, d4] }
  | _ => none }
def fnExactOutOrderRow : OpenClaim := { program := "ytokjjeibagmgpaagreat", sum := "2a6452efdbe71d9c2837cc6e1df3b4fc6947be069f0c32affc84ecd01c3fec0f", func := "loop.example/g00249/laws.FnExactOutOrder", spec := "fnExactOutOrder", unfollowed := true, recurses := true, apart := false }
def FnExactOutOrderSaid : Prop := fnExactOutOrderRow.holds Tryz.pinned (OpenSpec.ofChange fnExactOutOrderSpec)

/-- ITS FALSE NEIGHBOUR: 'it returns false'. Refute it at one input. -/
def fnExactOutOrderWrong : ChangeSpec := { name := "fnExactOutOrder", fn := fun _ => fun
  | [d1, d2, d3, d4] => { results := [.lit (.bool false)], args := [d1, d2, d3, d4] }
  | _ => none }
def FnExactOutOrderWrongFalsely : Prop := fnExactOutOrderRow.holds Tryz.pinned (OpenSpec.ofChange fnExactOutOrderWrong)

/-- 'laws.FnExactAgree': WHATEVER THE INPUT: true; the input reads as it did. -/
def fnExactAgreeSpec : ChangeSpec := { name := "fnExactAgree", fn := fun _ => fun
  | [d1, d2, d3, d4] => { results := [.lit (.bool true)], args := [d1, d2, d3, d4] }
  | _ => none }
def fnExactAgreeRow : OpenClaim := { program := "ytokjjeibagmgpaagreat", sum := "2a6452efdbe71d9c2837cc6e1df3b4fc6947be069f0c32affc84ecd01c3fec0f", func := "loop.example/g00249/laws.FnExactAgree", spec := "fnExactAgree", unfollowed := true, recurses := true, apart := false }
def FnExactAgreeSaid : Prop := fnExactAgreeRow.holds Tryz.pinned (OpenSpec.ofChange fnExactAgreeSpec)

/-- ITS FALSE NEIGHBOUR: 'it returns false'. Refute it at one input. -/
def fnExactAgreeWrong : ChangeSpec := { name := "fnExactAgree", fn := fun _ => fun
  | [d1, d2, d3, d4] => { results := [.lit (.bool false)], args := [d1, d2, d3, d4] }
  | _ => none }
def FnExactAgreeWrongFalsely : Prop := fnExactAgreeRow.holds Tryz.pinned (OpenSpec.ofChange fnExactAgreeWrong)

/-- 'laws.FnExactJudgeKeys': WHATEVER THE INPUT: true; the input reads as it did. -/
def fnExactJudgeKeysSpec : ChangeSpec := { name := "fnExactJudgeKeys", fn := fun _ => fun
  | [d1, d2, d3] => { results := [.lit (.bool true)], args := [d1, d2, d3] }
  | _ => none }
def fnExactJudgeKeysRow : OpenClaim := { program := "ytokjjeibagmgpaagreat", sum := "2a6452efdbe71d9c2837cc6e1df3b4fc6947be069f0c32affc84ecd01c3fec0f", func := "loop.example/g00249/laws.FnExactJudgeKeys", spec := "fnExactJudgeKeys", unfollowed := true, recurses := true, apart := false }
def FnExactJudgeKeysSaid : Prop := fnExactJudgeKeysRow.holds Tryz.pinned (OpenSpec.ofChange fnExactJudgeKeysSpec)

/-- ITS FALSE NEIGHBOUR: 'it returns false'. Refute it at one input. -/
def fnExactJudgeKeysWrong : ChangeSpec := { name := "fnExactJudgeKeys", fn := fun _ => fun
  | [d1, d2, d3] => { results := [.lit (.bool false)], args := [d1, d2, d3] }
  | _ => none }
def FnExactJudgeKeysWrongFalsely : Prop := fnExactJudgeKeysRow.holds Tryz.pinned (OpenSpec.ofChange fnExactJudgeKeysWrong)

/-- 'laws.FnExactDo': WHATEVER THE INPUT: true; the input reads as it did. -/
def fnExactDoSpec : ChangeSpec := { name := "fnExactDo", fn := fun _ => fun
  | [d1, d2] => { results := [.lit (.bool true)], args := [d1, d2] }
  | _ => none }
def fnExactDoRow : OpenClaim := { program := "ytokjjeibagmgpaagreat", sum := "2a6452efdbe71d9c2837cc6e1df3b4fc6947be069f0c32affc84ecd01c3fec0f", func := "loop.example/g00249/laws.FnExactDo", spec := "fnExactDo", unfollowed := true, recurses := true, apart := false }
def FnExactDoSaid : Prop := fnExactDoRow.holds Tryz.pinned (OpenSpec.ofChange fnExactDoSpec)

/-- ITS FALSE NEIGHBOUR: 'it returns false'. Refute it at one input. -/
def fnExactDoWrong : ChangeSpec := { name := "fnExactDo", fn := fun _ => fun
  | [d1, d2] => { results := [.lit (.bool false)], args := [d1, d2] }
  | _ => none }
def FnExactDoWrongFalsely : Prop := fnExactDoRow.holds Tryz.pinned (OpenSpec.ofChange fnExactDoWrong)

/-- 'laws.FnExactJudgeSame': WHATEVER THE INPUT: true; the input reads as it did. -/
def fnExactJudgeSameSpec : ChangeSpec := { name := "fnExactJudgeSame", fn := fun _ => fun
  | [d1, d2, d3] => { results := [.lit (.bool true)], args := [d1, d2, d3] }
  | _ => none }
def fnExactJudgeSameRow : OpenClaim := { program := "ytokjjeibagmgpaagreat", sum := "2a6452efdbe71d9c2837cc6e1df3b4fc6947be069f0c32affc84ecd01c3fec0f", func := "loop.example/g00249/laws.FnExactJudgeSame", spec := "fnExactJudgeSame", unfollowed := true, recurses := true, apart := false }
def FnExactJudgeSameSaid : Prop := fnExactJudgeSameRow.holds Tryz.pinned (OpenSpec.ofChange fnExactJudgeSameSpec)

/-- ITS FALSE NEIGHBOUR: 'it returns false'. Refute it at one input. -/
def fnExactJudgeSameWrong : ChangeSpec := { name := "fnExactJudgeSame", fn := fun _ => fun
  | [d1, d2, d3] => { results := [.lit (.bool false)], args := [d1, d2, d3] }
  | _ => none }
def FnExactJudgeSameWrongFalsely : Prop := fnExactJudgeSameRow.holds Tryz.pinned (OpenSpec.ofChange fnExactJudgeSameWrong)

/-- 'laws.FnExactJudgeAll': WHATEVER THE INPUT: true; the input reads as it did. -/
def fnExactJudgeAllSpec : ChangeSpec := { name := "fnExactJudgeAll", fn := fun _ => fun
  | [d1, d2, d3] => { results := [.lit (.bool true)], args := [d1, d2, d3] }
  | _ => none }
def fnExactJudgeAllRow : OpenClaim := { program := "ytokjjeibagmgpaagreat", sum := "2a6452efdbe71d9c2837cc6e1df3b4fc6947be069f0c32affc84ecd01c3fec0f", func := "loop.example/g00249/laws.FnExactJudgeAll", spec := "fnExactJudgeAll", unfollowed := true, recurses := true, apart := false }
def FnExactJudgeAllSaid : Prop := fnExactJudgeAllRow.holds Tryz.pinned (OpenSpec.ofChange fnExactJudgeAllSpec)

/-- ITS FALSE NEIGHBOUR: 'it returns false'. Refute it at one input. -/
def fnExactJudgeAllWrong : ChangeSpec := { name := "fnExactJudgeAll", fn := fun _ => fun
  | [d1, d2, d3] => { results := [.lit (.bool false)], args := [d1, d2, d3] }
  | _ => none }
def FnExactJudgeAllWrongFalsely : Prop := fnExactJudgeAllRow.holds Tryz.pinned (OpenSpec.ofChange fnExactJudgeAllWrong)

/-- 'laws.FnExactSettle': WHATEVER THE INPUT: true; the input reads as it did. -/
def fnExactSettleSpec : ChangeSpec := { name := "fnExactSettle", fn := fun _ => fun
  | [d1, d2] => { results := [.lit (.bool true)], args := [d1, d2] }
  | _ => none }
def fnExactSettleRow : OpenClaim := { program := "ytokjjeibagmgpaagreat", sum := "2a6452efdbe71d9c2837cc6e1df3b4fc6947be069f0c32affc84ecd01c3fec0f", func := "loop.example/g00249/laws.FnExactSettle", spec := "fnExactSettle", unfollowed := true, recurses := true, apart := false }
def FnExactSettleSaid : Prop := fnExactSettleRow.holds Tryz.pinned (OpenSpec.ofChange fnExactSettleSpec)

/-- ITS FALSE NEIGHBOUR: 'it returns false'. Refute it at one input. -/
def fnExactSettleWrong : ChangeSpec := { name := "fnExactSettle", fn := fun _ => fun
  | [d1, d2] => { results := [.lit (.bool false)], args := [d1, d2] }
  | _ => none }
def FnExactSettleWrongFalsely : Prop := fnExactSettleRow.holds Tryz.pinned (OpenSpec.ofChange fnExactSettleWrong)

/-- 'laws.FnExactCorePick': WHATEVER THE INPUT: true; the input reads as it did. -/
def fnExactCorePickSpec : ChangeSpec := { name := "fnExactCorePick", fn := fun _ => fun
  | [d1, d2, d3] => { results := [.lit (.bool true)], args := [d1, d2, d3] }
  | _ => none }
def fnExactCorePickRow : OpenClaim := { program := "ytokjjeibagmgpaagreat", sum := "2a6452efdbe71d9c2837cc6e1df3b4fc6947be069f0c32affc84ecd01c3fec0f", func := "loop.example/g00249/laws.FnExactCorePick", spec := "fnExactCorePick", unfollowed := true, recurses := true, apart := false }
def FnExactCorePickSaid : Prop := fnExactCorePickRow.holds Tryz.pinned (OpenSpec.ofChange fnExactCorePickSpec)

/-- ITS FALSE NEIGHBOUR: 'it returns false'. Refute it at one input. -/
def fnExactCorePickWrong : ChangeSpec := { name := "fnExactCorePick", fn := fun _ => fun
  | [d1, d2, d3] => { results := [.lit (.bool false)], args := [d1, d2, d3] }
  | _ => none }
def FnExactCorePickWrongFalsely : Prop := fnExactCorePickRow.holds Tryz.pinned (OpenSpec.ofChange fnExactCorePickWrong)

/-- 'laws.FnExactCoreRun': WHATEVER THE INPUT: true; the input reads as it did. -/
def fnExactCoreRunSpec : ChangeSpec := { name := "fnExactCoreRun", fn := fun _ => fun
  | [d1, d2, d3] => { results := [.lit (.bool true)], args := [d1, d2, d3] }
  | _ => none }
def fnExactCoreRunRow : OpenClaim := { program := "ytokjjeibagmgpaagreat", sum := "2a6452efdbe71d9c2837cc6e1df3b4fc6947be069f0c32affc84ecd01c3fec0f", func := "loop.example/g00249/laws.FnExactCoreRun", spec := "fnExactCoreRun", unfollowed := true, recurses := true, apart := false }
def FnExactCoreRunSaid : Prop := fnExactCoreRunRow.holds Tryz.pinned (OpenSpec.ofChange fnExactCoreRunSpec)

/-- ITS FALSE NEIGHBOUR: 'it returns false'. Refute it at one input. -/
def fnExactCoreRunWrong : ChangeSpec := { name := "fnExactCoreRun", fn := fun _ => fun
  | [d1, d2, d3] => { results := [.lit (.bool false)], args := [d1, d2, d3] }
  | _ => none }
def FnExactCoreRunWrongFalsely : Prop := fnExactCoreRunRow.holds Tryz.pinned (OpenSpec.ofChange fnExactCoreRunWrong)

/- THE SECOND FORM. 'bulk': how many values and letters a reading holds, each counted each time it is reached (what is shared counts as often as it is met; a slice's spare places count too). A statement '..UptoSaid' is the law's where the arguments, and the package variables that the reading takes, are together of bulk at most 1048576: NARROWER than '..Said'. Prove '..Said' where nothing that the law and all that it calls make is longer than what came in: it says more and counts as full. Else prove '..UptoSaid'. A law counts once. -/
mutual
def uptoBulk {H : Type} : DataW H → Nat
  | .lit (.string bytes) => bytes.length + 1
  | .lit _ => 1
  | .nil => 1
  | .ptr d => uptoBulk d + 1
  | .slice elems spare => uptoBulkAll elems + uptoBulkAll spare + 1
  | .agg parts => uptoBulkAll parts + 1
  | .iface _ d => uptoBulk d + 1
  | .map entries => uptoBulkEntries entries + 1
  | .held _ => 1
def uptoBulkAll {H : Type} : List (DataW H) → Nat
  | [] => 0
  | d :: r => uptoBulk d + uptoBulkAll r
def uptoBulkEntries {H : Type} : List (Lit × DataW H) → Nat
  | [] => 0
  | x :: r => uptoBulkEntry x + uptoBulkEntries r
def uptoBulkEntry {H : Type} : Lit × DataW H → Nat
  | (.string bytes, d) => bytes.length + uptoBulk d + 1
  | (_, d) => uptoBulk d + 1
 end
def uptoSmall : (H : Type) → List (DataW H) → Bool := fun _ ds => decide (uptoBulkAll ds ≤ 1048576)
def OpenSpec.upto (s : _root_.Go.ChangeSpec) : _root_.Go.OpenSpec := { _root_.Go.OpenSpec.ofChange s with cond := some uptoSmall }

/-- 'laws.FnExactOutOrder', WHERE WHAT IT READS IS OF BULK AT MOST 1048576: true; the input reads as it did. -/
def fnExactOutOrderUptoRow : OpenClaim := { program := "ytokjjeibagmgpaagreat", sum := "2a6452efdbe71d9c2837cc6e1df3b4fc6947be069f0c32affc84ecd01c3fec0f", func := "loop.example/g00249/laws.FnExactOutOrder", spec := "fnExactOutOrder", unfollowed := true, recurses := true, apart := false, narrowed := true }
def FnExactOutOrderUptoSaid : Prop := fnExactOutOrderUptoRow.holds Tryz.pinned (OpenSpec.upto fnExactOutOrderSpec)

/-- 'laws.FnExactAgree', WHERE WHAT IT READS IS OF BULK AT MOST 1048576: true; the input reads as it did. -/
def fnExactAgreeUptoRow : OpenClaim := { program := "ytokjjeibagmgpaagreat", sum := "2a6452efdbe71d9c2837cc6e1df3b4fc6947be069f0c32affc84ecd01c3fec0f", func := "loop.example/g00249/laws.FnExactAgree", spec := "fnExactAgree", unfollowed := true, recurses := true, apart := false, narrowed := true }
def FnExactAgreeUptoSaid : Prop := fnExactAgreeUptoRow.holds Tryz.pinned (OpenSpec.upto fnExactAgreeSpec)

/-- 'laws.FnExactJudgeKeys', WHERE WHAT IT READS IS OF BULK AT MOST 1048576: true; the input reads as it did. -/
def fnExactJudgeKeysUptoRow : OpenClaim := { program := "ytokjjeibagmgpaagreat", sum := "2a6452efdbe71d9c2837cc6e1df3b4fc6947be069f0c32affc84ecd01c3fec0f", func := "loop.example/g00249/laws.FnExactJudgeKeys", spec := "fnExactJudgeKeys", unfollowed := true, recurses := true, apart := false, narrowed := true }
def FnExactJudgeKeysUptoSaid : Prop := fnExactJudgeKeysUptoRow.holds Tryz.pinned (OpenSpec.upto fnExactJudgeKeysSpec)

/-- 'laws.FnExactDo', WHERE WHAT IT READS IS OF BULK AT MOST 1048576: true; the input reads as it did. -/
def fnExactDoUptoRow : OpenClaim := { program := "ytokjjeibagmgpaagreat", sum := "2a6452efdbe71d9c2837cc6e1df3b4fc6947be069f0c32affc84ecd01c3fec0f", func := "loop.example/g00249/laws.FnExactDo", spec := "fnExactDo", unfollowed := true, recurses := true, apart := false, narrowed := true }
def FnExactDoUptoSaid : Prop := fnExactDoUptoRow.holds Tryz.pinned (OpenSpec.upto fnExactDoSpec)

/-- 'laws.FnExactJudgeSame', WHERE WHAT IT READS IS OF BULK AT MOST 1048576: true; the input reads as it did. -/
def fnExactJudgeSameUptoRow : OpenClaim := { program := "ytokjjeibagmgpaagreat", sum := "2a6452efdbe71d9c2837cc6e1df3b4fc6947be069f0c32affc84ecd01c3fec0f", func := "loop.example/g00249/laws.FnExactJudgeSame", spec := "fnExactJudgeSame", unfollowed := true, recurses := true, apart := false, narrowed := true }
def FnExactJudgeSameUptoSaid : Prop := fnExactJudgeSameUptoRow.holds Tryz.pinned (OpenSpec.upto fnExactJudgeSameSpec)

/-- 'laws.FnExactJudgeAll', WHERE WHAT IT READS IS OF BULK AT MOST 1048576: true; the input reads as it did. -/
def fnExactJudgeAllUptoRow : OpenClaim := { program := "ytokjjeibagmgpaagreat", sum := "2a6452efdbe71d9c2837cc6e1df3b4fc6947be069f0c32affc84ecd01c3fec0f", func := "loop.example/g00249/laws.FnExactJudgeAll", spec := "fnExactJudgeAll", unfollowed := true, recurses := true, apart := false, narrowed := true }
def FnExactJudgeAllUptoSaid : Prop := fnExactJudgeAllUptoRow.holds Tryz.pinned (OpenSpec.upto fnExactJudgeAllSpec)

/-- 'laws.FnExactSettle', WHERE WHAT IT READS IS OF BULK AT MOST 1048576: true; the input reads as it did. -/
def fnExactSettleUptoRow : OpenClaim := { program := "ytokjjeibagmgpaagreat", sum := "2a6452efdbe71d9c2837cc6e1df3b4fc6947be069f0c32affc84ecd01c3fec0f", func := "loop.example/g00249/laws.FnExactSettle", spec := "fnExactSettle", unfollowed := true, recurses := true, apart := false, narrowed := true }
def FnExactSettleUptoSaid : Prop := fnExactSettleUptoRow.holds Tryz.pinned (OpenSpec.upto fnExactSettleSpec)

/-- 'laws.FnExactCorePick', WHERE WHAT IT READS IS OF BULK AT MOST 1048576: true; the input reads as it did. -/
def fnExactCorePickUptoRow : OpenClaim := { program := "ytokjjeibagmgpaagreat", sum := "2a6452efdbe71d9c2837cc6e1df3b4fc6947be069f0c32affc84ecd01c3fec0f", func := "loop.example/g00249/laws.FnExactCorePick", spec := "fnExactCorePick", unfollowed := true, recurses := true, apart := false, narrowed := true }
def FnExactCorePickUptoSaid : Prop := fnExactCorePickUptoRow.holds Tryz.pinned (OpenSpec.upto fnExactCorePickSpec)

/-- 'laws.FnExactCoreRun', WHERE WHAT IT READS IS OF BULK AT MOST 1048576: true; the input reads as it did. -/
def fnExactCoreRunUptoRow : OpenClaim := { program := "ytokjjeibagmgpaagreat", sum := "2a6452efdbe71d9c2837cc6e1df3b4fc6947be069f0c32affc84ecd01c3fec0f", func := "loop.example/g00249/laws.FnExactCoreRun", spec := "fnExactCoreRun", unfollowed := true, recurses := true, apart := false, narrowed := true }
def FnExactCoreRunUptoSaid : Prop := fnExactCoreRunUptoRow.holds Tryz.pinned (OpenSpec.upto fnExactCoreRunSpec)

end Rows
end Go.Proofs.YtokjjeibagmgpaaGreat
