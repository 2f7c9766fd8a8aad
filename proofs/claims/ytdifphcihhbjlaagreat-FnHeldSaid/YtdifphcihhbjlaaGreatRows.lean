/-
  No cell of these rows narrows 'for every input' (looked for: loops, veiled, ifaces, maps, wideKeys, modest, calm, conditions, laid).
  DERIVED. THE GIVEN ROWS OF THIS SEAT. 10 by the template 'for every input the law returns true; each argument reads behind the call as it read before'; 0 by the template 'total and deterministic' (their statements: YtdifphcihhbjlaaGreatTotals.lean).
  GIVEN WITH THE SEED: the statements are not yours to turn. If you find one false, say at which input.
  Laid BY PROGRAM, IN A SANDBOX (cutbox-rows.mjs): the forced cells as the released guide's own fill.sh prints them over the translation 60c5c46f2ed05284… (all of the seat's roots in one cut). By AI agents, Wed Nov 11 2026. No macro, syntax, notation, axiom, sorry.
-/
import Derived.Test.YtdifphcihhbjlaaGreatChecked
import GoSem.Claim
import GoSem.ClaimJoined
import GoSem.ClaimMapViews
import Derived.JoinedTies
import Derived.KernelRfl
namespace Go.Proofs.YtdifphcihhbjlaaGreat
/- THE CELL 'sum', in the pinned program and in every row, IS THE sha256 OF THE DUMP (.gsa) THAT YtdifphcihhbjlaaGreatProg.lean LOADS. Nothing in Lean hashes anything: it is a label: what it is worth is what the hold of that sum in a sandbox is worth. -/
noncomputable def Tryz.pinned : Pinned := { name := "ytdifphcihhbjlaagreat", sum := "60c5c46f2ed0528469eec3a1a5327d714a23060e294a1adc13dcaabd4dae48f1", checked := Tryz.checked }
namespace Rows
def none {H : Type} : Left H := { results := [], args := [] }

/-- 'laws.FnDone': WHATEVER THE INPUT: true; the input reads as it did. -/
def fnDoneSpec : ChangeSpec := { name := "fnDone", fn := fun _ => fun
  | [d] => { results := [.lit (.bool true)], args := [d] }
  | _ => none }
def fnDoneRow : OpenClaim := { program := "ytdifphcihhbjlaagreat", sum := "60c5c46f2ed0528469eec3a1a5327d714a23060e294a1adc13dcaabd4dae48f1", func := "loop.example/g00249/laws.FnDone", spec := "fnDone", unfollowed := true, recurses := true, apart := false }
def FnDoneSaid : Prop := fnDoneRow.holds Tryz.pinned (OpenSpec.ofChange fnDoneSpec)

/-- ITS FALSE NEIGHBOUR: 'it returns false'. Refute it at one input. -/
def fnDoneWrong : ChangeSpec := { name := "fnDone", fn := fun _ => fun
  | [d] => { results := [.lit (.bool false)], args := [d] }
  | _ => none }
def FnDoneWrongFalsely : Prop := fnDoneRow.holds Tryz.pinned (OpenSpec.ofChange fnDoneWrong)

/-- 'laws.FnSettled': WHATEVER THE INPUT: true; the input reads as it did. -/
def fnSettledSpec : ChangeSpec := { name := "fnSettled", fn := fun _ => fun
  | [d] => { results := [.lit (.bool true)], args := [d] }
  | _ => none }
def fnSettledRow : OpenClaim := { program := "ytdifphcihhbjlaagreat", sum := "60c5c46f2ed0528469eec3a1a5327d714a23060e294a1adc13dcaabd4dae48f1", func := "loop.example/g00249/laws.FnSettled", spec := "fnSettled", unfollowed := true, recurses := true, apart := false }
def FnSettledSaid : Prop := fnSettledRow.holds Tryz.pinned (OpenSpec.ofChange fnSettledSpec)

/-- ITS FALSE NEIGHBOUR: 'it returns false'. Refute it at one input. -/
def fnSettledWrong : ChangeSpec := { name := "fnSettled", fn := fun _ => fun
  | [d] => { results := [.lit (.bool false)], args := [d] }
  | _ => none }
def FnSettledWrongFalsely : Prop := fnSettledRow.holds Tryz.pinned (OpenSpec.ofChange fnSettledWrong)

/-- 'laws.FnGoneForGood': WHATEVER THE INPUT: true; the input reads as it did. -/
def fnGoneForGoodSpec : ChangeSpec := { name := "fnGoneForGood", fn := fun _ => fun
  | [d] => { results := [.lit (.bool true)], args := [d] }
  | _ => none }
def fnGoneForGoodRow : OpenClaim := { program := "ytdifphcihhbjlaagreat", sum := "60c5c46f2ed0528469eec3a1a5327d714a23060e294a1adc13dcaabd4dae48f1", func := "loop.example/g00249/laws.FnGoneForGood", spec := "fnGoneForGood", unfollowed := true, recurses := true, apart := false }
def FnGoneForGoodSaid : Prop := fnGoneForGoodRow.holds Tryz.pinned (OpenSpec.ofChange fnGoneForGoodSpec)

/-- ITS FALSE NEIGHBOUR: 'it returns false'. Refute it at one input. -/
def fnGoneForGoodWrong : ChangeSpec := { name := "fnGoneForGood", fn := fun _ => fun
  | [d] => { results := [.lit (.bool false)], args := [d] }
  | _ => none }
def FnGoneForGoodWrongFalsely : Prop := fnGoneForGoodRow.holds Tryz.pinned (OpenSpec.ofChange fnGoneForGoodWrong)

/-- 'laws.FnEach': WHATEVER THE INPUT: true; the input reads as it did. -/
def fnEachSpec : ChangeSpec := { name := "fnEach", fn := fun _ => fun
  | [d] => { results := [.lit (.bool true)], args := [d] }
  | _ => none }
def fnEachRow : OpenClaim := { program := "ytdifphcihhbjlaagreat", sum := "60c5c46f2ed0528469eec3a1a5327d714a23060e294a1adc13dcaabd4dae48f1", func := "loop.example/g00249/laws.FnEach", spec := "fnEach", unfollowed := true, recurses := true, apart := false }
def FnEachSaid : Prop := fnEachRow.holds Tryz.pinned (OpenSpec.ofChange fnEachSpec)

/-- ITS FALSE NEIGHBOUR: 'it returns false'. Refute it at one input. -/
def fnEachWrong : ChangeSpec := { name := "fnEach", fn := fun _ => fun
  | [d] => { results := [.lit (.bool false)], args := [d] }
  | _ => none }
def FnEachWrongFalsely : Prop := fnEachRow.holds Tryz.pinned (OpenSpec.ofChange fnEachWrong)

/-- 'laws.FnSame': WHATEVER THE INPUT: true; the input reads as it did. -/
def fnSameSpec : ChangeSpec := { name := "fnSame", fn := fun _ => fun
  | [d] => { results := [.lit (.bool true)], args := [d] }
  | _ => none }
def fnSameRow : OpenClaim := { program := "ytdifphcihhbjlaagreat", sum := "60c5c46f2ed0528469eec3a1a5327d714a23060e294a1adc13dcaabd4dae48f1", func := "loop.example/g00249/laws.FnSame", spec := "fnSame", unfollowed := true, recurses := true, apart := false }
def FnSameSaid : Prop := fnSameRow.holds Tryz.pinned (OpenSpec.ofChange fnSameSpec)

/-- ITS FALSE NEIGHBOUR: 'it returns false'. Refute it at one input. -/
def fnSameWrong : ChangeSpec := { name := "fnSame", fn := fun _ => fun
  | [d] => { results := [.lit (.bool false)], args := [d] }
  | _ => none }
def FnSameWrongFalsely : Prop := fnSameRow.holds Tryz.pinned (OpenSpec.ofChange fnSameWrong)

/-- 'laws.FnHeld': WHATEVER THE INPUT: true; the input reads as it did. -/
def fnHeldSpec : ChangeSpec := { name := "fnHeld", fn := fun _ => fun
  | [d] => { results := [.lit (.bool true)], args := [d] }
  | _ => none }
def fnHeldRow : OpenClaim := { program := "ytdifphcihhbjlaagreat", sum := "60c5c46f2ed0528469eec3a1a5327d714a23060e294a1adc13dcaabd4dae48f1", func := "loop.example/g00249/laws.FnHeld", spec := "fnHeld", unfollowed := true, recurses := true, apart := false }
def FnHeldSaid : Prop := fnHeldRow.holds Tryz.pinned (OpenSpec.ofChange fnHeldSpec)

/-- ITS FALSE NEIGHBOUR: 'it returns false'. Refute it at one input. -/
def fnHeldWrong : ChangeSpec := { name := "fnHeld", fn := fun _ => fun
  | [d] => { results := [.lit (.bool false)], args := [d] }
  | _ => none }
def FnHeldWrongFalsely : Prop := fnHeldRow.holds Tryz.pinned (OpenSpec.ofChange fnHeldWrong)

/-- 'laws.FnSettledRight': WHATEVER THE INPUT: true; the input reads as it did. -/
def fnSettledRightSpec : ChangeSpec := { name := "fnSettledRight", fn := fun _ => fun
  | [d] => { results := [.lit (.bool true)], args := [d] }
  | _ => none }
def fnSettledRightRow : OpenClaim := { program := "ytdifphcihhbjlaagreat", sum := "60c5c46f2ed0528469eec3a1a5327d714a23060e294a1adc13dcaabd4dae48f1", func := "loop.example/g00249/laws.FnSettledRight", spec := "fnSettledRight", unfollowed := true, recurses := true, apart := false }
def FnSettledRightSaid : Prop := fnSettledRightRow.holds Tryz.pinned (OpenSpec.ofChange fnSettledRightSpec)

/-- ITS FALSE NEIGHBOUR: 'it returns false'. Refute it at one input. -/
def fnSettledRightWrong : ChangeSpec := { name := "fnSettledRight", fn := fun _ => fun
  | [d] => { results := [.lit (.bool false)], args := [d] }
  | _ => none }
def FnSettledRightWrongFalsely : Prop := fnSettledRightRow.holds Tryz.pinned (OpenSpec.ofChange fnSettledRightWrong)

/-- 'laws.FnWide': WHATEVER THE INPUT: true; the input reads as it did. -/
def fnWideSpec : ChangeSpec := { name := "fnWide", fn := fun _ => fun
  | [d] => { results := [.lit (.bool true)], args := [d] }
  | _ => none }
def fnWideRow : OpenClaim := { program := "ytdifphcihhbjlaagreat", sum := "60c5c46f2ed0528469eec3a1a5327d714a23060e294a1adc13dcaabd4dae48f1", func := "loop.example/g00249/laws.FnWide", spec := "fnWide", unfollowed := true, recurses := true, apart := false }
def FnWideSaid : Prop := fnWideRow.holds Tryz.pinned (OpenSpec.ofChange fnWideSpec)

/-- ITS FALSE NEIGHBOUR: 'it returns false'. Refute it at one input. -/
def fnWideWrong : ChangeSpec := { name := "fnWide", fn := fun _ => fun
  | [d] => { results := [.lit (.bool false)], args := [d] }
  | _ => none }
def FnWideWrongFalsely : Prop := fnWideRow.holds Tryz.pinned (OpenSpec.ofChange fnWideWrong)

/-- 'laws.FnAgree': WHATEVER THE INPUT: true; the input reads as it did. -/
def fnAgreeSpec : ChangeSpec := { name := "fnAgree", fn := fun _ => fun
  | [d] => { results := [.lit (.bool true)], args := [d] }
  | _ => none }
def fnAgreeRow : OpenClaim := { program := "ytdifphcihhbjlaagreat", sum := "60c5c46f2ed0528469eec3a1a5327d714a23060e294a1adc13dcaabd4dae48f1", func := "loop.example/g00249/laws.FnAgree", spec := "fnAgree", unfollowed := true, recurses := true, apart := false }
def FnAgreeSaid : Prop := fnAgreeRow.holds Tryz.pinned (OpenSpec.ofChange fnAgreeSpec)

/-- ITS FALSE NEIGHBOUR: 'it returns false'. Refute it at one input. -/
def fnAgreeWrong : ChangeSpec := { name := "fnAgree", fn := fun _ => fun
  | [d] => { results := [.lit (.bool false)], args := [d] }
  | _ => none }
def FnAgreeWrongFalsely : Prop := fnAgreeRow.holds Tryz.pinned (OpenSpec.ofChange fnAgreeWrong)

/-- 'laws.FnJudges': WHATEVER THE INPUT: true; the input reads as it did. -/
def fnJudgesSpec : ChangeSpec := { name := "fnJudges", fn := fun _ => fun
  | [d] => { results := [.lit (.bool true)], args := [d] }
  | _ => none }
def fnJudgesRow : OpenClaim := { program := "ytdifphcihhbjlaagreat", sum := "60c5c46f2ed0528469eec3a1a5327d714a23060e294a1adc13dcaabd4dae48f1", func := "loop.example/g00249/laws.FnJudges", spec := "fnJudges", unfollowed := true, recurses := true, apart := false }
def FnJudgesSaid : Prop := fnJudgesRow.holds Tryz.pinned (OpenSpec.ofChange fnJudgesSpec)

/-- ITS FALSE NEIGHBOUR: 'it returns false'. Refute it at one input. -/
def fnJudgesWrong : ChangeSpec := { name := "fnJudges", fn := fun _ => fun
  | [d] => { results := [.lit (.bool false)], args := [d] }
  | _ => none }
def FnJudgesWrongFalsely : Prop := fnJudgesRow.holds Tryz.pinned (OpenSpec.ofChange fnJudgesWrong)

/- THE SECOND FORM. 'bulk': how many values and letters a reading holds, each counted each time it is reached (what is shared counts as often as it is met; a slice's spare places count too). A statement '..UptoSaid' is the law's where the arguments, and the package variables that the reading takes, are together of bulk at most 1048576: NARROWER than '..Said'. Prove '..Said' where nothing that the law and all that it calls make is longer than what came in: it says more and counts as full. Else prove '..UptoSaid'. A law counts once. -/
mutual
def uptoBulk {H : Type} : DataW H → Nat
  | .lit (.string bytes) => bytes.length + 1
  | .lit _ => 1
  | .nil => 1
  | .ptr d => uptoBulk d + 1
  | .slice elems spare => uptoBulkAll elems + uptoBulkAll spare + 1
  | .agg parts => uptoBulkAll parts + 1
  | .iface _ d => uptoBulk d + 1
  | .map entries => uptoBulkEntries entries + 1
  | .held _ => 1
def uptoBulkAll {H : Type} : List (DataW H) → Nat
  | [] => 0
  | d :: r => uptoBulk d + uptoBulkAll r
def uptoBulkEntries {H : Type} : List (Lit × DataW H) → Nat
  | [] => 0
  | x :: r => uptoBulkEntry x + uptoBulkEntries r
def uptoBulkEntry {H : Type} : Lit × DataW H → Nat
  | (.string bytes, d) => bytes.length + uptoBulk d + 1
  | (_, d) => uptoBulk d + 1
 end
def uptoSmall : (H : Type) → List (DataW H) → Bool := fun _ ds => decide (uptoBulkAll ds ≤ 1048576)
def OpenSpec.upto (s : _root_.Go.ChangeSpec) : _root_.Go.OpenSpec := { _root_.Go.OpenSpec.ofChange s with cond := some uptoSmall }

/-- 'laws.FnDone', WHERE WHAT IT READS IS OF BULK AT MOST 1048576: true; the input reads as it did. -/
def fnDoneUptoRow : OpenClaim := { program := "ytdifphcihhbjlaagreat", sum := "60c5c46f2ed0528469eec3a1a5327d714a23060e294a1adc13dcaabd4dae48f1", func := "loop.example/g00249/laws.FnDone", spec := "fnDone", unfollowed := true, recurses := true, apart := false, narrowed := true }
def FnDoneUptoSaid : Prop := fnDoneUptoRow.holds Tryz.pinned (OpenSpec.upto fnDoneSpec)

/-- 'laws.FnSettled', WHERE WHAT IT READS IS OF BULK AT MOST 1048576: true; the input reads as it did. -/
def fnSettledUptoRow : OpenClaim := { program := "ytdifphcihhbjlaagreat", sum := "60c5c46f2ed0528469eec3a1a5327d714a23060e294a1adc13dcaabd4dae48f1", func := "loop.example/g00249/laws.FnSettled", spec := "fnSettled", unfollowed := true, recurses := true, apart := false, narrowed := true }
def FnSettledUptoSaid : Prop := fnSettledUptoRow.holds Tryz.pinned (OpenSpec.upto fnSettledSpec)

/-- 'laws.FnGoneForGood', WHERE WHAT IT READS IS OF BULK AT MOST 1048576: true; the input reads as it did. -/
def fnGoneForGoodUptoRow : OpenClaim := { program := "ytdifphcihhbjlaagreat", sum := "60c5c46f2ed0528469eec3a1a5327d714a23060e294a1adc13dcaabd4dae48f1", func := "loop.example/g00249/laws.FnGoneForGood", spec := "fnGoneForGood", unfollowed := true, recurses := true, apart := false, narrowed := true }
def FnGoneForGoodUptoSaid : Prop := fnGoneForGoodUptoRow.holds Tryz.pinned (OpenSpec.upto fnGoneForGoodSpec)

/-- 'laws.FnEach', WHERE WHAT IT READS IS OF BULK AT MOST 1048576: true; the input reads as it did. -/
def fnEachUptoRow : OpenClaim := { program := "ytdifphcihhbjlaagreat", sum := "60c5c46f2ed0528469eec3a1a5327d714a23060e294a1adc13dcaabd4dae48f1", func := "loop.example/g00249/laws.FnEach", spec := "fnEach", unfollowed := true, recurses := true, apart := false, narrowed := true }
def FnEachUptoSaid : Prop := fnEachUptoRow.holds Tryz.pinned (OpenSpec.upto fnEachSpec)

/-- 'laws.FnSame', WHERE WHAT IT READS IS OF BULK AT MOST 1048576: true; the input reads as it did. -/
def fnSameUptoRow : OpenClaim := { program := "ytdifphcihhbjlaagreat", sum := "60c5c46f2ed0528469eec3a1a5327d714a23060e294a1adc13dcaabd4dae48f1", func := "loop.example/g00249/laws.FnSame", spec := "fnSame", unfollowed := true, recurses := true, apart := false, narrowed := true }
def FnSameUptoSaid : Prop := fnSameUptoRow.holds Tryz.pinned (OpenSpec.upto fnSameSpec)

/-- 'laws.FnHeld', WHERE WHAT IT READS IS OF BULK AT MOST 1048576: true; the input reads as it did. -/
def fnHeldUptoRow : OpenClaim := { program := "ytdifphcihhbjlaagreat", sum := "60c5c46f2ed0528469eec3a1a5327d714a23060e294a1adc13dcaabd4dae48f1", func := "loop.example/g00249/laws.FnHeld", spec := "fnHeld", unfollowed := true, recurses := true, apart := false, narrowed := true }
def FnHeldUptoSaid : Prop := fnHeldUptoRow.holds Tryz.pinned (OpenSpec.upto fnHeldSpec)

/-- 'laws.FnSettledRight', WHERE WHAT IT READS IS OF BULK AT MOST 1048576: true; the input reads as it did. -/
def fnSettledRightUptoRow : OpenClaim := { program := "ytdifphcihhbjlaagreat", sum := "60c5c46f2ed0528469eec3a1a5327d714a23060e294a1adc13dcaabd4dae48f1", func := "loop.example/g00249/laws.FnSettledRight", spec := "fnSettledRight", unfollowed := true, recurses := true, apart := false, narrowed := true }
def FnSettledRightUptoSaid : Prop := fnSettledRightUptoRow.holds Tryz.pinned (OpenSpec.upto fnSettledRightSpec)

/-- 'laws.FnWide', WHERE WHAT IT READS IS OF BULK AT MOST 1048576: true; the input reads as it did. -/
def fnWideUptoRow : OpenClaim := { program := "ytdifphcihhbjlaagreat", sum := "60c5c46f2ed0528469eec3a1a5327d714a23060e294a1adc13dcaabd4dae48f1", func := "loop.example/g00249/laws.FnWide", spec := "fnWide", unfollowed := true, recurses := true, apart := false, narrowed := true }
def FnWideUptoSaid : Prop := fnWideUptoRow.holds Tryz.pinned (OpenSpec.upto fnWideSpec)

/-- 'laws.FnAgree', WHERE WHAT IT READS IS OF BULK AT MOST 1048576: true; the input reads as it did. -/
def fnAgreeUptoRow : OpenClaim := { program := "ytdifphcihhbjlaagreat", sum := "60c5c46f2ed0528469eec3a1a5327d714a23060e294a1adc13dcaabd4dae48f1", func := "loop.example/g00249/laws.FnAgree", spec := "fnAgree", unfollowed := true, recurses := true, apart := false, narrowed := true }
def FnAgreeUptoSaid : Prop := fnAgreeUptoRow.holds Tryz.pinned (OpenSpec.upto fnAgreeSpec)

/-- 'laws.FnJudges', WHERE WHAT IT READS IS OF BULK AT MOST 1048576: true; the input reads as it did. -/
def fnJudgesUptoRow : OpenClaim := { program := "ytdifphcihhbjlaagreat", sum := "60c5c46f2ed0528469eec3a1a5327d714a23060e294a1adc13dcaabd4dae48f1", func := "loop.example/g00249/laws.FnJudges", spec := "fnJudges", unfollowed := true, recurses := true, apart := false, narrowed := true }
def FnJudgesUptoSaid : Prop := fnJudgesUptoRow.holds Tryz.pinned (OpenSpec.upto fnJudgesSpec)

end Rows
end Go.Proofs.YtdifphcihhbjlaaGreat
