/-
  No cell of these rows narrows 'for every input' (looked for: loops, veiled, ifaces, maps, wideKeys, modest, calm, conditions, laid).
  DERIVED. THE GIVEN ROWS OF THIS SEAT. 6 by the template 'for every input the law returns true; each argument reads behind the call as it read before'; 0 by the template 'total and deterministic' (their statements: YtcjjopfmeipidaaTotals.lean).
  GIVEN WITH THE SEED: the statements are not yours to turn. If you find one false, say at which input.
  Laid BY PROGRAM, IN A SANDBOX (cutbox-rows.mjs): the forced cells as the released guide's own fill.sh prints them over the translation 88cd377a137eb2b0… (all of the seat's roots in one cut). By AI agents, Wed Nov 11 2026. No macro, syntax, notation, axiom, sorry.
-/
import Derived.Test.YtcjjopfmeipidaaChecked
import GoSem.Claim
import GoSem.ClaimJoined
import GoSem.ClaimMapViews
import Derived.JoinedTies
import Derived.KernelRfl
namespace Go.Proofs.Ytcjjopfmeipidaa
/- THE CELL 'sum', in the pinned program and in every row, IS THE sha256 OF THE DUMP (.gsa) THAT YtcjjopfmeipidaaProg.lean LOADS. Nothing in Lean hashes anything: it is a label: what it is worth is what the hold of that sum in a sandbox is worth. -/
noncomputable def Try.pinned : Pinned := { name := "ytcjjopfmeipidaa", sum := "88cd377a137eb2b0d32e0967be18f0e8c95eb03c2848a4f558734c69c4f31240", checked := Try.checked }
namespace Rows
def none {H : Type} : Left H := { results := [], args := [] }

/-- 'laws.FnExactTrapText': WHATEVER THE INPUT: true; the input reads as it did. -/
def fnExactTrapTextSpec : ChangeSpec := { name := "fnExactTrapText", fn := fun _ => fun
  | [d] => { results := [.lit (.bool true)], args := [d] }
  | _ => none }
def fnExactTrapTextRow : OpenClaim := { program := "ytcjjopfmeipidaa", sum := "88cd377a137eb2b0d32e0967be18f0e8c95eb03c2848a4f558734c69c4f31240", func := "loop.example/g00249/laws.FnExactTrapText", spec := "fnExactTrapText", apart := false }
def FnExactTrapTextSaid : Prop := fnExactTrapTextRow.holds Try.pinned (OpenSpec.ofChange fnExactTrapTextSpec)

/-- ITS FALSE NEIGHBOUR: 'it returns false'. Refute it at one input. -/
def fnExactTrapTextWrong : ChangeSpec := { name := "fnExactTrapText", fn := fun _ => fun
  | [d] => { results := [.lit (.bool false)], args := [d] }
  | _ => none }
def FnExactTrapTextWrongFalsely : Prop := fnExactTrapTextRow.holds Try.pinned (OpenSpec.ofChange fnExactTrapTextWrong)

/-- 'laws.FnExactGuessOk': WHATEVER THE INPUT: true; the input reads as it did. -/
def fnExactGuessOkSpec : ChangeSpec := { name := "fnExactGuessOk", fn := fun _ => fun
  | [d] => { results := [.lit (.bool true)], args := [d] }
  | _ => none }
def fnExactGuessOkRow : OpenClaim := { program := "ytcjjopfmeipidaa", sum := "88cd377a137eb2b0d32e0967be18f0e8c95eb03c2848a4f558734c69c4f31240", func := "loop.example/g00249/laws.FnExactGuessOk", spec := "fnExactGuessOk", unfollowed := true, recurses := true, apart := false }
def FnExactGuessOkSaid : Prop := fnExactGuessOkRow.holds Try.pinned (OpenSpec.ofChange fnExactGuessOkSpec)

/-- ITS FALSE NEIGHBOUR: 'it returns false'. Refute it at one input. -/
def fnExactGuessOkWrong : ChangeSpec := { name := "fnExactGuessOk", fn := fun _ => fun
  | [d] => { results := [.lit (.bool false)], args := [d] }
  | _ => none }
def FnExactGuessOkWrongFalsely : Prop := fnExactGuessOkRow.holds Try.pinned (OpenSpec.ofChange fnExactGuessOkWrong)

/-- 'laws.FnExactLearn': WHATEVER THE INPUT: true; the input reads as it did. -/
def fnExactLearnSpec : ChangeSpec := { name := "fnExactLearn", fn := fun _ => fun
  | [d1, d2, d3] => { results := [.lit (.bool true)], args := [d1, d2, d3] }
  | _ => none }
def fnExactLearnRow : OpenClaim := { program := "ytcjjopfmeipidaa", sum := "88cd377a137eb2b0d32e0967be18f0e8c95eb03c2848a4f558734c69c4f31240", func := "loop.example/g00249/laws.FnExactLearn", spec := "fnExactLearn", apart := false }
def FnExactLearnSaid : Prop := fnExactLearnRow.holds Try.pinned (OpenSpec.ofChange fnExactLearnSpec)

/-- ITS FALSE NEIGHBOUR: 'it returns false'. Refute it at one input. -/
def fnExactLearnWrong : ChangeSpec := { name := "fnExactLearn", fn := fun _ => fun
  | [d1, d2, d3] => { results := [.lit (.bool false)], args := [d1, d2, d3] }
  | _ => none }
def FnExactLearnWrongFalsely : Prop := fnExactLearnRow.holds Try.pinned (OpenSpec.ofChange fnExactLearnWrong)

/-- 'laws.FnExactGuessNew': WHATEVER THE INPUT: true; the input reads as it did. -/
def fnExactGuessNewSpec : ChangeSpec := { name := "fnExactGuessNew", fn := fun _ => fun
  | [] => { results := [.lit (.bool true)], args := [] }
  | _ => none }
def fnExactGuessNewRow : OpenClaim := { program := "ytcjjopfmeipidaa", sum := "88cd377a137eb2b0d32e0967be18f0e8c95eb03c2848a4f558734c69c4f31240", func := "loop.example/g00249/laws.FnExactGuessNew", spec := "fnExactGuessNew", apart := false }
def FnExactGuessNewSaid : Prop := fnExactGuessNewRow.holds Try.pinned (OpenSpec.ofChange fnExactGuessNewSpec)

/-- ITS FALSE NEIGHBOUR: 'it returns false'. Refute it at one input. -/
def fnExactGuessNewWrong : ChangeSpec := { name := "fnExactGuessNew", fn := fun _ => fun
  | [] => { results := [.lit (.bool false)], args := [] }
  | _ => none }
def FnExactGuessNewWrongFalsely : Prop := fnExactGuessNewRow.holds Try.pinned (OpenSpec.ofChange fnExactGuessNewWrong)

/-- 'laws.FnExactAlike': WHATEVER THE INPUT: true; the input reads as it did. -/
def fnExactAlikeSpec : ChangeSpec := { name := "fnExactAlike", fn := fun _ => fun
  | [d1, d2] => { results := [.lit (.bool true)], args := [d1, d2] }
  | _ => none }
def fnExactAlikeRow : OpenClaim := { program := "ytcjjopfmeipidaa", sum := "88cd377a137eb2b0d32e0967be18f0e8c95eb03c2848a4f558734c69c4f31240", func := "loop.example/g00249/laws.FnExactAlike", spec := "fnExactAlike", apart := false }
def FnExactAlikeSaid : Prop := fnExactAlikeRow.holds Try.pinned (OpenSpec.ofChange fnExactAlikeSpec)

/-- ITS FALSE NEIGHBOUR: 'it returns false'. Refute it at one input. -/
def fnExactAlikeWrong : ChangeSpec := { name := "fnExactAlike", fn := fun _ => fun
  | [d1, d2] => { results := [.lit (.bool false)], args := [d1, d2] }
  | _ => none }
def FnExactAlikeWrongFalsely : Prop := fnExactAlikeRow.holds Try.pinned (OpenSpec.ofChange fnExactAlikeWrong)

/-- 'laws.FnExactGuess': WHATEVER THE INPUT: true; the input reads as it did. -/
def fnExactGuessSpec : ChangeSpec := { name := "fnExactGuess", fn := fun _ => fun
  | [d1, d2] => { results := [.lit (.bool true)], args := [d1, d2] }
  | _ => none }
def fnExactGuessRow : OpenClaim := { program := "ytcjjopfmeipidaa", sum := "88cd377a137eb2b0d32e0967be18f0e8c95eb03c2848a4f558734c69c4f31240", func := "loop.example/g00249/laws.FnExactGuess", spec := "fnExactGuess", apart := false }
def FnExactGuessSaid : Prop := fnExactGuessRow.holds Try.pinned (OpenSpec.ofChange fnExactGuessSpec)

/-- ITS FALSE NEIGHBOUR: 'it returns false'. Refute it at one input. -/
def fnExactGuessWrong : ChangeSpec := { name := "fnExactGuess", fn := fun _ => fun
  | [d1, d2] => { results := [.lit (.bool false)], args := [d1, d2] }
  | _ => none }
def FnExactGuessWrongFalsely : Prop := fnExactGuessRow.holds Try.pinned (OpenSpec.ofChange fnExactGuessWrong)

/- THE SECOND FORM. 'bulk': how many values and letters a reading holds, each counted each time it is reached (what is shared counts as often as it is met; a slice's spare places count too). A statement '..UptoSaid' is the law's where the arguments, and the package variables that the reading takes, are together of bulk at most 1048576: NARROWER than '..Said'. Prove '..Said' where nothing that the law and all that it calls make is longer than what came in: it says more and counts as full. Else prove '..UptoSaid'. A law counts once. -/
mutual
def uptoBulk {H : Type} : DataW H → Nat
  | .lit (.string bytes) => bytes.length + 1
  | .lit _ => 1
  | .nil => 1
  | .ptr d => uptoBulk d + 1
  | .slice elems spare => uptoBulkAll elems + uptoBulkAll spare + 1
  | .agg parts => uptoBulkAll parts + 1
  | .iface _ d => uptoBulk d + 1
  | .map entries => uptoBulkEntries entries + 1
  | .held _ => 1
def uptoBulkAll {H : Type} : List (DataW H) → Nat
  | [] => 0
  | d :: r => uptoBulk d + uptoBulkAll r
def uptoBulkEntries {H : Type} : List (Lit × DataW H) → Nat
  | [] => 0
  | x :: r => uptoBulkEntry x + uptoBulkEntries r
def uptoBulkEntry {H : Type} : Lit × DataW H → Nat
  | (.string bytes, d) => bytes.length + uptoBulk d + 1
  | (_, d) => uptoBulk d + 1
 end
def uptoSmall : (H : Type) → List (DataW H) → Bool := fun _ ds => decide (uptoBulkAll ds ≤ 1048576)
def OpenSpec.upto (s : _root_.Go.ChangeSpec) : _root_.Go.OpenSpec := { _root_.Go.OpenSpec.ofChange s with cond := some uptoSmall }

/-- 'laws.FnExactTrapText', WHERE WHAT IT READS IS OF BULK AT MOST 1048576: true; the input reads as it did. -/
def fnExactTrapTextUptoRow : OpenClaim := { program := "ytcjjopfmeipidaa", sum := "88cd377a137eb2b0d32e0967be18f0e8c95eb03c2848a4f558734c69c4f31240", func := "loop.example/g00249/laws.FnExactTrapText", spec := "fnExactTrapText", apart := false, narrowed := true }
def FnExactTrapTextUptoSaid : Prop := fnExactTrapTextUptoRow.holds Try.pinned (OpenSpec.upto fnExactTrapTextSpec)

/-- 'laws.FnExactGuessOk', WHERE WHAT IT READS IS OF BULK AT MOST 1048576: true; the input reads as it did. -/
def fnExactGuessOkUptoRow : OpenClaim := { program := "ytcjjopfmeipidaa", sum := "88cd377a137eb2b0d32e0967be18f0e8c95eb03c2848a4f558734c69c4f31240", func := "loop.example/g00249/laws.FnExactGuessOk", spec := "fnExactGuessOk", unfollowed := true, recurses := true, apart := false, narrowed := true }
def FnExactGuessOkUptoSaid : Prop := fnExactGuessOkUptoRow.holds Try.pinned (OpenSpec.upto fnExactGuessOkSpec)

/-- 'laws.FnExactLearn', WHERE WHAT IT READS IS OF BULK AT MOST 1048576: true; the input reads as it did. -/
def fnExactLearnUptoRow : OpenClaim := { program := "ytcjjopfmeipidaa", sum := "88cd377a137eb2b0d32e0967be18f0e8c95eb03c2848a4f558734c69c4f31240", func := "loop.example/g00249/laws.FnExactLearn", spec := "fnExactLearn", apart := false, narrowed := true }
def FnExactLearnUptoSaid : Prop := fnExactLearnUptoRow.holds Try.pinned (OpenSpec.upto fnExactLearnSpec)

/-- 'laws.FnExactGuessNew', WHERE WHAT IT READS IS OF BULK AT MOST 1048576: true; the input reads as it did. -/
def fnExactGuessNewUptoRow : OpenClaim := { program := "ytcjjopfmeipidaa", sum := "88cd377a137eb2b0d32e0967be18f0e8c95eb03c2848a4f558734c69c4f31240", func := "loop.example/g00249/laws.FnExactGuessNew", spec := "fnExactGuessNew", apart := false, narrowed := true }
def FnExactGuessNewUptoSaid : Prop := fnExactGuessNewUptoRow.holds Try.pinned (OpenSpec.upto fnExactGuessNewSpec)

/-- 'laws.FnExactAlike', WHERE WHAT IT READS IS OF BULK AT MOST 1048576: true; the input reads as it did. -/
def fnExactAlikeUptoRow : OpenClaim := { program := "ytcjjopfmeipidaa", sum := "88cd377a137eb2b0d32e0967be18f0e8c95eb03c2848a4f558734c69c4f31240", func := "loop.example/g00249/laws.FnExactAlike", spec := "fnExactAlike", apart := false, narrowed := true }
def FnExactAlikeUptoSaid : Prop := fnExactAlikeUptoRow.holds Try.pinned (OpenSpec.upto fnExactAlikeSpec)

/-- 'laws.FnExactGuess', WHERE WHAT IT READS IS OF BULK AT MOST 1048576: true; the input reads as it did. -/
def fnExactGuessUptoRow : OpenClaim := { program := "ytcjjopfmeipidaa", sum := "88cd377a137eb2b0d32e0967be18f0e8c95eb03c2848a4f558734c69c4f31240", func := "loop.example/g00249/laws.FnExactGuess", spec := "fnExactGuess", apart := false, narrowed := true }
def FnExactGuessUptoSaid : Prop := fnExactGuessUptoRow.holds Try.pinned (OpenSpec.upto fnExactGuessSpec)

end Rows
end Go.Proofs.Ytcjjopfmeipidaa
