/-
  No cell of these rows narrows 'for every input' (looked for: loops, veiled, ifaces, maps, wideKeys, modest, calm, conditions, laid).
  DERIVED. THE GIVEN ROWS OF THIS SEAT. 10 by the template 'for every input the law returns true; each argument reads behind the call as it read before'; 0 by the template 'total and deterministic' (their statements: YtgddflnhibhacaaTotals.lean).
  GIVEN WITH THE SEED: the statements are not yours to turn. If you find one false, say at which input.
  Laid BY PROGRAM, IN A SANDBOX (cutbox-rows.mjs): the forced cells as the released guide's own fill.sh prints them over the translation 8d64dd8ea1c18a2c… (all of the seat's roots in one cut). By AI agents, Wed Nov 11 2026. No macro, syntax, notation, axiom, sorry.
-/
import Derived.Test.YtgddflnhibhacaaChecked
import GoSem.Claim
import GoSem.ClaimJoined
import GoSem.ClaimMapViews
import Derived.JoinedTies
import Derived.KernelRfl
namespace Go.Proofs.Ytgddflnhibhacaa
/- THE CELL 'sum', in the pinned program and in every row, IS THE sha256 OF THE DUMP (.gsa) THAT YtgddflnhibhacaaProg.lean LOADS. Nothing in Lean hashes anything: it is a label: what it is worth is what the hold of that sum in a sandbox is worth. -/
noncomputable def Try.pinned : Pinned := { name := "ytgddflnhibhacaa", sum := "8d64dd8ea1c18a2c0d3b1eabf4ea51db26de16fe209099b7d738093236f0972e", checked := Try.checked }
namespace Rows
def none {H : Type} : Left H := { results := [], args := [] }

/-- 'laws.FnExactGuessNew': WHATEVER THE INPUT: true; the input reads as it did. -/
def fnExactGuessNewSpec : ChangeSpec := { name := "fnExactGuessNew", fn := fun _ => fun
  | [] => { results := [.lit (.bool true)], args := [] }
  | _ => none }
def fnExactGuessNewRow : OpenClaim := { program := "ytgddflnhibhacaa", sum := "8d64dd8ea1c18a2c0d3b1eabf4ea51db26de16fe209099b7d738093236f0972e", func := "loop.example/g00249/laws.FnExactGuessNew", spec := "fnExactGuessNew", apart := false }
def FnExactGuessNewSaid : Prop := fnExactGuessNewRow.holds Try.pinned (OpenSpec.ofChange fnExactGuessNewSpec)

/-- ITS FALSE NEIGHBOUR: 'it returns false'. Refute it at one input. -/
def fnExactGuessNewWrong : ChangeSpec := { name := "fnExactGuessNew", fn := fun _ => fun
  | [] => { results := [.lit (.bool false)], args := [] }
  | _ => none }
def FnExactGuessNewWrongFalsely : Prop := fnExactGuessNewRow.holds Try.pinned (OpenSpec.ofChange fnExactGuessNewWrong)

/-- 'laws.FnExactKeys': WHATEVER THE INPUT: true; the input reads as it did. -/
def fnExactKeysSpec : ChangeSpec := { name := "fnExactKeys", fn := fun _ => fun
  | [d] => { results := [.lit (.bool true)], args := [d] }
  | _ => none }
def fnExactKeysRow : OpenClaim := { program := "ytgddflnhibhacaa", sum := "8d64dd8ea1c18a2c0d3b1eabf4ea51db26de16fe209099b7d738093236f0972e", func := "loop.example/g00249/laws.FnExactKeys", spec := "fnExactKeys", unfollowed := true, recurses := true, apart := false }
def FnExactKeysSaid : Prop := fnExactKeysRow.holds Try.pinned (OpenSpec.ofChange fnExactKeysSpec)

/-- ITS FALSE NEIGHBOUR: 'it returns false'. Refute it at one input. -/
def fnExactKeysWrong : ChangeSpec := { name := "fnExactKeys", fn := fun _ => fun
  | [d] => { results := [.lit (.bool false)], args := [d] }
  | _ => none }
def FnExactKeysWrongFalsely : Prop := fnExactKeysRow.holds Try.pinned (OpenSpec.ofChange fnExactKeysWrong)

/-- 'laws.FnExactClosed': WHATEVER THE INPUT: true; the input reads as it did. -/
def fnExactClosedSpec : ChangeSpec := { name := "fnExactClosed", fn := fun _ => fun
  | [d1, d2] => { results := [.lit (.bool true)], args := [d1, d2] }
  | _ => none }
def fnExactClosedRow : OpenClaim := { program := "ytgddflnhibhacaa", sum := "8d64dd8ea1c18a2c0d3b1eabf4ea51db26de16fe209099b7d738093236f0972e", func := "loop.example/g00249/laws.FnExactClosed", spec := "fnExactClosed", unfollowed := true, recurses := true, apart := false }
def FnExactClosedSaid : Prop := fnExactClosedRow.holds Try.pinned (OpenSpec.ofChange fnExactClosedSpec)

/-- ITS FALSE NEIGHBOUR: 'it returns false'. Refute it at one input. -/
def fnExactClosedWrong : ChangeSpec := { name := "fnExactClosed", fn := fun _ => fun
  | [d1, d2] => { results := [.lit (.bool false)], args := [d1, d2] }
  | _ => none }
def FnExactClosedWrongFalsely : Prop := fnExactClosedRow.holds Try.pinned (OpenSpec.ofChange fnExactClosedWrong)

/-- 'laws.FnExactSource': WHATEVER THE INPUT: true; the input reads as it did. -/
def fnExactSourceSpec : ChangeSpec := { name := "fnExactSource", fn := fun _ => fun
  | [d1, d2, d3] => { results := [.lit (.bool true)], args := [d1, d2, d3] }
  | _ => none }
def fnExactSourceRow : OpenClaim := { program := "ytgddflnhibhacaa", sum := "8d64dd8ea1c18a2c0d3b1eabf4ea51db26de16fe209099b7d738093236f0972e", func := "loop.example/g00249/laws.FnExactSource", spec := "fnExactSource", apart := false }
def FnExactSourceSaid : Prop := fnExactSourceRow.holds Try.pinned (OpenSpec.ofChange fnExactSourceSpec)

/-- ITS FALSE NEIGHBOUR: 'it returns false'. Refute it at one input. -/
def fnExactSourceWrong : ChangeSpec := { name := "fnExactSource", fn := fun _ => fun
  | [d1, d2, d3] => { results := [.lit (.bool false)], args := [d1, d2, d3] }
  | _ => none }
def FnExactSourceWrongFalsely : Prop := fnExactSourceRow.holds Try.pinned (OpenSpec.ofChange fnExactSourceWrong)

/-- 'laws.FnExactFound': WHATEVER THE INPUT: true; the input reads as it did. -/
def fnExactFoundSpec : ChangeSpec := { name := "fnExactFound", fn := fun _ => fun
  | [d1, d2, d3, d4] => { results := [.lit (.bool true)], args := [d1, d2, d3, d4] }
  | _ => none }
def fnExactFoundRow : OpenClaim := { program := "ytgddflnhibhacaa", sum := "8d64dd8ea1c18a2c0d3b1eabf4ea51db26de16fe209099b7d738093236f0972e", func := "loop.example/g00249/laws.FnExactFound", spec := "fnExactFound", apart := false }
def FnExactFoundSaid : Prop := fnExactFoundRow.holds Try.pinned (OpenSpec.ofChange fnExactFoundSpec)

/-- ITS FALSE NEIGHBOUR: 'it returns false'. Refute it at one input. -/
def fnExactFoundWrong : ChangeSpec := { name := "fnExactFound", fn := fun _ => fun
  | [d1, d2, d3, d4] => { results := [.lit (.bool false)], args := [d1, d2, d3, d4] }
  | _ => none }
def FnExactFoundWrongFalsely : Prop := fnExactFoundRow.holds Try.pinned (OpenSpec.ofChange fnExactFoundWrong)

/-- 'laws.FnExactCoreOk': WHATEVER THE INPUT: true; the input reads as it did. -/
def fnExactCoreOkSpec : ChangeSpec := { name := "fnExactCoreOk", fn := fun _ => fun
  | [d] => { results := [.lit (.bool true)], args := [d] }
  | _ => none }
def fnExactCoreOkRow : OpenClaim := { program := "ytgddflnhibhacaa", sum := "8d64dd8ea1c18a2c0d3b1eabf4ea51db26de16fe209099b7d738093236f0972e", func := "loop.example/g00249/laws.FnExactCoreOk", spec := "fnExactCoreOk", unfollowed := true, recurses := true, apart := false }
def FnExactCoreOkSaid : Prop := fnExactCoreOkRow.holds Try.pinned (OpenSpec.ofChange fnExactCoreOkSpec)

/-- ITS FALSE NEIGHBOUR: 'it returns false'. Refute it at one input. -/
def fnExactCoreOkWrong : ChangeSpec := { name := "fnExactCoreOk", fn := fun _ => fun
  | [d] => { results := [.lit (.bool false)], args := [d] }
  | _ => none }
def FnExactCoreOkWrongFalsely : Prop := fnExactCoreOkRow.holds Try.pinned (OpenSpec.ofChange fnExactCoreOkWrong)

/-- 'laws.FnExactHeld': WHATEVER THE INPUT: true; the input reads as it did. -/
def fnExactHeldSpec : ChangeSpec := { name := "fnExactHeld", fn := fun _ => fun
  | [d] => { results := [.lit (.bool true)], args := [d] }
  | _ => none }
def fnExactHeldRow : OpenClaim := { program := "ytgddflnhibhacaa", sum := "8d64dd8ea1c18a2c0d3b1eabf4ea51db26de16fe209099b7d738093236f0972e", func := "loop.example/g00249/laws.FnExactHeld", spec := "fnExactHeld", unfollowed := true, recurses := true, apart := false }
def FnExactHeldSaid : Prop := fnExactHeldRow.holds Try.pinned (OpenSpec.ofChange fnExactHeldSpec)

/-- ITS FALSE NEIGHBOUR: 'it returns false'. Refute it at one input. -/
def fnExactHeldWrong : ChangeSpec := { name := "fnExactHeld", fn := fun _ => fun
  | [d] => { results := [.lit (.bool false)], args := [d] }
  | _ => none }
def FnExactHeldWrongFalsely : Prop := fnExactHeldRow.holds Try.pinned (OpenSpec.ofChange fnExactHeldWrong)

/-- 'laws.FnExactValue': WHATEVER THE INPUT: true; the input reads as it did. -/
def fnExactValueSpec : ChangeSpec := { name := "fnExactValue", fn := fun _ => fun
  | [d1, d2, d3] => { results := [.lit (.bool true)], args := [d1, d2, d3] }
  | _ => none }
def fnExactValueRow : OpenClaim := { program := "ytgddflnhibhacaa", sum := "8d64dd8ea1c18a2c0d3b1eabf4ea51db26de16fe209099b7d738093236f0972e", func := "loop.example/g00249/laws.FnExactValue", spec := "fnExactValue", unfollowed := true, recurses := true, apart := false }
def FnExactValueSaid : Prop := fnExactValueRow.holds Try.pinned (OpenSpec.ofChange fnExactValueSpec)

/-- ITS FALSE NEIGHBOUR: 'it returns false'. Refute it at one input. -/
def fnExactValueWrong : ChangeSpec := { name := "fnExactValue", fn := fun _ => fun
  | [d1, d2, d3] => { results := [.lit (.bool false)], args := [d1, d2, d3] }
  | _ => none }
def FnExactValueWrongFalsely : Prop := fnExactValueRow.holds Try.pinned (OpenSpec.ofChange fnExactValueWrong)

/-- 'laws.FnExactReady': WHATEVER THE INPUT: true; the input reads as it did. -/
def fnExactReadySpec : ChangeSpec := { name := "fnExactReady", fn := fun _ => fun
  | [d1, d2] => { results := [.lit (.bool true)], args := [d1, d2] }
  | _ => none }
def fnExactReadyRow : OpenClaim := { program := "ytgddflnhibhacaa", sum := "8d64dd8ea1c18a2c0d3b1eabf4ea51db26de16fe209099b7d738093236f0972e", func := "loop.example/g00249/laws.FnExactReady", spec := "fnExactReady", unfollowed := true, recurses := true, apart := false }
def FnExactReadySaid : Prop := fnExactReadyRow.holds Try.pinned (OpenSpec.ofChange fnExactReadySpec)

/-- ITS FALSE NEIGHBOUR: 'it returns false'. Refute it at one input. -/
def fnExactReadyWrong : ChangeSpec := { name := "fnExactReady", fn := fun _ => fun
  | [d1, d2] => { results := [.lit (.bool false)], args := [d1, d2] }
  | _ => none }
def FnExactReadyWrongFalsely : Prop := fnExactReadyRow.holds Try.pinned (OpenSpec.ofChange fnExactReadyWrong)

/-- 'laws.FnExactCoreNew': WHATEVER THE INPUT: true; the input reads as it did. -/
def fnExactCoreNewSpec : ChangeSpec := { name := "fnExactCoreNew", fn := fun _ => fun
  | [d] => { results := [.lit (.bool true)], args := [d] }
  | _ => none }
def fnExactCoreNewRow : OpenClaim := { program := "ytgddflnhibhacaa", sum := "8d64dd8ea1c18a2c0d3b1eabf4ea51db26de16fe209099b7d738093236f0972e", func := "loop.example/g00249/laws.FnExactCoreNew", spec := "fnExactCoreNew", unfollowed := true, recurses := true, apart := false }
def FnExactCoreNewSaid : Prop := fnExactCoreNewRow.holds Try.pinned (OpenSpec.ofChange fnExactCoreNewSpec)

/-- ITS FALSE NEIGHBOUR: 'it returns false'. Refute it at one input. -/
def fnExactCoreNewWrong : ChangeSpec := { name := "fnExactCoreNew", fn := fun _ => fun
  | [d] => { results := [.lit (.bool false)], args := [d] }
  | _ => none }
def FnExactCoreNewWrongFalsely : Prop := fnExactCoreNewRow.holds Try.pinned (OpenSpec.ofChange fnExactCoreNewWrong)

/- THE SECOND FORM. 'bulk': how many values and letters a reading holds, each counted each time it is reached (what is shared counts as often as it is met; a slice's spare places count too). A statement '..UptoSaid' is the law's where the arguments, and the package variables that the reading takes, are together of bulk at most 1048576: NARROWER than '..Said'. Prove '..Said' where nothing that the law and all that it calls make is longer than what came in: it says more and counts as full. Else prove '..UptoSaid'. A law counts once. -/
mutual
def uptoBulk {H : Type} : DataW H → Nat
  | .lit (.string bytes) => bytes.length + 1
  | .lit _ => 1
  | .nil => 1
  | .ptr d => uptoBulk d + 1
  | .slice elems spare => uptoBulkAll elems + uptoBulkAll spare + 1
  | .agg parts => uptoBulkAll parts + 1
  | .iface _ d => uptoBulk d + 1
  | .map entries => uptoBulkEntries entries + 1
  | .held _ => 1
def uptoBulkAll {H : Type} : List (DataW H) → Nat
  | [] => 0
  | d :: r => uptoBulk d + uptoBulkAll r
def uptoBulkEntries {H : Type} : List (Lit × DataW H) → Nat
  | [] => 0
  | x :: r => uptoBulkEntry x + uptoBulkEntries r
def uptoBulkEntry {H : Type} : Lit × DataW H → Nat
  | (.string bytes, d) => bytes.length + uptoBulk d + 1
  | (_, d) => uptoBulk d + 1
 end
def uptoSmall : (H : Type) → List (DataW H) → Bool := fun _ ds => decide (uptoBulkAll ds ≤ 1048576)
def OpenSpec.upto (s : _root_.Go.ChangeSpec) : _root_.Go.OpenSpec := { _root_.Go.OpenSpec.ofChange s with cond := some uptoSmall }

/-- 'laws.FnExactGuessNew', WHERE WHAT IT READS IS OF BULK AT MOST 1048576: true; the input reads as it did. -/
def fnExactGuessNewUptoRow : OpenClaim := { program := "ytgddflnhibhacaa", sum := "8d64dd8ea1c18a2c0d3b1eabf4ea51db26de16fe209099b7d738093236f0972e", func := "loop.example/g00249/laws.FnExactGuessNew", spec := "fnExactGuessNew", apart := false, narrowed := true }
def FnExactGuessNewUptoSaid : Prop := fnExactGuessNewUptoRow.holds Try.pinned (OpenSpec.upto fnExactGuessNewSpec)

/-- 'laws.FnExactKeys', WHERE WHAT IT READS IS OF BULK AT MOST 1048576: true; the input reads as it did. -/
def fnExactKeysUptoRow : OpenClaim := { program := "ytgddflnhibhacaa", sum := "8d64dd8ea1c18a2c0d3b1eabf4ea51db26de16fe209099b7d738093236f0972e", func := "loop.example/g00249/laws.FnExactKeys", spec := "fnExactKeys", unfollowed := true, recurses := true, apart := false, narrowed := true }
def FnExactKeysUptoSaid : Prop := fnExactKeysUptoRow.holds Try.pinned (OpenSpec.upto fnExactKeysSpec)

/-- 'laws.FnExactClosed', WHERE WHAT IT READS IS OF BULK AT MOST 1048576: true; the input reads as it did. -/
def fnExactClosedUptoRow : OpenClaim := { program := "ytgddflnhibhacaa", sum := "8d64dd8ea1c18a2c0d3b1eabf4ea51db26de16fe209099b7d738093236f0972e", func := "loop.example/g00249/laws.FnExactClosed", spec := "fnExactClosed", unfollowed := true, recurses := true, apart := false, narrowed := true }
def FnExactClosedUptoSaid : Prop := fnExactClosedUptoRow.holds Try.pinned (OpenSpec.upto fnExactClosedSpec)

/-- 'laws.FnExactSource', WHERE WHAT IT READS IS OF BULK AT MOST 1048576: true; the input reads as it did. -/
def fnExactSourceUptoRow : OpenClaim := { program := "ytgddflnhibhacaa", sum := "8d64dd8ea1c18a2c0d3b1eabf4ea51db26de16fe209099b7d738093236f0972e", func := "loop.example/g00249/laws.FnExactSource", spec := "fnExactSource", apart := false, narrowed := true }
def FnExactSourceUptoSaid : Prop := fnExactSourceUptoRow.holds Try.pinned (OpenSpec.upto fnExactSourceSpec)

/-- 'laws.FnExactFound', WHERE WHAT IT READS IS OF BULK AT MOST 1048576: true; the input reads as it did. -/
def fnExactFoundUptoRow : OpenClaim := { program := "ytgddflnhibhacaa", sum := "8d64dd8ea1c18a2c0d3b1eabf4ea51db26de16fe209099b7d738093236f0972e", func := "loop.example/g00249/laws.FnExactFound", spec := "fnExactFound", apart := false, narrowed := true }
def FnExactFoundUptoSaid : Prop := fnExactFoundUptoRow.holds Try.pinned (OpenSpec.upto fnExactFoundSpec)

/-- 'laws.FnExactCoreOk', WHERE WHAT IT READS IS OF BULK AT MOST 1048576: true; the input reads as it did. -/
def fnExactCoreOkUptoRow : OpenClaim := { program := "ytgddflnhibhacaa", sum := "8d64dd8ea1c18a2c0d3b1eabf4ea51db26de16fe209099b7d738093236f0972e", func := "loop.example/g00249/laws.FnExactCoreOk", spec := "fnExactCoreOk", unfollowed := true, recurses := true, apart := false, narrowed := true }
def FnExactCoreOkUptoSaid : Prop := fnExactCoreOkUptoRow.holds Try.pinned (OpenSpec.upto fnExactCoreOkSpec)

/-- 'laws.FnExactHeld', WHERE WHAT IT READS IS OF BULK AT MOST 1048576: true; the input reads as it did. -/
def fnExactHeldUptoRow : OpenClaim := { program := "ytgddflnhibhacaa", sum := "8d64dd8ea1c18a2c0d3b1eabf4ea51db26de16fe209099b7d738093236f0972e", func := "loop.example/g00249/laws.FnExactHeld", spec := "fnExactHeld", unfollowed := true, recurses := true, apart := false, narrowed := true }
def FnExactHeldUptoSaid : Prop := fnExactHeldUptoRow.holds Try.pinned (OpenSpec.upto fnExactHeldSpec)

/-- 'laws.FnExactValue', WHERE WHAT IT READS IS OF BULK AT MOST 1048576: true; the input reads as it did. -/
def fnExactValueUptoRow : OpenClaim := { program := "ytgddflnhibhacaa", sum := "8d64dd8ea1c18a2c0d3b1eabf4ea51db26de16fe209099b7d738093236f0972e", func := "loop.example/g00249/laws.FnExactValue", spec := "fnExactValue", unfollowed := true, recurses := true, apart := false, narrowed := true }
def FnExactValueUptoSaid : Prop := fnExactValueUptoRow.holds Try.pinned (OpenSpec.upto fnExactValueSpec)

/-- 'laws.FnExactReady', WHERE WHAT IT READS IS OF BULK AT MOST 1048576: true; the input reads as it did. -/
def fnExactReadyUptoRow : OpenClaim := { program := "ytgddflnhibhacaa", sum := "8d64dd8ea1c18a2c0d3b1eabf4ea51db26de16fe209099b7d738093236f0972e", func := "loop.example/g00249/laws.FnExactReady", spec := "fnExactReady", unfollowed := true, recurses := true, apart := false, narrowed := true }
def FnExactReadyUptoSaid : Prop := fnExactReadyUptoRow.holds Try.pinned (OpenSpec.upto fnExactReadySpec)

/-- 'laws.FnExactCoreNew', WHERE WHAT IT READS IS OF BULK AT MOST 1048576: true; the input reads as it did. -/
def fnExactCoreNewUptoRow : OpenClaim := { program := "ytgddflnhibhacaa", sum := "8d64dd8ea1c18a2c0d3b1eabf4ea51db26de16fe209099b7d738093236f0972e", func := "loop.example/g00249/laws.FnExactCoreNew", spec := "fnExactCoreNew", unfollowed := true, recurses := true, apart := false, narrowed := true }
def FnExactCoreNewUptoSaid : Prop := fnExactCoreNewUptoRow.holds Try.pinned (OpenSpec.upto fnExactCoreNewSpec)

end Rows
end Go.Proofs.Ytgddflnhibhacaa
