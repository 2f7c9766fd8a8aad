/- A law's arguments: numbers, texts, rows of structs, structs. No conditions. -/
import Derived.Test.YtgddflnhibhacaaOp1
import Derived.Test.YtgddflnhibhacaaSp3
import Derived.ProofKit
import Derived.OpenShut
import Derived.WalkKit
set_option linter.unusedVariables false
set_option linter.unusedSimpArgs false
namespace Go.Proofs.Ytgddflnhibhacaa.AM
open Go Go.ChangeShapes Go.WideShapes Go.ChangeAt Go.RowKit
section
variable {P : Program} {t e : TypeId}
theorem opens_i64 (ht : P.underlying t = some (.int .i64)) : Opens P t (fun n : Int => [AV.int .i64 n]) (fun _ => True) := (opens_int ht).map id (fun _ => rfl) (fun _ _ => trivial)
theorem opens_rows {α : Type} [Enc α] (ht : P.underlying t = some (.slice e)) (hs : P.cellsOf e = Enc.sz α) (h : Opens P e (Enc.cells (α := α)) (fun _ => True)) : Opens P t (fun xs : List α => [AV.sl xs.length xs.length (rows xs)]) (fun xs => xs.length ≤ 9223372036854775807) :=
  (opens_slice ht hs Enc.pos Enc.len h).map id (fun _ => rfl) (fun _ h => Nat.le_trans h.2 (by decide))
theorem opens_row1 (ht : P.underlying t = some (.slice e)) (he : P.underlying e = some (.int .i64)) (hc : P.cellsOf e = 1) : Opens P t (fun xs : List Int => [AV.sl xs.length xs.length (ints xs)]) (fun xs => xs.length ≤ 9223372036854775807) :=
  (opens_slice (s := 1) (enc := fun n : Int => [.int .i64 n]) ht hc (by decide) (fun _ => rfl) (opens_i64 he)).map id (fun xs => by rw [ints_flat]; rfl) (fun _ h => Nat.le_trans h.2 (by decide))
theorem opens_string (ht : P.underlying t = some .string) : Opens P t (fun s => [AV.str s]) (fun _ => True) := (opens_str ht).map id (fun _ => rfl) (fun _ _ => trivial)
/-- An argument that is a number, a text. -/
theorem arg_int {H : Type} {encH : TypeId × Value → H} {W : World} {r : Reach} {base : Nat} {v : Value} {d : DataW H} {p : List MemPlace} (ht : P.underlying t = some (.int .i64)) (hv : Value.okWide P W r base t v)
    (h : DataW.Trod encH P W 0 (fun _ => true) true t v d p) : ∃ n : Int, (Lit.int .i64 n).wf = true ∧ VR (fun c => c < W.heap.size) (fun _ => none) W (.int .i64 n) v := by
  obtain ⟨a0, rfl, rfl, rfl, w0⟩ := open_int ht hv h
  exact ⟨a0, w0, by simp [VR]⟩
end
end Go.Proofs.Ytgddflnhibhacaa.AM
