/- A law's arguments: rows of numbers. No conditions. -/
import Derived.Test.YtgddflnhibhacaaAm22
import Derived.Test.YtgddflnhibhacaaSp1
set_option linter.unusedVariables false
set_option linter.unusedSimpArgs false
namespace Go.Proofs.Ytgddflnhibhacaa.AM
open Go
theorem opens_ints {P : Program} {t e : TypeId} (ht : P.underlying t = some (.slice e)) (he : P.underlying e = some (.int .i64)) (hc : P.cellsOf e = 1) : Opens P t (fun xs : List Int => [.sl xs.length xs.length (ints xs)]) (fun xs => ∀ x, x ∈ xs → (Lit.int .i64 x).wf = true) :=
  Opens.map id (opens_slice (s := 1) (enc := fun n : Int => [.int .i64 n]) ht hc (by decide) (fun _ => rfl) (opens_int he)) (fun xs => by rw [ints_flat]; rfl) (fun _ h => h.1)
end Go.Proofs.Ytgddflnhibhacaa.AM
