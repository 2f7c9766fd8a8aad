/- The abstract machine, part 21: a law's row out of what its function is shown to do. No conditions. -/
import Derived.Test.YtgddflnhibhacaaAm20
import Derived.Below
set_option linter.unusedVariables false
set_option linter.unusedSimpArgs false
namespace Go.Proofs.Ytgddflnhibhacaa.AM
open Go

/-- A law that is handed no block and tells true. -/
theorem law_calls {P : Program} {f : FuncId} {args : List AV} (h : Sat P f args [] (.bool true) []) {w : World} {cargs : Array Value} (ha : VRL (fun c => c < w.heap.size) (fun _ => none) w args cargs.toList) :
    Calls P f cargs w fun e w' => e = .returned (.bool true) ∧ Go.RowKit.Below w.heap.size w w' := by
  have := h.2 (fun c => c < w.heap.size) (fun _ => none) w cargs (fun _ h => h) (fun id h => by simp at h) (fun _ _ => rfl) ⟨fun id b e h => by simp at h, fun id id' b b' c c' h => by simp at h, fun id b c h => by simp at h⟩ ha
  refine this.mono ?_
  rintro e w' ⟨cv, ι', rfl, hv, hE⟩
  obtain rfl := VR_bool hv
  refine ⟨rfl, hE.os, hE.tape, hE.out, hE.size, fun k hk => hE.frame k hk fun id e hid => ?_⟩
  simp at hid
end Go.Proofs.Ytgddflnhibhacaa.AM
