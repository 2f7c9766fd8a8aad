/- What functions of Go's library are shown to do elsewhere, said of the abstract machine. No conditions. -/
import Derived.Test.YtgpjgljgplngpaaGreatDoorTx1
import Derived.Below
import Derived.Lib.AtoiErrMem
import Derived.Lib.AppendIntMem
import Derived.Lib.SlicesS
set_option linter.unusedVariables false
set_option linter.unusedSimpArgs false
namespace Go.Proofs.YtgpjgljgplngpaaGreatDoor.AM
open Go

section
variable {P : Program} {F : Nat → Prop} {ι : Inj} {w : World} {f : FuncId} {v : AV} {args : List AV} {s t : ByteArray} {vs : List Value}
theorem sat_lib (hent : ∀ (as : Array Value) (w : World), (callFunc f as).run P w = .ok (.enter f as) w)
    (h : ∀ (F : Nat → Prop) (ι : Inj) (w : World) (cargs : Array Value), GR F w → VRL F ι w args cargs.toList → ∃ cv, VR F ι w v cv ∧ Calls P f cargs w (fun e w' => e = .returned cv ∧ Go.RowKit.Below w.heap.size w w')) : Sat P f args [] v [] := by
  refine ⟨hent, fun F ι w cargs hF hG _ _ _ ha => ?_⟩
  obtain ⟨cv, hv, hc⟩ := h F ι w cargs hG ha
  refine hc.mono ?_
  rintro e w' ⟨rfl, hb⟩
  exact ⟨cv, ι, rfl, hv, Nat.le_refl _, Inj.le_refl _, fun _ _ => rfl, fun id _ h2 => absurd h2 (by simp), fun id _ _ h2 => absurd h2 (by simp), fun id _ _ _ _ h2 => absurd h2 (by simp), fun id _ _ h1 => absurd h1 (by simp), fun _ _ _ => rfl, fun c hc _ => hb.block c hc, hb.os, hb.tape, hb.output, hb.size⟩
theorem vrl_str {cargs : Array Value} (h : VRL F ι w [.str s] cargs.toList) : cargs = #[.string s] := by
  obtain ⟨v, rest, h1, h2, h3⟩ := VRL_cons.1 h
  rw [VRL_nil] at h3
  simp only [VR] at h2
  subst h2 h3
  apply Array.ext'
  rw [h1]
theorem vrl_str2 {cargs : Array Value} (h : VRL F ι w [.str s, .str t] cargs.toList) : cargs = #[.string s, .string t] := by
  obtain ⟨v, rest, h1, h2, h3⟩ := VRL_cons.1 h
  obtain ⟨v', rest', h1', h2', h3'⟩ := VRL_cons.1 h3
  rw [VRL_nil] at h3'
  simp only [VR] at h2 h2'
  subst h2 h2' h3' h1'
  apply Array.ext'
  rw [h1]
theorem vrl_int {cargs : Array Value} {k : IntKind} {n : Int} (h : VRL F ι w [.int k n] cargs.toList) : cargs = #[.int k n] := by
  obtain ⟨v, rest, h1, h2, h3⟩ := VRL_cons.1 h
  rw [VRL_nil] at h3
  simp only [VR] at h2
  subst h2 h3
  apply Array.ext'
  rw [h1]
/-- An error that is nil, or not. -/
def errV (b : Bool) : AV := if b = true then .nilif else .someif
theorem errV_sh {mm : Nat → Nat} {b : Bool} : sh mm (errV b) = errV b := by cases b <;> rfl
theorem errV_bor {Hb : Heap} {inv : Nat → Option Nat} {n : Nat} {b : Bool} : bor Hb inv (n + 1) (errV b) = errV b := by cases b <;> rfl
theorem errV_noS {b : Bool} : noS (errV b) = true := by cases b <;> rfl
theorem errV_neq {t : TypeId} {b : Bool} (h : tIfc P t = true) : aBin P .neq t (errV b) .nilif = some (.bool (!b)) := by
  cases b <;> simp [errV, aBin, aEq, h]
theorem errV_gOk {x : Operand} {c : Value} {b : Bool} : gOk x (.const c) (errV b) .nilif = true := by cases b <;> simp [errV, gOk, isC]
theorem errV_cells {b : Bool} : (errV b).cells? = some [errV b] := by cases b <;> rfl
attribute [go_sem] errV_sh errV_bor errV_noS errV_neq errV_gOk errV_cells
end
end Go.Proofs.YtgpjgljgplngpaaGreatDoor.AM
