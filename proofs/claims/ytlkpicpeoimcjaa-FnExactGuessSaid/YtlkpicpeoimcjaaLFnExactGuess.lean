/- The law FnExactGuess of the program holds. No conditions. -/
import Derived.Test.YtlkpicpeoimcjaaRows
import Derived.Test.YtlkpicpeoimcjaaOp3
import Derived.Test.YtlkpicpeoimcjaaCl4
import Derived.WalkKit
import Derived.ProofKit
import Derived.OpenShut
import Derived.ShutString
import Derived.ChangeOld
import Derived.SizedLaws
namespace Go.Proofs.Ytlkpicpeoimcjaa.fnExactGuess
open Go.ChangeShapes Go.WideShapes Go.ChangeAt Go.RowKit
set_option linter.unusedVariables false
set_option linter.unusedSimpArgs false
theorem own : ownKnob Try.prog.godebug = none := by kernel_rfl
theorem laid : laidOutB Try.prog = true := by kernel_rfl
set_option maxRecDepth 100000 in
theorem lifted (os : Os) (started : os.Started) (H : Type) (enc : TypeId × Value → H) :
    ReturnsInHanded {} Try.checked os 5 .any (Rows.fnExactGuessSpec.pre6 enc Try.prog Try.f5 Rows.fnExactGuessRow.domain false) (Rows.fnExactGuessSpec.post enc Try.prog Try.f5 false true false false) := by
  refine returnsInHanded_of_change_sized (C := Try.checked) own started (by kernel_rfl) Try.func5
    (ChangeSpec.witness6 (enc := enc) (C := Try.checked) false ⟨#[], #[.slice none 0 0, .agg #[.int .i64 0, .bool false, .int .i64 0, .int .i64 0, .int .i64 0, .int .i64 0]], []⟩ 8 (by kernel_rfl) (by kernel_rfl) (by kernel_rfl) (by kernel_rfl)) ?_
  intro W base args ds gs before hval0 hW hcnd hsz0 _
  have hval : ∀ (j : Nat) t v, Try.f5.params[j]? = some t → args[j]? = some v → Value.okWide Try.prog W .any base t v := hval0
  have hW' := hW
  obtain ⟨p, q, hA0, hV, rfl, hfz, hnd⟩ := hW
  have hA : DataW.TrodAll enc Try.prog W 0 (fun _ => true) true Try.f5.params.toList args.toList ds p := hA0
  rw [Try.params5] at hA hval
  obtain ⟨v0, vs0, d0, ds0, p0, q0, hargs, rfl, rfl, h0, r0⟩ := trodAll_cons hA
  obtain ⟨v1, vs1, d1, ds1, p1, q1, hvs, rfl, rfl, h1, r1⟩ := trodAll_cons r0
  subst hvs
  obtain ⟨rfl, rfl, rfl⟩ := trodAll_nil r1
  obtain rfl : args = #[v0, v1] := by
    apply Array.ext'
    rw [hargs]
  obtain ⟨rfl, rfl⟩ := trodVars_none hV
  obtain ⟨x0, k0, hv0⟩ := AM.arg_slice Try.underlying22 (hval 0 22 v0 rfl rfl) h0 (AM.opens_row1 Try.underlying22 Try.underlying3 (by kernel_rfl))
  obtain ⟨x1, k1, hv1⟩ := AM.arg_struct Try.underlying31 (hval 1 31 v1 rfl rfl) h1 (AM.Opens.map (enc' := AM.Word.cells) (ok' := fun _ => True) (fun p => ⟨p.1, p.2.1, p.2.2.1⟩) (AM.opens_struct (total := 6) Try.underlying31 (by kernel_rfl) (AM.opensF_cons (s := 1) (by kernel_rfl) (AM.opens_i64 Try.underlying3) (AM.opensF_cons (s := 1) (by kernel_rfl) (AM.opens_bool Try.underlying4) (AM.opensF_cons (s := 4) (by kernel_rfl) (AM.Opens.map (enc' := AM.Key.cells) (ok' := fun _ => True) (fun p => ⟨p.1, p.2.1, p.2.2.1, p.2.2.2.1⟩) (AM.opens_struct (total := 4) Try.underlying29 (by kernel_rfl) (AM.opensF_cons (s := 1) (by kernel_rfl) (AM.opens_i64 Try.underlying3) (AM.opensF_cons (s := 1) (by kernel_rfl) (AM.opens_i64 Try.underlying3) (AM.opensF_cons (s := 1) (by kernel_rfl) (AM.opens_i64 Try.underlying3) (AM.opensF_cons (s := 1) (by kernel_rfl) (AM.opens_i64 Try.underlying3) AM.opensF_nil rfl (by decide)) rfl (by decide)) rfl (by decide)) rfl (by decide))) (fun p => by simp [AM.Word.cells, AM.Key.cells, AM.Ins.cells, AM.Fx.cells, AM.Ent.cells, AM.Mem.cells, AM.Stt.cells, AM.Cor.cells, AM.Pik.cells]) (fun _ _ => trivial)) AM.opensF_nil rfl (by decide)) rfl (by decide)) rfl (by decide))) (fun p => by simp [AM.Word.cells, AM.Key.cells, AM.Ins.cells, AM.Fx.cells, AM.Ent.cells, AM.Mem.cells, AM.Stt.cells, AM.Cor.cells, AM.Pik.cells]) (fun _ _ => trivial))
  clear hA0 hval0 hsz0
  have hv' : AM.VRL (fun c => c < W.heap.size) (fun _ => none) W [.sl x0.length x0.length (AM.ints x0), .agg x1.cells] #[v0, v1].toList :=
    AM.VRL_cons.2 ⟨v0, _, rfl, hv0, AM.VRL_cons.2 ⟨v1, _, rfl, hv1, by simp [AM.VRL]⟩⟩
  refine (AM.law_calls (AM.sat_laws_FnExactGuess x0 x1) hv').mono fun e W' ⟨he, bel⟩ => ?_
  subst he
  exact ⟨_, rfl, _, _, _, [], _, [], hW', trodAll_mk1 (shut_bool Try.underlying4 _), AM.trodAll_stays laid bel (by kernel_rfl) hA, rfl, bel.frame _, fun h => by cases h⟩
theorem over : Rows.fnExactGuessRow.holds Try.pinned (OpenSpec.ofChange Rows.fnExactGuessSpec) :=
  OpenClaim.holds_of_wide 5 Try.f5 rfl rfl rfl rfl rfl rfl rfl ⟨rfl, rfl, rfl, rfl, rfl⟩ rfl rfl rfl rfl rfl (by kernel_rfl) Try.func5 (by kernel_rfl)
    (of_decide_eq_true (by kernel_rfl)) (by unfold Func.isWrapper; first | (rw [if_pos (by decide +kernel)]; kernel_rfl) | (rw [if_neg (by decide +kernel)]; exact ⟨rfl, rfl⟩))
    (fun os started H enc _ => lifted os started H enc)
theorem proved : Rows.FnExactGuessSaid := over
end Go.Proofs.Ytlkpicpeoimcjaa.fnExactGuess
