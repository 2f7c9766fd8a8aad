/- The law FnExactLearn of the program holds. No conditions. -/
import Derived.Test.YtcjjopfmeipidaaRows
import Derived.Test.YtcjjopfmeipidaaOp2
import Derived.Test.YtcjjopfmeipidaaCa4
import Derived.WalkKit
import Derived.ProofKit
import Derived.OpenShut
import Derived.ShutString
import Derived.ChangeOld
import Derived.SizedLaws
namespace Go.Proofs.Ytcjjopfmeipidaa.fnExactLearn
open Go.ChangeShapes Go.WideShapes Go.ChangeAt Go.RowKit
set_option linter.unusedVariables false
theorem own : ownKnob Try.prog.godebug = none := by kernel_rfl
theorem laid : laidOutB Try.prog = true := by kernel_rfl
set_option maxRecDepth 100000 in
theorem lifted (os : Os) (started : os.Started) (H : Type) (enc : TypeId × Value → H) :
    ReturnsInHanded {} Try.checked os 5 .any (Rows.fnExactLearnSpec.pre6 enc Try.prog Try.f5 Rows.fnExactLearnRow.domain false) (Rows.fnExactLearnSpec.post enc Try.prog Try.f5 false true false false) := by
  refine returnsInHanded_of_change_sized (C := Try.checked) own started (by kernel_rfl) Try.func5
    (ChangeSpec.witness6 (enc := enc) (C := Try.checked) false ⟨#[], #[.slice none 0 0, .agg #[.int .i64 0, .bool false, .int .i64 0, .int .i64 0, .int .i64 0, .int .i64 0], .agg #[.int .i64 0, .bool false, .int .i64 0, .int .i64 0, .int .i64 0, .int .i64 0]], []⟩ 8 (by kernel_rfl) (by kernel_rfl) (by kernel_rfl) (by kernel_rfl)) ?_
  intro W base args ds gs before hval0 hW hcnd hsz0 _
  have hval : ∀ (j : Nat) t v, Try.f5.params[j]? = some t → args[j]? = some v → Value.okWide Try.prog W .any base t v := hval0
  have hW' := hW
  obtain ⟨p, q, hA0, hV, rfl, hfz, hnd⟩ := hW
  have hA : DataW.TrodAll enc Try.prog W 0 (fun _ => true) true Try.f5.params.toList args.toList ds p := hA0
  rw [Try.params5] at hA hval
  obtain ⟨v0, vs0, d0, ds0, p0, q0, hargs, rfl, rfl, h0, r0⟩ := trodAll_cons hA
  obtain ⟨v1, vs1, d1, ds1, p1, q1, hvs, rfl, rfl, h1, r1⟩ := trodAll_cons r0
  subst hvs
  obtain ⟨v2, vs2, d2, ds2, p2, q2, hvs, rfl, rfl, h2, r2⟩ := trodAll_cons r1
  subst hvs
  obtain ⟨rfl, rfl, rfl⟩ := trodAll_nil r2
  obtain rfl : args = #[v0, v1, v2] := by
    apply Array.ext'
    rw [hargs]
  obtain ⟨rfl, rfl⟩ := trodVars_none hV
  have opw : AM.Opens Try.prog 31 AM.Word.cells AM.Word.ok := AM.opens_word Try.underlying31 (by kernel_rfl) Try.underlying3 (by kernel_rfl) Try.underlying4 (by kernel_rfl)
    (AM.opens_key Try.underlying29 (by kernel_rfl) Try.underlying3 (by kernel_rfl) rfl rfl rfl rfl rfl rfl rfl rfl) (by kernel_rfl) rfl rfl rfl rfl rfl rfl
  obtain ⟨xs, _, hv0⟩ := AM.arg_slice Try.underlying24 (hval 0 24 v0 rfl rfl) h0 (AM.opens_ints Try.underlying24 Try.underlying3 (by kernel_rfl))
  obtain ⟨w, _, hv1⟩ := AM.arg_struct Try.underlying31 (hval 1 31 v1 rfl rfl) h1 opw
  obtain ⟨v, _, hv2⟩ := AM.arg_struct Try.underlying31 (hval 2 31 v2 rfl rfl) h2 opw
  clear hA0 hval0 hsz0
  have hv' : AM.VRL (fun c => c < W.heap.size) (fun _ => none) W [.sl xs.length xs.length (AM.ints xs), .agg w.cells, .agg v.cells] #[v0, v1, v2].toList :=
    AM.VRL_cons.2 ⟨v0, _, rfl, hv0, AM.VRL_cons.2 ⟨v1, _, rfl, hv1, AM.VRL_cons.2 ⟨v2, [], rfl, hv2, by simp [AM.VRL]⟩⟩⟩
  refine (AM.law_calls (AM.sat_laws_FnExactLearn xs w v xs.length) hv').mono fun e W' ⟨he, bel⟩ => ?_
  subst he
  exact ⟨_, rfl, _, _, _, [], _, [], hW', trodAll_mk1 (shut_bool Try.underlying4 _), AM.trodAll_stays laid bel (by kernel_rfl) hA, rfl, bel.frame _, fun h => by cases h⟩
theorem over : Rows.fnExactLearnRow.holds Try.pinned (OpenSpec.ofChange Rows.fnExactLearnSpec) :=
  OpenClaim.holds_of_wide 5 Try.f5 rfl rfl rfl rfl rfl rfl rfl ⟨rfl, rfl, rfl, rfl, rfl⟩ rfl rfl rfl rfl rfl (by kernel_rfl) Try.func5 (by kernel_rfl)
    (of_decide_eq_true (by kernel_rfl)) (by unfold Func.isWrapper; first | (rw [if_pos (by decide +kernel)]; kernel_rfl) | (rw [if_neg (by decide +kernel)]; exact ⟨rfl, rfl⟩))
    (fun os started H enc _ => lifted os started H enc)
theorem proved : Rows.FnExactLearnSaid := over
end Go.Proofs.Ytcjjopfmeipidaa.fnExactLearn
