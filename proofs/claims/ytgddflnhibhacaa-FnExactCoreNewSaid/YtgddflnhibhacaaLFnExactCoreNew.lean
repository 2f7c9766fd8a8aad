/- The law FnExactCoreNew of the program holds. No conditions. -/
import Derived.Test.YtgddflnhibhacaaRows
import Derived.Test.YtgddflnhibhacaaM4
import Derived.Test.YtgddflnhibhacaaClk5
import Derived.WalkKit
import Derived.ProofKit
import Derived.OpenShut
import Derived.ShutString
import Derived.ChangeOld
import Derived.SizedLaws
namespace Go.Proofs.Ytgddflnhibhacaa.fnExactCoreNew
open Go.ChangeShapes Go.WideShapes Go.ChangeAt Go.RowKit
set_option linter.unusedVariables false
set_option linter.unusedSimpArgs false
theorem own : ownKnob Try.prog.godebug = none := by kernel_rfl
theorem laid : laidOutB Try.prog = true := by kernel_rfl
set_option maxRecDepth 100000 in
theorem lifted (os : Os) (started : os.Started) (H : Type) (enc : TypeId × Value → H) :
    ReturnsInHanded {} Try.checked os 12 .any (Rows.fnExactCoreNewSpec.pre6 enc Try.prog Try.f12 Rows.fnExactCoreNewRow.domain false) (Rows.fnExactCoreNewSpec.post enc Try.prog Try.f12 false true false false) := by
  refine returnsInHanded_of_change_sized (C := Try.checked) own started (by kernel_rfl) Try.func12
    (ChangeSpec.witness6 (enc := enc) (C := Try.checked) false ⟨#[], #[.agg #[.slice none 0 0, .int .i64 0, .bool false, .int .i64 0, .int .i64 0, .int .i64 0, .int .i64 0, .slice none 0 0, .slice none 0 0, .int .i64 0]], []⟩ 8 (by kernel_rfl) (by kernel_rfl) (by kernel_rfl) (by kernel_rfl)) ?_
  intro W base args ds gs before hval0 hW hcnd hsz0 _
  have hval : ∀ (j : Nat) t v, Try.f12.params[j]? = some t → args[j]? = some v → Value.okWide Try.prog W .any base t v := hval0
  have hW' := hW
  obtain ⟨p, q, hA0, hV, rfl, hfz, hnd⟩ := hW
  have hA : DataW.TrodAll enc Try.prog W 0 (fun _ => true) true Try.f12.params.toList args.toList ds p := hA0
  rw [Try.params12] at hA hval
  obtain ⟨v0, vs0, d0, ds0, p0, q0, hargs, rfl, rfl, h0, r0⟩ := trodAll_cons hA
  obtain ⟨rfl, rfl, rfl⟩ := trodAll_nil r0
  obtain rfl : args = #[v0] := by
    apply Array.ext'
    rw [hargs]
  obtain ⟨rfl, rfl⟩ := trodVars_none hV
  obtain ⟨x0, k0, hv0⟩ := AM.arg_struct Try.underlying36 (hval 0 36 v0 rfl rfl) h0 (AM.Opens.map (enc' := AM.Stt.cells) (ok' := AM.Stt.sm) (fun p => ⟨p.1, p.2.1, p.2.2.1, p.2.2.2.1⟩) (AM.opens_struct (total := 10) Try.underlying36 (by kernel_rfl) (AM.opensF_cons (s := 1) (by kernel_rfl) (AM.opens_rows Try.underlying27 (by kernel_rfl) (AM.Opens.map (enc' := AM.Word.cells) (ok' := fun _ => True) (fun p => ⟨p.1, p.2.1, p.2.2.1⟩) (AM.opens_struct (total := 6) Try.underlying31 (by kernel_rfl) (AM.opensF_cons (s := 1) (by kernel_rfl) (AM.opens_i64 Try.underlying3) (AM.opensF_cons (s := 1) (by kernel_rfl) (AM.opens_bool Try.underlying4) (AM.opensF_cons (s := 4) (by kernel_rfl) (AM.Opens.map (enc' := AM.Key.cells) (ok' := fun _ => True) (fun p => ⟨p.1, p.2.1, p.2.2.1, p.2.2.2.1⟩) (AM.opens_struct (total := 4) Try.underlying29 (by kernel_rfl) (AM.opensF_cons (s := 1) (by kernel_rfl) (AM.opens_i64 Try.underlying3) (AM.opensF_cons (s := 1) (by kernel_rfl) (AM.opens_i64 Try.underlying3) (AM.opensF_cons (s := 1) (by kernel_rfl) (AM.opens_i64 Try.underlying3) (AM.opensF_cons (s := 1) (by kernel_rfl) (AM.opens_i64 Try.underlying3) AM.opensF_nil rfl (by decide)) rfl (by decide)) rfl (by decide)) rfl (by decide))) (fun p => by simp [AM.Word.cells, AM.Key.cells, AM.Ins.cells, AM.Fx.cells, AM.Ent.cells, AM.Mem.cells, AM.Stt.cells, AM.Cor.cells, AM.Pik.cells]) (fun _ _ => trivial)) AM.opensF_nil rfl (by decide)) rfl (by decide)) rfl (by decide))) (fun p => by simp [AM.Word.cells, AM.Key.cells, AM.Ins.cells, AM.Fx.cells, AM.Ent.cells, AM.Mem.cells, AM.Stt.cells, AM.Cor.cells, AM.Pik.cells]) (fun _ _ => trivial))) (AM.opensF_cons (s := 6) (by kernel_rfl) (AM.Opens.map (enc' := AM.Word.cells) (ok' := fun _ => True) (fun p => ⟨p.1, p.2.1, p.2.2.1⟩) (AM.opens_struct (total := 6) Try.underlying31 (by kernel_rfl) (AM.opensF_cons (s := 1) (by kernel_rfl) (AM.opens_i64 Try.underlying3) (AM.opensF_cons (s := 1) (by kernel_rfl) (AM.opens_bool Try.underlying4) (AM.opensF_cons (s := 4) (by kernel_rfl) (AM.Opens.map (enc' := AM.Key.cells) (ok' := fun _ => True) (fun p => ⟨p.1, p.2.1, p.2.2.1, p.2.2.2.1⟩) (AM.opens_struct (total := 4) Try.underlying29 (by kernel_rfl) (AM.opensF_cons (s := 1) (by kernel_rfl) (AM.opens_i64 Try.underlying3) (AM.opensF_cons (s := 1) (by kernel_rfl) (AM.opens_i64 Try.underlying3) (AM.opensF_cons (s := 1) (by kernel_rfl) (AM.opens_i64 Try.underlying3) (AM.opensF_cons (s := 1) (by kernel_rfl) (AM.opens_i64 Try.underlying3) AM.opensF_nil rfl (by decide)) rfl (by decide)) rfl (by decide)) rfl (by decide))) (fun p => by simp [AM.Word.cells, AM.Key.cells, AM.Ins.cells, AM.Fx.cells, AM.Ent.cells, AM.Mem.cells, AM.Stt.cells, AM.Cor.cells, AM.Pik.cells]) (fun _ _ => trivial)) AM.opensF_nil rfl (by decide)) rfl (by decide)) rfl (by decide))) (fun p => by simp [AM.Word.cells, AM.Key.cells, AM.Ins.cells, AM.Fx.cells, AM.Ent.cells, AM.Mem.cells, AM.Stt.cells, AM.Cor.cells, AM.Pik.cells]) (fun _ _ => trivial)) (AM.opensF_cons (s := 2) (by kernel_rfl) (AM.Opens.map (enc' := AM.Mem.cells) (ok' := AM.Mem.sm) (fun p => ⟨p.1, p.2.1⟩) (AM.opens_struct (total := 2) Try.underlying34 (by kernel_rfl) (AM.opensF_cons (s := 1) (by kernel_rfl) (AM.opens_rows Try.underlying27 (by kernel_rfl) (AM.Opens.map (enc' := AM.Word.cells) (ok' := fun _ => True) (fun p => ⟨p.1, p.2.1, p.2.2.1⟩) (AM.opens_struct (total := 6) Try.underlying31 (by kernel_rfl) (AM.opensF_cons (s := 1) (by kernel_rfl) (AM.opens_i64 Try.underlying3) (AM.opensF_cons (s := 1) (by kernel_rfl) (AM.opens_bool Try.underlying4) (AM.opensF_cons (s := 4) (by kernel_rfl) (AM.Opens.map (enc' := AM.Key.cells) (ok' := fun _ => True) (fun p => ⟨p.1, p.2.1, p.2.2.1, p.2.2.2.1⟩) (AM.opens_struct (total := 4) Try.underlying29 (by kernel_rfl) (AM.opensF_cons (s := 1) (by kernel_rfl) (AM.opens_i64 Try.underlying3) (AM.opensF_cons (s := 1) (by kernel_rfl) (AM.opens_i64 Try.underlying3) (AM.opensF_cons (s := 1) (by kernel_rfl) (AM.opens_i64 Try.underlying3) (AM.opensF_cons (s := 1) (by kernel_rfl) (AM.opens_i64 Try.underlying3) AM.opensF_nil rfl (by decide)) rfl (by decide)) rfl (by decide)) rfl (by decide))) (fun p => by simp [AM.Word.cells, AM.Key.cells, AM.Ins.cells, AM.Fx.cells, AM.Ent.cells, AM.Mem.cells, AM.Stt.cells, AM.Cor.cells, AM.Pik.cells]) (fun _ _ => trivial)) AM.opensF_nil rfl (by decide)) rfl (by decide)) rfl (by decide))) (fun p => by simp [AM.Word.cells, AM.Key.cells, AM.Ins.cells, AM.Fx.cells, AM.Ent.cells, AM.Mem.cells, AM.Stt.cells, AM.Cor.cells, AM.Pik.cells]) (fun _ _ => trivial))) (AM.opensF_cons (s := 1) (by kernel_rfl) (AM.opens_rows Try.underlying32 (by kernel_rfl) (AM.opens_bool Try.underlying4)) AM.opensF_nil rfl (by decide)) rfl (by decide))) (fun p => by simp [AM.Word.cells, AM.Key.cells, AM.Ins.cells, AM.Fx.cells, AM.Ent.cells, AM.Mem.cells, AM.Stt.cells, AM.Cor.cells, AM.Pik.cells]) (fun _ h => ⟨h.1, h.2.1⟩)) (AM.opensF_cons (s := 1) (by kernel_rfl) (AM.opens_i64 Try.underlying3) AM.opensF_nil rfl (by decide)) rfl (by decide)) rfl (by decide)) rfl (by decide))) (fun p => by simp [AM.Word.cells, AM.Key.cells, AM.Ins.cells, AM.Fx.cells, AM.Ent.cells, AM.Mem.cells, AM.Stt.cells, AM.Cor.cells, AM.Pik.cells]) (fun _ h => ⟨h.1, h.2.2.1⟩))
  clear hA0 hval0 hsz0
  have hv' : AM.VRL (fun c => c < W.heap.size) (fun _ => none) W [.agg x0.cells] #[v0].toList :=
    AM.VRL_cons.2 ⟨v0, _, rfl, hv0, by simp [AM.VRL]⟩
  refine (AM.law_calls (AM.sat_laws_FnExactCoreNew x0 k0) hv').mono fun e W' ⟨he, bel⟩ => ?_
  subst he
  exact ⟨_, rfl, _, _, _, [], _, [], hW', trodAll_mk1 (shut_bool Try.underlying4 _), AM.trodAll_stays laid bel (by kernel_rfl) hA, rfl, bel.frame _, fun h => by cases h⟩
theorem over : Rows.fnExactCoreNewRow.holds Try.pinned (OpenSpec.ofChange Rows.fnExactCoreNewSpec) :=
  OpenClaim.holds_of_wide 12 Try.f12 rfl rfl rfl rfl rfl rfl rfl ⟨rfl, rfl, rfl, rfl, rfl⟩ rfl rfl rfl rfl rfl (by kernel_rfl) Try.func12 (by kernel_rfl)
    (of_decide_eq_true (by kernel_rfl)) (by unfold Func.isWrapper; first | (rw [if_pos (by decide +kernel)]; kernel_rfl) | (rw [if_neg (by decide +kernel)]; exact ⟨rfl, rfl⟩))
    (fun os started H enc _ => lifted os started H enc)
theorem proved : Rows.FnExactCoreNewSaid := over
end Go.Proofs.Ytgddflnhibhacaa.fnExactCoreNew
