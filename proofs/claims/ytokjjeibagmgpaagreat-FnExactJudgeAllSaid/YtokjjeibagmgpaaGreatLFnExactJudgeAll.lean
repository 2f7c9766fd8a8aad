/- The law FnExactJudgeAll of the program holds. No conditions. -/
import Derived.Test.YtokjjeibagmgpaaGreatRows
import Derived.Test.YtokjjeibagmgpaaGreatM4
import Derived.Test.YtokjjeibagmgpaaGreatClq8
import Derived.WalkKit
import Derived.ProofKit
import Derived.OpenShut
import Derived.ShutString
import Derived.ChangeOld
import Derived.SizedLaws
namespace Go.Proofs.YtokjjeibagmgpaaGreat.fnExactJudgeAll
open Go.ChangeShapes Go.WideShapes Go.ChangeAt Go.RowKit
set_option linter.unusedVariables false
set_option linter.unusedSimpArgs false
theorem own : ownKnob Tryz.prog.godebug = none := by kernel_rfl
theorem laid : laidOutB Tryz.prog = true := by kernel_rfl
set_option maxRecDepth 100000 in
theorem lifted (os : Os) (started : os.Started) (H : Type) (enc : TypeId × Value → H) :
    ReturnsInHanded {} Tryz.checked os 8 .any (Rows.fnExactJudgeAllSpec.pre6 enc Tryz.prog Tryz.f8 Rows.fnExactJudgeAllRow.domain false) (Rows.fnExactJudgeAllSpec.post enc Tryz.prog Tryz.f8 false true false false) := by
  refine returnsInHanded_of_change_sized (C := Tryz.checked) own started (by kernel_rfl) Tryz.func8
    (ChangeSpec.witness6 (enc := enc) (C := Tryz.checked) false ⟨#[], #[.slice none 0 0, .agg #[.slice none 0 0, .int .i64 0, .bool false, .int .i64 0, .int .i64 0, .int .i64 0, .int .i64 0, .slice none 0 0, .slice none 0 0, .int .i64 0], .slice none 0 0], []⟩ 8 (by kernel_rfl) (by kernel_rfl) (by kernel_rfl) (by kernel_rfl)) ?_
  intro W base args ds gs before hval0 hW hcnd hsz0 _
  have hval : ∀ (j : Nat) t v, Tryz.f8.params[j]? = some t → args[j]? = some v → Value.okWide Tryz.prog W .any base t v := hval0
  have hW' := hW
  obtain ⟨p, q, hA0, hV, rfl, hfz, hnd⟩ := hW
  have hA : DataW.TrodAll enc Tryz.prog W 0 (fun _ => true) true Tryz.f8.params.toList args.toList ds p := hA0
  rw [Tryz.params8] at hA hval
  obtain ⟨v0, vs0, d0, ds0, p0, q0, hargs, rfl, rfl, h0, r0⟩ := trodAll_cons hA
  obtain ⟨v1, vs1, d1, ds1, p1, q1, hvs, rfl, rfl, h1, r1⟩ := trodAll_cons r0
  subst hvs
  obtain ⟨v2, vs2, d2, ds2, p2, q2, hvs, rfl, rfl, h2, r2⟩ := trodAll_cons r1
  subst hvs
  obtain ⟨rfl, rfl, rfl⟩ := trodAll_nil r2
  obtain rfl : args = #[v0, v1, v2] := by
    apply Array.ext'
    rw [hargs]
  obtain ⟨rfl, rfl⟩ := trodVars_none hV
  obtain ⟨x0, k0, hv0⟩ := AM.arg_slice Tryz.underlying22 (hval 0 22 v0 rfl rfl) h0 (AM.opens_rows Tryz.underlying22 (by kernel_rfl) (AM.Opens.map (enc' := AM.Ins.cells) (ok' := fun _ => True) (fun p => ⟨p.1, p.2.1, p.2.2.1, p.2.2.2.1, p.2.2.2.2.1⟩) (AM.opens_struct (total := 5) Tryz.underlying99 (by kernel_rfl) (AM.opensF_cons (s := 1) (by kernel_rfl) (AM.opens_i64 Tryz.underlying3) (AM.opensF_cons (s := 1) (by kernel_rfl) (AM.opens_i64 Tryz.underlying3) (AM.opensF_cons (s := 1) (by kernel_rfl) (AM.opens_i64 Tryz.underlying3) (AM.opensF_cons (s := 1) (by kernel_rfl) (AM.opens_i64 Tryz.underlying3) (AM.opensF_cons (s := 1) (by kernel_rfl) (AM.opens_i64 Tryz.underlying3) AM.opensF_nil rfl (by decide)) rfl (by decide)) rfl (by decide)) rfl (by decide)) rfl (by decide))) (fun p => by simp [AM.Word.cells, AM.Key.cells, AM.Ins.cells, AM.Fx.cells, AM.Ent.cells, AM.Mem.cells, AM.Stt.cells, AM.Cor.cells, AM.Pik.cells]) (fun _ _ => trivial)))
  obtain ⟨x1, k1, hv1⟩ := AM.arg_struct Tryz.underlying32 (hval 1 32 v1 rfl rfl) h1 (AM.Opens.map (enc' := AM.Stt.cells) (ok' := AM.Stt.sm) (fun p => ⟨p.1, p.2.1, p.2.2.1, p.2.2.2.1⟩) (AM.opens_struct (total := 10) Tryz.underlying32 (by kernel_rfl) (AM.opensF_cons (s := 1) (by kernel_rfl) (AM.opens_rows Tryz.underlying23 (by kernel_rfl) (AM.Opens.map (enc' := AM.Word.cells) (ok' := fun _ => True) (fun p => ⟨p.1, p.2.1, p.2.2.1⟩) (AM.opens_struct (total := 6) Tryz.underlying27 (by kernel_rfl) (AM.opensF_cons (s := 1) (by kernel_rfl) (AM.opens_i64 Tryz.underlying3) (AM.opensF_cons (s := 1) (by kernel_rfl) (AM.opens_bool Tryz.underlying4) (AM.opensF_cons (s := 4) (by kernel_rfl) (AM.Opens.map (enc' := AM.Key.cells) (ok' := fun _ => True) (fun p => ⟨p.1, p.2.1, p.2.2.1, p.2.2.2.1⟩) (AM.opens_struct (total := 4) Tryz.underlying25 (by kernel_rfl) (AM.opensF_cons (s := 1) (by kernel_rfl) (AM.opens_i64 Tryz.underlying3) (AM.opensF_cons (s := 1) (by kernel_rfl) (AM.opens_i64 Tryz.underlying3) (AM.opensF_cons (s := 1) (by kernel_rfl) (AM.opens_i64 Tryz.underlying3) (AM.opensF_cons (s := 1) (by kernel_rfl) (AM.opens_i64 Tryz.underlying3) AM.opensF_nil rfl (by decide)) rfl (by decide)) rfl (by decide)) rfl (by decide))) (fun p => by simp [AM.Word.cells, AM.Key.cells, AM.Ins.cells, AM.Fx.cells, AM.Ent.cells, AM.Mem.cells, AM.Stt.cells, AM.Cor.cells, AM.Pik.cells]) (fun _ _ => trivial)) AM.opensF_nil rfl (by decide)) rfl (by decide)) rfl (by decide))) (fun p => by simp [AM.Word.cells, AM.Key.cells, AM.Ins.cells, AM.Fx.cells, AM.Ent.cells, AM.Mem.cells, AM.Stt.cells, AM.Cor.cells, AM.Pik.cells]) (fun _ _ => trivial))) (AM.opensF_cons (s := 6) (by kernel_rfl) (AM.Opens.map (enc' := AM.Word.cells) (ok' := fun _ => True) (fun p => ⟨p.1, p.2.1, p.2.2.1⟩) (AM.opens_struct (total := 6) Tryz.underlying27 (by kernel_rfl) (AM.opensF_cons (s := 1) (by kernel_rfl) (AM.opens_i64 Tryz.underlying3) (AM.opensF_cons (s := 1) (by kernel_rfl) (AM.opens_bool Tryz.underlying4) (AM.opensF_cons (s := 4) (by kernel_rfl) (AM.Opens.map (enc' := AM.Key.cells) (ok' := fun _ => True) (fun p => ⟨p.1, p.2.1, p.2.2.1, p.2.2.2.1⟩) (AM.opens_struct (total := 4) Tryz.underlying25 (by kernel_rfl) (AM.opensF_cons (s := 1) (by kernel_rfl) (AM.opens_i64 Tryz.underlying3) (AM.opensF_cons (s := 1) (by kernel_rfl) (AM.opens_i64 Tryz.underlying3) (AM.opensF_cons (s := 1) (by kernel_rfl) (AM.opens_i64 Tryz.underlying3) (AM.opensF_cons (s := 1) (by kernel_rfl) (AM.opens_i64 Tryz.underlying3) AM.opensF_nil rfl (by decide)) rfl (by decide)) rfl (by decide)) rfl (by decide))) (fun p => by simp [AM.Word.cells, AM.Key.cells, AM.Ins.cells, AM.Fx.cells, AM.Ent.cells, AM.Mem.cells, AM.Stt.cells, AM.Cor.cells, AM.Pik.cells]) (fun _ _ => trivial)) AM.opensF_nil rfl (by decide)) rfl (by decide)) rfl (by decide))) (fun p => by simp [AM.Word.cells, AM.Key.cells, AM.Ins.cells, AM.Fx.cells, AM.Ent.cells, AM.Mem.cells, AM.Stt.cells, AM.Cor.cells, AM.Pik.cells]) (fun _ _ => trivial)) (AM.opensF_cons (s := 2) (by kernel_rfl) (AM.Opens.map (enc' := AM.Mem.cells) (ok' := AM.Mem.sm) (fun p => ⟨p.1, p.2.1⟩) (AM.opens_struct (total := 2) Tryz.underlying30 (by kernel_rfl) (AM.opensF_cons (s := 1) (by kernel_rfl) (AM.opens_rows Tryz.underlying23 (by kernel_rfl) (AM.Opens.map (enc' := AM.Word.cells) (ok' := fun _ => True) (fun p => ⟨p.1, p.2.1, p.2.2.1⟩) (AM.opens_struct (total := 6) Tryz.underlying27 (by kernel_rfl) (AM.opensF_cons (s := 1) (by kernel_rfl) (AM.opens_i64 Tryz.underlying3) (AM.opensF_cons (s := 1) (by kernel_rfl) (AM.opens_bool Tryz.underlying4) (AM.opensF_cons (s := 4) (by kernel_rfl) (AM.Opens.map (enc' := AM.Key.cells) (ok' := fun _ => True) (fun p => ⟨p.1, p.2.1, p.2.2.1, p.2.2.2.1⟩) (AM.opens_struct (total := 4) Tryz.underlying25 (by kernel_rfl) (AM.opensF_cons (s := 1) (by kernel_rfl) (AM.opens_i64 Tryz.underlying3) (AM.opensF_cons (s := 1) (by kernel_rfl) (AM.opens_i64 Tryz.underlying3) (AM.opensF_cons (s := 1) (by kernel_rfl) (AM.opens_i64 Tryz.underlying3) (AM.opensF_cons (s := 1) (by kernel_rfl) (AM.opens_i64 Tryz.underlying3) AM.opensF_nil rfl (by decide)) rfl (by decide)) rfl (by decide)) rfl (by decide))) (fun p => by simp [AM.Word.cells, AM.Key.cells, AM.Ins.cells, AM.Fx.cells, AM.Ent.cells, AM.Mem.cells, AM.Stt.cells, AM.Cor.cells, AM.Pik.cells]) (fun _ _ => trivial)) AM.opensF_nil rfl (by decide)) rfl (by decide)) rfl (by decide))) (fun p => by simp [AM.Word.cells, AM.Key.cells, AM.Ins.cells, AM.Fx.cells, AM.Ent.cells, AM.Mem.cells, AM.Stt.cells, AM.Cor.cells, AM.Pik.cells]) (fun _ _ => trivial))) (AM.opensF_cons (s := 1) (by kernel_rfl) (AM.opens_rows Tryz.underlying28 (by kernel_rfl) (AM.opens_bool Tryz.underlying4)) AM.opensF_nil rfl (by decide)) rfl (by decide))) (fun p => by simp [AM.Word.cells, AM.Key.cells, AM.Ins.cells, AM.Fx.cells, AM.Ent.cells, AM.Mem.cells, AM.Stt.cells, AM.Cor.cells, AM.Pik.cells]) (fun _ h => ⟨h.1, h.2.1⟩)) (AM.opensF_cons (s := 1) (by kernel_rfl) (AM.opens_i64 Tryz.underlying3) AM.opensF_nil rfl (by decide)) rfl (by decide)) rfl (by decide)) rfl (by decide))) (fun p => by simp [AM.Word.cells, AM.Key.cells, AM.Ins.cells, AM.Fx.cells, AM.Ent.cells, AM.Mem.cells, AM.Stt.cells, AM.Cor.cells, AM.Pik.cells]) (fun _ h => ⟨h.1, h.2.2.1⟩))
  obtain ⟨x2, k2, hv2⟩ := AM.arg_slice Tryz.underlying54 (hval 2 54 v2 rfl rfl) h2 (AM.opens_rows Tryz.underlying54 (by kernel_rfl) (AM.Opens.map (enc' := AM.Pik.cells) (ok' := fun _ => True) (fun p => ⟨p.1, p.2.1⟩) (AM.opens_struct (total := 2) Tryz.underlying79 (by kernel_rfl) (AM.opensF_cons (s := 1) (by kernel_rfl) (AM.opens_i64 Tryz.underlying3) (AM.opensF_cons (s := 1) (by kernel_rfl) (AM.opens_i64 Tryz.underlying3) AM.opensF_nil rfl (by decide)) rfl (by decide))) (fun p => by simp [AM.Word.cells, AM.Key.cells, AM.Ins.cells, AM.Fx.cells, AM.Ent.cells, AM.Mem.cells, AM.Stt.cells, AM.Cor.cells, AM.Pik.cells]) (fun _ _ => trivial)))
  clear hA0 hval0 hsz0
  have hv' : AM.VRL (fun c => c < W.heap.size) (fun _ => none) W [.sl x0.length x0.length (AM.rows x0), .agg x1.cells, .sl x2.length x2.length (AM.rows x2)] #[v0, v1, v2].toList :=
    AM.VRL_cons.2 ⟨v0, _, rfl, hv0, AM.VRL_cons.2 ⟨v1, _, rfl, hv1, AM.VRL_cons.2 ⟨v2, _, rfl, hv2, by simp [AM.VRL]⟩⟩⟩
  refine (AM.law_calls (AM.sat_laws_FnExactJudgeAll x0 x1 x2 k0 k1 k2) hv').mono fun e W' ⟨he, bel⟩ => ?_
  subst he
  exact ⟨_, rfl, _, _, _, [], _, [], hW', trodAll_mk1 (shut_bool Tryz.underlying4 _), AM.trodAll_stays laid bel (by kernel_rfl) hA, rfl, bel.frame _, fun h => by cases h⟩
theorem over : Rows.fnExactJudgeAllRow.holds Tryz.pinned (OpenSpec.ofChange Rows.fnExactJudgeAllSpec) :=
  OpenClaim.holds_of_wide 8 Tryz.f8 rfl rfl rfl rfl rfl rfl rfl ⟨rfl, rfl, rfl, rfl, rfl⟩ rfl rfl rfl rfl rfl (by kernel_rfl) Tryz.func8 (by kernel_rfl)
    (of_decide_eq_true (by kernel_rfl)) (by unfold Func.isWrapper; first | (rw [if_pos (by decide +kernel)]; kernel_rfl) | (rw [if_neg (by decide +kernel)]; exact ⟨rfl, rfl⟩))
    (fun os started H enc _ => lifted os started H enc)
theorem proved : Rows.FnExactJudgeAllSaid := over
end Go.Proofs.YtokjjeibagmgpaaGreat.fnExactJudgeAll
