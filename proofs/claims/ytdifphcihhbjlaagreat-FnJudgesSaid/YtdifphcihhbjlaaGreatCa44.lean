/- Is it judged to be the same. No conditions but those each theorem bears. -/
import Derived.Test.YtdifphcihhbjlaaGreatFa
import Derived.Test.YtdifphcihhbjlaaGreatM5
import Derived.Test.YtdifphcihhbjlaaGreatCa41
import Derived.Test.YtdifphcihhbjlaaGreatCa32
import Derived.Test.YtdifphcihhbjlaaGreatCa8
set_option linter.unusedSimpArgs false
set_option linter.unusedVariables false
namespace Go.Proofs.YtdifphcihhbjlaaGreat.AM
open Go
set_option maxHeartbeats 8000000
set_option maxRecDepth 100000

theorem sat_impl_judged (s : Stt) (ps : List Pik) (hf : s.fit) : Sat Tryz.prog 129 [.agg s.cells, .sl ps.length ps.length (rows ps)] [] (.bool (sttOk s && decide (ps.length ≤ 600))) [] := by
 have hX := trivial
 refine sat_mk [.tmp 4] 0 12 Tryz.call129 Tryz.func129 Tryz.ntmps129 rfl rfl rfl rfl rfl ?_
 refine zI [0, 1] ?_
 refine zS [1, 2] ?_
 intro ρ hL
 refine zA ?_
 intro K hK
 refine zF (sat_impl_StateOk s hf) ?_
 refine zL [1, 7] ?_
 clear hL
 intro ρ hL
 refine grp_andN (tc := 7) (tv := 10) (td := 11) (v := ?v1) 3 rfl [] hL.2 rfl (fun hb K1 hK1 => ?run) (fun hb => ?skip) (fun ρ hP hM => ?_)
 case skip => exact skA (want := true) (b := _) (by rw [hb]; rfl) hL.2 rfl
 case run =>
  simp only [List.take_succ_cons, List.take_zero]
  rw [hb] at hL
  try simp only [go_sem, simprocAttr, hL, hX]
  repeat' refine And.intro (by first | rfl | omega | (simp; done)) ?_
  refine hK1 _ ?_ ?_ ?_ <;> simp only [go_sem, simprocAttr, hL, hX] <;> exact rfl
 simp only [List.drop_succ_cons, List.drop_zero]
 clear hM hL
 have hL := hP
 clear hP
 try simp only [go_sem, simprocAttr, hL, hX]
 repeat' refine And.intro (by first | rfl | omega | (simp; done)) ?_
 refine zE [4] ?_
 clear hK K hL
 refine zR ?_
 try simp only [go_sem, simprocAttr]
 all_goals (congr 1; congr 1; rw [decide_eq_decide]; omega)
theorem sat_spec_JudgeSame (l : List Ins) (s : Stt) (ps : List Pik) (hl : l.length ≤ 1048576) (hf : s.fit) (hp_ : ps.length ≤ 1048576) : Sat Tryz.prog 62 [.sl l.length l.length (rows l), .agg s.cells, .sl ps.length ps.length (rows ps)] [] (.bool (judgeSame l s ps)) [] := by
 have hX := trivial
 refine sat_mk [.tmp 6] 0 31 Tryz.call62 Tryz.func62 Tryz.ntmps62 rfl rfl rfl rfl rfl ?_
 refine zI [0, 1, 2] ?_
 refine zS [0, 2, 4] ?_
 intro ρ hL
 refine zA ?_
 intro K hK
 refine zF (sat_spec_StateOk s hf) ?_
 refine zL [0, 2, 4, 12] ?_
 clear hL
 intro ρ hL
 refine grp_orN (tc := 12) (tv := 15) (td := 16) (v := ?v1) 3 rfl [0, 2, 4] hL.2.2.2 rfl (fun hb K1 hK1 => ?run) (fun hb => ?skip) (fun ρ hP hM => ?_)
 case skip => exact skA (want := false) (b := _) (by rw [hb]; rfl) hL.2.2.2 rfl
 case run =>
  simp only [List.take_succ_cons, List.take_zero]
  rw [hb] at hL
  try simp only [go_sem, simprocAttr, hL, hX]
  repeat' refine And.intro (by first | rfl | omega | (simp; done)) ?_
  refine hK1 _ ?_ ?_ ?_ <;> simp only [go_sem, simprocAttr, hL, hX] <;> exact rfl
 simp only [List.drop_succ_cons, List.drop_zero]
 try simp only [go_sem, simprocAttr, hL, hX] at hM
 replace hL := And.intro hP hM
 clear hP hM
 try simp only [go_sem, simprocAttr, hL, hX]
 repeat' refine And.intro (by first | rfl | omega | (simp; done)) ?_
 refine zE [0, 2, 4, 16] ?_
 clear hK K hL
 refine zC ?_ ?_
 · intro c1
   refine zS [6] ?_
   refine zR ?_
   try simp only [go_sem, simprocAttr]
   all_goals (rw [same_no (judged_no c1)])
 · intro c1
   intro ρ hL
   refine awl_skip ?_
   revert ρ hL
   refine zSF [0, 4, 7, 8] (sat_spec_CoreRun l s ps hl hf hp_) ?_
   intro ρ hL
   refine zAD [0, 1, 0, 0, 0, 28, 63, 127] ?_
   intro K hK
   refine zFD [0, 1, 0, 0, 0, 28, 63, 127] (sat_spec_Run l s (corRun l s ps).2 hl hf (Nat.le_trans runC_len (by decide))) ?_
   refine zFD [0, 1, 0, 0, 0, 28, 63, 127] (sat_spec_Alike (corRun l s ps).1.s (run l s (corRun l s ps).2) (runC_fit hf).1 (run_fit hf)) ?_
   refine zE [6] ?_
   clear hK K hL
   refine zR ?_
   try simp only [go_sem, simprocAttr]
   all_goals (rw [same_go (judged_go c1)])
theorem sat_impl_JudgeSame (l : List Ins) (s : Stt) (ps : List Pik) (hl : l.length ≤ 1048576) (hf : s.fit) (hp_ : ps.length ≤ 1048576) : Sat Tryz.prog 49 [.sl l.length l.length (rows l), .agg s.cells, .sl ps.length ps.length (rows ps)] [] (.bool (judgeSame l s ps)) [] := by
 have hX := trivial
 refine sat_mk [.tmp 6] 0 28 Tryz.call49 Tryz.func49 Tryz.ntmps49 rfl rfl rfl rfl rfl ?_
 refine zI [0, 1, 2] ?_
 refine zS [0, 2, 4] ?_
 refine zSF [0, 2, 4, 7, 8] (sat_impl_CoreRun l s ps hl hf hp_) ?_
 intro ρ hL
 refine awl_seq ?_
 have j1 := hL
 refine awl_regDJ mixed _ rfl (fun H0 σ G => (σ 6 = .bool (judgeSame l s ps))) (fun K hK => ?inner1) (fun ρ G hJ => ?after1)
 case inner1 =>
  try simp only [go_sem, simprocAttr, hL, hX, judgeSame]
  repeat' refine And.intro (by first | omega | (exact ⟨[0, 0, 3, 7, 15, 31, 15, 15, 15, 463, 1023, 2047, 4095], by kernel_rfl⟩) | kernel_rfl) ?_
  refine dS_call_ro rfl (sat_impl_judged s ps hf) ?ha ?hv ?hh ?_
  case ha => simp only [go_sem, simprocAttr, hL, hX, judgeSame]; first | done | rfl
  case hv => first | rfl | (simp only [go_sem]; done)
  case hh => first | rfl | (simp only [go_sem]; done)
  try simp only [go_sem, simprocAttr, hL, hX, judgeSame]
  repeat' refine And.intro (by first | omega | (exact ⟨[0, 0, 3, 7, 15, 31, 15, 15, 15, 463, 1023, 2047, 4095], by kernel_rfl⟩) | kernel_rfl) ?_
  refine awpDS_split (b := ?b1) 19 (by simp only [go_sem, simprocAttr, hL, hX, judgeSame]; exact rfl) (fun hb1 => ?_) (fun hb1 => ?_)
  ·
   replace hX := And.intro hb1 hX
   try simp only [go_sem, simprocAttr, hL, hX, judgeSame]
   repeat' refine And.intro (by first | omega | (exact ⟨[0, 0, 3, 7, 15, 31, 15, 15, 15, 463, 1023, 2047, 4095], by kernel_rfl⟩) | kernel_rfl) ?_
   refine dS_call_ro rfl (sat_impl_Run l s (corRun l s ps).2 hl hf (Nat.le_trans runC_len (by decide))) ?ha ?hv ?hh ?_
   case ha => simp only [go_sem, simprocAttr, hL, hX, judgeSame]; first | done | rfl
   case hv => first | rfl | (simp only [go_sem]; done)
   case hh => first | rfl | (simp only [go_sem]; done)
   try simp only [go_sem, simprocAttr, hL, hX, judgeSame]
   repeat' refine And.intro (by first | omega | (exact ⟨[0, 0, 3, 7, 15, 31, 15, 15, 15, 463, 1023, 2047, 4095], by kernel_rfl⟩) | kernel_rfl) ?_
   refine dS_call_ro rfl (sat_impl_Alike (corRun l s ps).1.s (run l s (corRun l s ps).2) (runC_fit hf).1) ?ha ?hv ?hh ?_
   case ha => simp only [go_sem, simprocAttr, hL, hX, judgeSame]; first | done | rfl
   case hv => first | rfl | (simp only [go_sem]; done)
   case hh => first | rfl | (simp only [go_sem]; done)
   try simp only [go_sem, simprocAttr, hL, hX, judgeSame]
   repeat' refine And.intro (by first | omega | (exact ⟨[0, 0, 3, 7, 15, 31, 15, 15, 15, 463, 1023, 2047, 4095], by kernel_rfl⟩) | kernel_rfl) ?_
   exact hK _ _ (by simp only [go_sem, simprocAttr, hL, hX, judgeSame, j1]; first | done | rfl)
  ·
   replace hX := And.intro hb1 hX
   try simp only [go_sem, simprocAttr, hL, hX, judgeSame]
   repeat' refine And.intro (by first | omega | (exact ⟨[0, 0, 3, 7, 15, 31, 15, 15, 15, 463, 1023, 2047, 4095], by kernel_rfl⟩) | kernel_rfl) ?_
   exact hK _ _ (by simp only [go_sem, simprocAttr, hL, hX, judgeSame, j1]; first | done | rfl)
 case after1 =>
  clear hL
  have hL := hJ
  clear hJ
  revert ρ hL
  refine zR ?_
  try simp only [go_sem, simprocAttr]
  all_goals (rfl)
end Go.Proofs.YtdifphcihhbjlaaGreat.AM
