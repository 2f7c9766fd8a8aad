/- Is all judged to be so. No conditions but those each theorem bears. -/
import Derived.Test.YtdifphcihhbjlaaGreatFa
import Derived.Test.YtdifphcihhbjlaaGreatM5
import Derived.Test.YtdifphcihhbjlaaGreatCa45
set_option linter.unusedSimpArgs false
set_option linter.unusedVariables false
namespace Go.Proofs.YtdifphcihhbjlaaGreat.AM
open Go
set_option maxHeartbeats 8000000
set_option maxRecDepth 100000

theorem sat_impl_JudgeAll (l : List Ins) (s : Stt) (ps : List Pik) (hl : l.length ≤ 1048576) (hf : s.fit) (hp_ : ps.length ≤ 1048576) : Sat Tryz.prog 69 [.sl l.length l.length (rows l), .agg s.cells, .sl ps.length ps.length (rows ps)] [] (.bool (judgeAll l s ps)) [] := by
 have hX := trivial
 refine sat_mk [.tmp 6] 0 17 Tryz.call69 Tryz.func69 Tryz.ntmps69 rfl rfl rfl rfl rfl ?_
 refine zI [0, 1, 2] ?_
 refine zS [0, 2, 4] ?_
 intro ρ hL
 refine zA ?_
 intro K hK
 refine zF (sat_impl_JudgeSame l s ps hl hf hp_) ?_
 refine zL [0, 2, 4, 11] ?_
 clear hL
 intro ρ hL
 refine grp_andN (tc := 11) (tv := 15) (td := 16) (v := ?v1) 4 rfl [] hL.2.2.2 rfl (fun hb K1 hK1 => ?run) (fun hb => ?skip) (fun ρ hP hM => ?_)
 case skip => exact skA (want := true) (b := _) (by rw [hb]; rfl) hL.2.2.2 rfl
 case run =>
  simp only [List.take_succ_cons, List.take_zero]
  rw [hb] at hL
  try simp only [go_sem, simprocAttr, hL, hX]
  repeat' refine And.intro (by first | rfl | omega | (simp; done)) ?_
  refine zF (sat_impl_JudgeKeys l s ps hl hf hp_) ?_
  refine hK1 _ ?_ ?_ ?_ <;> simp only [go_sem, simprocAttr, hL, hX] <;> exact rfl
 simp only [List.drop_succ_cons, List.drop_zero]
 clear hM hL
 have hL := hP
 clear hP
 try simp only [go_sem, simprocAttr, hL, hX]
 repeat' refine And.intro (by first | rfl | omega | (simp; done)) ?_
 refine zE [6] ?_
 clear hK K hL
 refine zR ?_
 try simp only [go_sem, simprocAttr]
 all_goals (rfl)
end Go.Proofs.YtdifphcihhbjlaaGreat.AM
