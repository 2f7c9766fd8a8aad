/- The texts of traps. No conditions but those each theorem bears. -/
import Derived.Test.YteojcehneipgdaaGreatFa
import Derived.Test.YteojcehneipgdaaGreatM4
set_option linter.unusedSimpArgs false
set_option linter.unusedVariables false
namespace Go.Proofs.YteojcehneipgdaaGreat.AM
open Go
set_option maxHeartbeats 8000000
set_option maxRecDepth 100000

theorem sat_spec_l1In (a : Int) (b : Int) (c : Int)  : Sat Tryz.prog 79 [.int .i64 a, .int .i64 b, .int .i64 c] [] (.bool (inR a b c)) [] := by
 have hX := trivial
 refine sat_mk [.tmp 6] 0 15 Tryz.call79 Tryz.func79 Tryz.ntmps79 rfl rfl rfl rfl rfl ?_
 refine zI [0, 1, 2] ?_
 refine zS [0, 1, 2] ?_
 intro ρ hL
 refine zA ?_
 intro K hK
 refine zL [0, 2, 10] ?_
 clear hL
 intro ρ hL
 refine grp_andN (tc := 10) (tv := 13) (td := 14) (v := ?v1) 3 rfl [] hL.2.2 rfl (fun hb K1 hK1 => ?run) (fun hb => ?skip) (fun ρ hP hM => ?_)
 case skip => exact skA (want := true) (b := _) (by rw [hb]; rfl) hL.2.2 rfl
 case run =>
  simp only [List.take_succ_cons, List.take_zero]
  rw [hb] at hL
  try simp only [go_sem, simprocAttr, hL, hX]
  repeat' refine And.intro (by first | rfl | omega | (simp; done)) ?_
  refine hK1 _ ?_ ?_ ?_ <;> simp only [go_sem, simprocAttr, hL, hX] <;> exact rfl
 simp only [List.drop_succ_cons, List.drop_zero]
 clear hM hL
 have hL := hP
 clear hP
 try simp only [go_sem, simprocAttr, hL, hX]
 repeat' refine And.intro (by first | rfl | omega | (simp; done)) ?_
 refine zE [6] ?_
 clear hK K hL
 refine zR ?_
 try simp only [go_sem, simprocAttr]
 all_goals (simp [inR])
theorem sat_impl_in (a : Int) (b : Int) (c : Int)  : Sat Tryz.prog 83 [.int .i64 a, .int .i64 b, .int .i64 c] [] (.bool (inR a b c)) [] := by
 have hX := trivial
 refine sat_mk [.tmp 6] 0 15 Tryz.call83 Tryz.func83 Tryz.ntmps83 rfl rfl rfl rfl rfl ?_
 refine zI [0, 1, 2] ?_
 refine zS [0, 1, 2] ?_
 intro ρ hL
 refine zA ?_
 intro K hK
 refine zL [0, 2, 10] ?_
 clear hL
 intro ρ hL
 refine grp_andN (tc := 10) (tv := 13) (td := 14) (v := ?v1) 3 rfl [] hL.2.2 rfl (fun hb K1 hK1 => ?run) (fun hb => ?skip) (fun ρ hP hM => ?_)
 case skip => exact skA (want := true) (b := _) (by rw [hb]; rfl) hL.2.2 rfl
 case run =>
  simp only [List.take_succ_cons, List.take_zero]
  rw [hb] at hL
  try simp only [go_sem, simprocAttr, hL, hX]
  repeat' refine And.intro (by first | rfl | omega | (simp; done)) ?_
  refine hK1 _ ?_ ?_ ?_ <;> simp only [go_sem, simprocAttr, hL, hX] <;> exact rfl
 simp only [List.drop_succ_cons, List.drop_zero]
 clear hM hL
 have hL := hP
 clear hP
 try simp only [go_sem, simprocAttr, hL, hX]
 repeat' refine And.intro (by first | rfl | omega | (simp; done)) ?_
 refine zE [6] ?_
 clear hK K hL
 refine zR ?_
 try simp only [go_sem, simprocAttr]
 all_goals (simp [inR])
end Go.Proofs.YteojcehneipgdaaGreat.AM
