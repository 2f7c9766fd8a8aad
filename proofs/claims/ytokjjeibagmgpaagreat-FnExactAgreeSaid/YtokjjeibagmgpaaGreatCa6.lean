/- What the laws compare by. No conditions but those each theorem bears. -/
import Derived.Test.YtokjjeibagmgpaaGreatFa
import Derived.Test.YtokjjeibagmgpaaGreatM4
import Derived.Test.YtokjjeibagmgpaaGreatCa3
set_option linter.unusedSimpArgs false
set_option linter.unusedVariables false
namespace Go.Proofs.YtokjjeibagmgpaaGreat.AM
open Go
set_option maxHeartbeats 8000000
set_option maxRecDepth 100000

theorem sat_laws_eqKey (a : Key) (b : Key)  : Sat Tryz.prog 128 [.agg a.cells, .agg b.cells] [] (.bool (decide (a = b))) [] := by
 have hX := trivial
 refine sat_mk [.tmp 4] 0 25 Tryz.call128 Tryz.func128 Tryz.ntmps128 rfl rfl rfl rfl rfl ?_
 refine zI [0, 1] ?_
 refine zS [2, 3] ?_
 refine zS [2, 3, 9] ?_
 refine zC ?_ ?_
 · intro c1
   refine zS [4] ?_
   refine zR ?_
   try simp only [go_sem, simprocAttr]
   all_goals (rw [decide_eq_false]; rintro rfl; first | exact c1 rfl | exact c2 rfl | exact c3 rfl | exact c4 rfl | exact c5 rfl | exact c6 rfl | exact c7 rfl | (simp at c1; done) | (simp at c2; done) | (simp at c3; done) | (simp at c4; done)| (simp at c5; done))
 · intro c1
   intro ρ hL
   refine awl_skip ?_
   revert ρ hL
   refine zS [2, 3, 14] ?_
   refine zC ?_ ?_
   · intro c2
     refine zS [4] ?_
     refine zR ?_
     try simp only [go_sem, simprocAttr]
     all_goals (rw [decide_eq_false]; rintro rfl; first | exact c1 rfl | exact c2 rfl | exact c3 rfl | exact c4 rfl | exact c5 rfl | exact c6 rfl | exact c7 rfl | (simp at c1; done) | (simp at c2; done) | (simp at c3; done) | (simp at c4; done)| (simp at c5; done))
   · intro c2
     intro ρ hL
     refine awl_skip ?_
     revert ρ hL
     refine zS [2, 3, 19] ?_
     refine zC ?_ ?_
     · intro c3
       refine zS [4] ?_
       refine zR ?_
       try simp only [go_sem, simprocAttr]
       all_goals (rw [decide_eq_false]; rintro rfl; first | exact c1 rfl | exact c2 rfl | exact c3 rfl | exact c4 rfl | exact c5 rfl | exact c6 rfl | exact c7 rfl | (simp at c1; done) | (simp at c2; done) | (simp at c3; done) | (simp at c4; done)| (simp at c5; done))
     · intro c3
       intro ρ hL
       refine awl_skip ?_
       revert ρ hL
       refine zS [24] ?_
       refine zC ?_ ?_
       · intro c4
         refine zS [4] ?_
         refine zR ?_
         try simp only [go_sem, simprocAttr]
         all_goals (rw [decide_eq_false]; rintro rfl; first | exact c1 rfl | exact c2 rfl | exact c3 rfl | exact c4 rfl | exact c5 rfl | exact c6 rfl | exact c7 rfl | (simp at c1; done) | (simp at c2; done) | (simp at c3; done) | (simp at c4; done)| (simp at c5; done))
       · intro c4
         intro ρ hL
         refine awl_skip ?_
         revert ρ hL
         refine zS [4] ?_
         refine zR ?_
         try simp only [go_sem, simprocAttr]
         all_goals (rw [decide_eq_true]; cases a; cases b; simp_all)
theorem sat_laws_eqWord (a : Word) (b : Word)  : Sat Tryz.prog 68 [.agg a.cells, .agg b.cells] [] (.bool (decide (a = b))) [] := by
 have hX := trivial
 refine sat_mk [.tmp 4] 0 21 Tryz.call68 Tryz.func68 Tryz.ntmps68 rfl rfl rfl rfl rfl ?_
 refine zI [0, 1] ?_
 refine zS [2, 3] ?_
 refine zS [2, 3, 9] ?_
 refine zC ?_ ?_
 · intro c1
   refine zS [4] ?_
   refine zR ?_
   try simp only [go_sem, simprocAttr]
   all_goals (rw [decide_eq_false]; rintro rfl; first | exact c1 rfl | exact c2 rfl | exact c3 rfl | exact c4 rfl | exact c5 rfl | exact c6 rfl | exact c7 rfl | (simp at c1; done) | (simp at c2; done) | (simp at c3; done) | (simp at c4; done)| (simp at c5; done))
 · intro c1
   intro ρ hL
   refine awl_skip ?_
   revert ρ hL
   refine zS [2, 3, 14] ?_
   refine zC ?_ ?_
   · intro c2
     refine zS [4] ?_
     refine zR ?_
     try simp only [go_sem, simprocAttr]
     all_goals (rw [decide_eq_false]; rintro rfl; first | exact c1 rfl | exact c2 rfl | exact c3 rfl | exact c4 rfl | exact c5 rfl | exact c6 rfl | exact c7 rfl | (simp at c1; done) | (simp at c2; done) | (simp at c3; done) | (simp at c4; done)| (simp at c5; done))
   · intro c2
     intro ρ hL
     refine awl_skip ?_
     revert ρ hL
     refine zSF [20] (sat_laws_eqKey _ _) ?_
     refine zC ?_ ?_
     · intro c3
       refine zS [4] ?_
       refine zR ?_
       try simp only [go_sem, simprocAttr]
       all_goals (rw [decide_eq_false]; rintro rfl; first | exact c1 rfl | exact c2 rfl | exact c3 rfl | exact c4 rfl | exact c5 rfl | exact c6 rfl | exact c7 rfl | (simp at c1; done) | (simp at c2; done) | (simp at c3; done) | (simp at c4; done)| (simp at c5; done))
     · intro c3
       intro ρ hL
       refine awl_skip ?_
       revert ρ hL
       refine zS [4] ?_
       refine zR ?_
       try simp only [go_sem, simprocAttr]
       all_goals (rw [decide_eq_true]; cases a; cases b; simp_all)
end Go.Proofs.YtokjjeibagmgpaaGreat.AM
