/- The texts of traps. What is guessed. Words, and what is learnt. What the laws compare by. What the laws make, compare and count of rows and states. Rows copied. States copied. Cores copied. New guesses. Entries copied by the laws. No conditions but those each theorem bears. -/
import Derived.Test.YtgpjgljgplngpaaDoorFa
import Derived.Test.YtgpjgljgplngpaaDoorM4
import Derived.Test.YtgpjgljgplngpaaDoorM3
import Derived.Test.YtgpjgljgplngpaaDoorM5
set_option linter.unusedSimpArgs false
set_option linter.unusedVariables false
namespace Go.Proofs.YtgpjgljgplngpaaDoor.AM
open Go
set_option maxHeartbeats 8000000
set_option maxRecDepth 100000

theorem sat_spec_l1In (a : Int) (b : Int) (c : Int)  : Sat Tryd.prog 43 [.int .i64 a, .int .i64 b, .int .i64 c] [] (.bool (inR a b c)) [] := by
 have hX := trivial
 refine sat_mk [.tmp 6] 0 15 Tryd.call43 Tryd.func43 Tryd.ntmps43 rfl rfl rfl rfl rfl ?_
 refine zI [0, 1, 2] ?_
 refine zS [0, 1, 2] ?_
 intro ρ hL
 refine zA ?_
 intro K hK
 refine zL [0, 2, 10] ?_
 clear hL
 intro ρ hL
 refine grp_andN (tc := 10) (tv := 13) (td := 14) (v := ?v1) 3 rfl [] hL.2.2 rfl (fun hb K1 hK1 => ?run) (fun hb => ?skip) (fun ρ hP hM => ?_)
 case skip => exact skA (want := true) (b := _) (by rw [hb]; rfl) hL.2.2 rfl
 case run =>
  simp only [List.take_succ_cons, List.take_zero]
  rw [hb] at hL
  try simp only [go_sem, simprocAttr, hL, hX]
  repeat' refine And.intro (by first | rfl | omega | (simp; done)) ?_
  refine hK1 _ ?_ ?_ ?_ <;> simp only [go_sem, simprocAttr, hL, hX] <;> exact rfl
 simp only [List.drop_succ_cons, List.drop_zero]
 clear hM hL
 have hL := hP
 clear hP
 try simp only [go_sem, simprocAttr, hL, hX]
 repeat' refine And.intro (by first | rfl | omega | (simp; done)) ?_
 refine zE [6] ?_
 clear hK K hL
 refine zR ?_
 try simp only [go_sem, simprocAttr]
 all_goals (simp [inR])
theorem sat_impl_in (a : Int) (b : Int) (c : Int)  : Sat Tryd.prog 38 [.int .i64 a, .int .i64 b, .int .i64 c] [] (.bool (inR a b c)) [] := by
 have hX := trivial
 refine sat_mk [.tmp 6] 0 15 Tryd.call38 Tryd.func38 Tryd.ntmps38 rfl rfl rfl rfl rfl ?_
 refine zI [0, 1, 2] ?_
 refine zS [0, 1, 2] ?_
 intro ρ hL
 refine zA ?_
 intro K hK
 refine zL [0, 2, 10] ?_
 clear hL
 intro ρ hL
 refine grp_andN (tc := 10) (tv := 13) (td := 14) (v := ?v1) 3 rfl [] hL.2.2 rfl (fun hb K1 hK1 => ?run) (fun hb => ?skip) (fun ρ hP hM => ?_)
 case skip => exact skA (want := true) (b := _) (by rw [hb]; rfl) hL.2.2 rfl
 case run =>
  simp only [List.take_succ_cons, List.take_zero]
  rw [hb] at hL
  try simp only [go_sem, simprocAttr, hL, hX]
  repeat' refine And.intro (by first | rfl | omega | (simp; done)) ?_
  refine hK1 _ ?_ ?_ ?_ <;> simp only [go_sem, simprocAttr, hL, hX] <;> exact rfl
 simp only [List.drop_succ_cons, List.drop_zero]
 clear hM hL
 have hL := hP
 clear hP
 try simp only [go_sem, simprocAttr, hL, hX]
 repeat' refine And.intro (by first | rfl | omega | (simp; done)) ?_
 refine zE [6] ?_
 clear hK K hL
 refine zR ?_
 try simp only [go_sem, simprocAttr]
 all_goals (simp [inR])
theorem sat_spec_TrapText (a : Int)  : Sat Tryd.prog 24 [.int .i64 a] [] (.str (trapText a)) [] := by
 have hX := trivial
 refine sat_mk [.tmp 2] 0 10 Tryd.call24 Tryd.func24 Tryd.ntmps24 rfl rfl rfl rfl rfl ?_
 refine zI [0] ?_
 refine zS [0] ?_
 refine zSF [0, 5] (sat_spec_l1In _ _ _) ?_
 refine zC ?_ ?_
 · intro c1
   refine zS [2] ?_
   refine zR ?_
   try simp only [go_sem, simprocAttr]
   all_goals (simp [trapText, c1])
 · intro c1
   intro ρ hL
   refine awl_skip ?_
   have ha : 0 ≤ a ∧ a < 6 := by simp [inR] at c1; omega
   repeat refine awl_seq ?_
   refine awl_regS _ rfl fun K hK => ?_
   try simp only [go_sem, simprocAttr, hL, hX, ha, trap_row ha]
   repeat' refine And.intro (by first | rfl | omega | (simp; done)) ?_
   refine hK _ _ (.mk (awl_live' [2] fun ρ hM => ?_))
   try simp only [go_sem, simprocAttr, hL, hX, ha, trap_row ha] at hM
   clear hK K hL
   revert ρ hM
   refine zR ?_
   try simp only [go_sem, simprocAttr]
   all_goals (simp [trapText, c1])
theorem sat_impl_TrapText (a : Int)  : Sat Tryd.prog 23 [.int .i64 a] [] (.str (trapText a)) [] := by
 have hX := trivial
 refine sat_mk [.tmp 2] 0 10 Tryd.call23 Tryd.func23 Tryd.ntmps23 rfl rfl rfl rfl rfl ?_
 refine zI [0] ?_
 refine zS [0] ?_
 refine zSF [0, 5] (sat_impl_in _ _ _) ?_
 refine zC ?_ ?_
 · intro c1
   refine zS [2] ?_
   refine zR ?_
   try simp only [go_sem, simprocAttr]
   all_goals (simp [trapText, c1])
 · intro c1
   intro ρ hL
   refine awl_skip ?_
   have ha : 0 ≤ a ∧ a < 6 := by simp [inR] at c1; omega
   repeat refine awl_seq ?_
   refine awl_regS _ rfl fun K hK => ?_
   try simp only [go_sem, simprocAttr, hL, hX, ha, trap_row ha]
   repeat' refine And.intro (by first | rfl | omega | (simp; done)) ?_
   refine hK _ _ (.mk (awl_live' [2] fun ρ hM => ?_))
   try simp only [go_sem, simprocAttr, hL, hX, ha, trap_row ha] at hM
   clear hK K hL
   revert ρ hM
   refine zR ?_
   try simp only [go_sem, simprocAttr]
   all_goals (simp [trapText, c1])
theorem sat_laws_toKey (k : Key)  : Sat Tryd.prog 8 [.agg k.cells] [] (.agg k.cells) [] := by
 have hX := trivial
 refine sat_mk [.cell 2 25] 0 17 Tryd.call8 Tryd.func8 Tryd.ntmps8 rfl rfl rfl rfl rfl ?_
 refine zI [0] ?_
 refine zS [1, 2] ?_
 refine zS [1, 2, 3] ?_
 refine zS [1, 2, 3] ?_
 refine zS [1, 2, 3] ?_
 refine zS [1, 2, 3] ?_
 refine zS [2, 3] ?_
 refine zS [2] ?_
 refine zR ?_
 try simp only [go_sem, simprocAttr]
 all_goals (first | done | rfl | (simp; done) | (simp [inR]; done) | (simp_all [inR]; done) | (simp [inR]; grind))
theorem sat_laws_toWord (w : Word)  : Sat Tryd.prog 11 [.agg w.cells] [] (.agg w.cells) [] := by
 have hX := trivial
 refine sat_mk [.cell 2 32] 0 15 Tryd.call11 Tryd.func11 Tryd.ntmps11 rfl rfl rfl rfl rfl ?_
 refine zI [0] ?_
 refine zS [1, 2] ?_
 refine zS [1, 2, 3] ?_
 refine zS [1, 2, 3] ?_
 refine zS [1, 2, 3] ?_
 refine zSF [2, 3] (sat_laws_toKey _) ?_
 refine zS [2] ?_
 refine zR ?_
 try simp only [go_sem, simprocAttr]
 all_goals (first | done | rfl | (simp; done) | (simp [inR]; done) | (simp_all [inR]; done) | (simp [inR]; grind))
theorem sat_spec_Plain (n : Int)  : Sat Tryd.prog 70 [.int .i64 n] [] (.agg (plain n).cells) [] := by
 have hX := trivial
 refine sat_mk [.cell 2 32] 0 6 Tryd.call70 Tryd.func70 Tryd.ntmps70 rfl rfl rfl rfl rfl ?_
 refine zI [0] ?_
 refine zS [0, 2] ?_
 refine zS [2] ?_
 refine zR ?_
 try simp only [go_sem, simprocAttr]
 all_goals (first | done | rfl | (simp; done) | (simp [inR]; done) | (simp_all [inR]; done) | (simp [inR]; grind))
theorem sat_laws_eqKey (a : Key) (b : Key)  : Sat Tryd.prog 15 [.agg a.cells, .agg b.cells] [] (.bool (decide (a = b))) [] := by
 have hX := trivial
 refine sat_mk [.tmp 4] 0 25 Tryd.call15 Tryd.func15 Tryd.ntmps15 rfl rfl rfl rfl rfl ?_
 refine zI [0, 1] ?_
 refine zS [2, 3] ?_
 refine zS [2, 3, 9] ?_
 refine zC ?_ ?_
 · intro c1
   refine zS [4] ?_
   refine zR ?_
   try simp only [go_sem, simprocAttr]
   all_goals (rw [decide_eq_false]; rintro rfl; first | exact c1 rfl | exact c2 rfl | exact c3 rfl | exact c4 rfl | exact c5 rfl | exact c6 rfl | exact c7 rfl | (simp at c1; done) | (simp at c2; done) | (simp at c3; done) | (simp at c4; done)| (simp at c5; done))
 · intro c1
   intro ρ hL
   refine awl_skip ?_
   revert ρ hL
   refine zS [2, 3, 14] ?_
   refine zC ?_ ?_
   · intro c2
     refine zS [4] ?_
     refine zR ?_
     try simp only [go_sem, simprocAttr]
     all_goals (rw [decide_eq_false]; rintro rfl; first | exact c1 rfl | exact c2 rfl | exact c3 rfl | exact c4 rfl | exact c5 rfl | exact c6 rfl | exact c7 rfl | (simp at c1; done) | (simp at c2; done) | (simp at c3; done) | (simp at c4; done)| (simp at c5; done))
   · intro c2
     intro ρ hL
     refine awl_skip ?_
     revert ρ hL
     refine zS [2, 3, 19] ?_
     refine zC ?_ ?_
     · intro c3
       refine zS [4] ?_
       refine zR ?_
       try simp only [go_sem, simprocAttr]
       all_goals (rw [decide_eq_false]; rintro rfl; first | exact c1 rfl | exact c2 rfl | exact c3 rfl | exact c4 rfl | exact c5 rfl | exact c6 rfl | exact c7 rfl | (simp at c1; done) | (simp at c2; done) | (simp at c3; done) | (simp at c4; done)| (simp at c5; done))
     · intro c3
       intro ρ hL
       refine awl_skip ?_
       revert ρ hL
       refine zS [24] ?_
       refine zC ?_ ?_
       · intro c4
         refine zS [4] ?_
         refine zR ?_
         try simp only [go_sem, simprocAttr]
         all_goals (rw [decide_eq_false]; rintro rfl; first | exact c1 rfl | exact c2 rfl | exact c3 rfl | exact c4 rfl | exact c5 rfl | exact c6 rfl | exact c7 rfl | (simp at c1; done) | (simp at c2; done) | (simp at c3; done) | (simp at c4; done)| (simp at c5; done))
       · intro c4
         intro ρ hL
         refine awl_skip ?_
         revert ρ hL
         refine zS [4] ?_
         refine zR ?_
         try simp only [go_sem, simprocAttr]
         all_goals (rw [decide_eq_true]; cases a; cases b; simp_all)
end Go.Proofs.YtgpjgljgplngpaaDoor.AM
