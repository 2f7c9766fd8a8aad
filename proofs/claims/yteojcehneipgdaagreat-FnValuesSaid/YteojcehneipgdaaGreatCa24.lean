/- What a command comes to. No conditions but those each theorem bears. -/
import Derived.Test.YteojcehneipgdaaGreatFa
import Derived.Test.YteojcehneipgdaaGreatM5
import Derived.Test.YteojcehneipgdaaGreatCa20
import Derived.Test.YteojcehneipgdaaGreatCa20f
set_option linter.unusedSimpArgs false
set_option linter.unusedVariables false
namespace Go.Proofs.YteojcehneipgdaaGreat.AM
open Go
set_option maxHeartbeats 8000000
set_option maxRecDepth 100000

theorem sat_spec_Work (x : Ins) (pc : Word) (a : Word) (b : Word) (g : Word)  : Sat Tryz.prog 75 [.agg x.cells, .agg pc.cells, .agg a.cells, .agg b.cells, .agg g.cells] [] (.agg (Fx.cells (work x pc a b g))) [] := by
 have hX := trivial
 refine sat_mk [.cell 10 61] 0 90 Tryz.call75 Tryz.func75 Tryz.ntmps75 rfl rfl rfl rfl rfl ?_
 refine zI [0, 1, 2, 3, 4] ?_
 refine zS [5, 6, 7, 8, 9, 10] ?_
 refine zSF [5, 6, 7, 8, 9, 10, 11] (sat_spec_Point _ _) ?_
 refine zS [5, 6, 7, 8, 9, 10, 11, 12] ?_
 refine zS [5, 6, 7, 8, 9, 10, 11, 12, 20] ?_
 intro ρ hL
 refine awl_block fun R1 hw1 hR1 => ?_
 revert ρ hL
 refine zS [5, 6, 7, 8, 9, 10, 11, 12, 20, 33] ?_
 refine zC ?_ ?_
 · intro c1
   refine zS [8, 10, 11] ?_
   refine zS [10, 11] ?_
   refine zS [10] ?_
   refine zR ?_
   try simp only [go_sem, simprocAttr]
   all_goals try clear hR1
   all_goals (rw [work, if_pos c1] <;> rfl)
 · intro c1
   refine zS [5, 6, 7, 8, 9, 10, 11, 12, 20, 44] ?_
   refine zC ?_ ?_
   · intro c2
     refine zSF [5, 6, 7, 10, 11, 12] (sat_spec_Try _ _ _) ?_
     refine zS [6, 7, 10, 11, 12] ?_
     refine zS [6, 7, 10, 11, 12] ?_
     refine zS [6, 10, 11, 12] ?_
     intro ρ hL
     refine awl_nil ?_
     refine blk_normal (hR1 _ _ (.mk ?_))
     revert ρ hL
     refine zS [6, 10, 11, 12, 85] ?_
     refine zC ?_ ?_
     · intro c3
       refine zSF [10] (sat_spec_l9Trap _ _) ?_
       refine zR ?_
       try simp only [go_sem, simprocAttr]
       all_goals try clear hR1
       all_goals (rw [work, if_neg c1, if_pos c2, if_pos c3] <;> rfl)
     · intro c3
       intro ρ hL
       refine awl_skip ?_
       revert ρ hL
       refine zS [10] ?_
       refine zR ?_
       try simp only [go_sem, simprocAttr]
       all_goals try clear hR1
       all_goals (rw [work, if_neg c1, if_pos c2, if_neg (fun h => h c3)] <;> rfl)
   · intro c2
     refine zS [5, 6, 7, 8, 9, 10, 11, 12, 20, 58] ?_
     refine zC ?_ ?_
     · intro c4
       refine zS [5, 6, 10, 11, 62] ?_
       refine zC ?_ ?_
       · intro c5
         refine zSF [10, 11] (sat_spec_Point _ _) ?_
         refine zS [10] ?_
         refine zR ?_
         try simp only [go_sem, simprocAttr]
         all_goals try clear hR1
         all_goals (rw [work, if_neg c1, if_neg c2, if_pos c4, if_pos c5] <;> rfl)
       · intro c5
         intro ρ hL
         refine awl_skip ?_
         revert ρ hL
         refine zS [10] ?_
         refine zR ?_
         try simp only [go_sem, simprocAttr]
         all_goals try clear hR1
         all_goals (rw [work, if_neg c1, if_neg c2, if_pos c4, if_neg c5] <;> rfl)
     · intro c4
       refine zS [5, 6, 7, 8, 9, 10, 11, 12, 20, 72] ?_
       refine zC ?_ ?_
       · intro c6
         refine zSF [6, 7, 10, 11, 12] (sat_spec_Try _ _ _) ?_
         refine zS [6, 10, 11, 12] ?_
         intro ρ hL
         refine awl_nil ?_
         refine blk_normal (hR1 _ _ (.mk ?_))
         revert ρ hL
         refine zS [6, 10, 11, 12, 85] ?_
         refine zC ?_ ?_
         · intro c7
           refine zSF [10] (sat_spec_l9Trap _ _) ?_
           refine zR ?_
           try simp only [go_sem, simprocAttr]
           all_goals try clear hR1
           all_goals (rw [work, if_neg c1, if_neg c2, if_neg c4, if_pos c6, if_pos c7] <;> rfl)
         · intro c7
           intro ρ hL
           refine awl_skip ?_
           revert ρ hL
           refine zS [10] ?_
           refine zR ?_
           try simp only [go_sem, simprocAttr]
           all_goals try clear hR1
           all_goals (rw [work, if_neg c1, if_neg c2, if_neg c4, if_pos c6, if_neg (fun h => h c7)] <;> rfl)
       · intro c6
         refine zS [5, 6, 7, 8, 9, 10, 11, 12, 82] ?_
         refine zC ?_ ?_
         · intro c8
           refine zS [6, 10, 11, 12] ?_
           intro ρ hL
           refine awl_nil ?_
           refine blk_normal (hR1 _ _ (.mk ?_))
           revert ρ hL
           refine zS [6, 10, 11, 12, 85] ?_
           refine zQ ?_ ?_
           · intro c9
             try simp only [cnd] at c9
             refine zSF [10] (sat_spec_l9Trap _ _) ?_
             refine zR ?_
             try simp only [go_sem, simprocAttr]
             all_goals try clear hR1
             all_goals (rw [work, if_neg c1, if_neg c2, if_neg c4, if_neg c6, if_pos c8] <;> rfl)
           · intro c9
             try simp only [cnd] at c9
             first | done | simp at c9
         · intro c8
           refine zSF [5, 6, 7, 8, 9, 10, 11, 12] (sat_spec_Sets _) ?_
           refine zS [5, 6, 7, 8, 9, 10, 11, 12, 26] ?_
           refine zC ?_ ?_
           · intro c10
             refine zSF [6, 10, 11, 12] (sat_spec_l9Value _ _ _ _) ?_
             intro ρ hL
             refine awl_nil ?_
             refine blk_normal (hR1 _ _ (.mk ?_))
             revert ρ hL
             refine zS [6, 10, 11, 12, 85] ?_
             refine zQ ?_ ?_
             · intro c11
               try simp only [cnd] at c11
               first | done | simp at c11
             · intro c11
               try simp only [cnd] at c11
               intro ρ hL
               refine awl_skip ?_
               revert ρ hL
               refine zS [10] ?_
               refine zR ?_
               try simp only [go_sem, simprocAttr]
               all_goals try clear hR1
               all_goals (rw [work, if_neg c1, if_neg c2, if_neg c4, if_neg c6, if_neg c8, if_pos c10] <;> rfl)
           · intro c10
             intro ρ hL
             refine awl_skip ?_
             refine awl_nil ?_
             refine blk_normal (hR1 _ _ (.mk ?_))
             revert ρ hL
             refine zS [6, 10, 11, 12, 85] ?_
             refine zQ ?_ ?_
             · intro c12
               try simp only [cnd] at c12
               first | done | simp at c12
             · intro c12
               try simp only [cnd] at c12
               intro ρ hL
               refine awl_skip ?_
               revert ρ hL
               refine zS [10] ?_
               refine zR ?_
               try simp only [go_sem, simprocAttr]
               all_goals try clear hR1
               all_goals (rw [work, if_neg c1, if_neg c2, if_neg c4, if_neg c6, if_neg c8, if_neg c10] <;> rfl)
theorem sat_impl_Work (x : Ins) (pc : Word) (a : Word) (b : Word) (g : Word)  : Sat Tryz.prog 143 [.agg x.cells, .agg pc.cells, .agg a.cells, .agg b.cells, .agg g.cells] [] (.agg (Fx.cells (work x pc a b g))) [] := by
 have hX := trivial
 refine sat_mk [.cell 10 61] 0 94 Tryz.call143 Tryz.func143 Tryz.ntmps143 rfl rfl rfl rfl rfl ?_
 refine zI [0, 1, 2, 3, 4] ?_
 refine zS [5, 6, 7, 8, 9, 10] ?_
 refine zSF [5, 6, 7, 8, 9, 10, 11] (sat_impl_Point _ _) ?_
 refine zS [5, 6, 7, 8, 9, 10, 11, 19] ?_
 intro ρ hL
 refine awl_block fun R1 hw1 hR1 => ?_
 revert ρ hL
 refine zS [5, 6, 7, 8, 9, 10, 11, 19, 34] ?_
 refine zC ?_ ?_
 · intro c1
   refine zD [0, 1, 0, 4, 15, 0, 31, 95, 255, 511] [6, 10, 11] ?_
   intro ρ hL
   refine awl_nil ?_
   refine blk_normal (hR1 _ _ (.mk ?_))
   revert ρ hL
   refine zS [6, 10, 11, 88] ?_
   refine zQ ?_ ?_
   · intro c2
     try simp only [cnd] at c2
     first | done | simp at c2
   · intro c2
     try simp only [cnd] at c2
     intro ρ hL
     refine awl_skip ?_
     revert ρ hL
     refine zS [10] ?_
     refine zR ?_
     try simp only [go_sem, simprocAttr]
     all_goals try clear hR1
     all_goals (rw [work, if_pos c1] <;> rfl)
 · intro c1
   refine zS [5, 6, 7, 8, 9, 10, 11, 19, 44] ?_
   refine zC ?_ ?_
   · intro c3
     refine zSF [5, 6, 7, 10, 11] (sat_impl_Try _ _ _ ?hp0) ?_
     case hp0 => first | assumption | omega | (simp; done)
     refine zD [0, 1, 0, 4, 0, 15, 47, 111, 239, 511, 1023] [6, 10, 11] ?_
     intro ρ hL
     refine awl_nil ?_
     refine blk_normal (hR1 _ _ (.mk ?_))
     revert ρ hL
     refine zS [6, 10, 11, 88] ?_
     refine zC ?_ ?_
     · intro c4
       refine zSF [10] (sat_impl_trapped _ _) ?_
       refine zR ?_
       try simp only [go_sem, simprocAttr]
       all_goals try clear hR1
       all_goals (rw [work, if_neg c1, if_pos c3, if_pos c4] <;> rfl)
     · intro c4
       intro ρ hL
       refine awl_skip ?_
       revert ρ hL
       refine zS [10] ?_
       refine zR ?_
       try simp only [go_sem, simprocAttr]
       all_goals try clear hR1
       all_goals (rw [work, if_neg c1, if_pos c3, if_neg (fun h => h c4), c4] <;> rfl)
   · intro c3
     refine zS [5, 6, 7, 8, 9, 10, 11, 19, 59] ?_
     refine zC ?_ ?_
     · intro c5
       refine zS [5, 6, 10, 11, 63] ?_
       refine zC ?_ ?_
       · intro c6
         refine zSF [6, 10, 11] (sat_impl_Point _ _) ?_
         intro ρ hL
         refine awl_nil ?_
         refine blk_normal (hR1 _ _ (.mk ?_))
         revert ρ hL
         refine zS [6, 10, 11, 88] ?_
         refine zQ ?_ ?_
         · intro c7
           try simp only [cnd] at c7
           first | done | simp at c7
         · intro c7
           try simp only [cnd] at c7
           intro ρ hL
           refine awl_skip ?_
           revert ρ hL
           refine zS [10] ?_
           refine zR ?_
           try simp only [go_sem, simprocAttr]
           all_goals try clear hR1
           all_goals (rw [work, if_neg c1, if_neg c3, if_pos c5, if_pos c6] <;> rfl)
       · intro c6
         intro ρ hL
         refine awl_skip ?_
         refine awl_nil ?_
         refine blk_normal (hR1 _ _ (.mk ?_))
         revert ρ hL
         refine zS [6, 10, 11, 88] ?_
         refine zQ ?_ ?_
         · intro c8
           try simp only [cnd] at c8
           first | done | simp at c8
         · intro c8
           try simp only [cnd] at c8
           intro ρ hL
           refine awl_skip ?_
           revert ρ hL
           refine zS [10] ?_
           refine zR ?_
           try simp only [go_sem, simprocAttr]
           all_goals try clear hR1
           all_goals (rw [work, if_neg c1, if_neg c3, if_pos c5, if_neg c6] <;> rfl)
     · intro c5
       refine zS [5, 6, 7, 8, 9, 10, 11, 19, 72] ?_
       refine zC ?_ ?_
       · intro c9
         refine zSF [6, 7, 10, 11] (sat_impl_Try _ _ _ ?hp0) ?_
         case hp0 => first | assumption | omega | (simp; done)
         refine zS [6, 10, 11] ?_
         intro ρ hL
         refine awl_nil ?_
         refine blk_normal (hR1 _ _ (.mk ?_))
         revert ρ hL
         refine zS [6, 10, 11, 88] ?_
         refine zC ?_ ?_
         · intro c10
           refine zSF [10] (sat_impl_trapped _ _) ?_
           refine zR ?_
           try simp only [go_sem, simprocAttr]
           all_goals try clear hR1
           all_goals (rw [work, if_neg c1, if_neg c3, if_neg c5, if_pos c9, if_pos c10] <;> rfl)
         · intro c10
           intro ρ hL
           refine awl_skip ?_
           revert ρ hL
           refine zS [10] ?_
           refine zR ?_
           try simp only [go_sem, simprocAttr]
           all_goals try clear hR1
           all_goals (rw [work, if_neg c1, if_neg c3, if_neg c5, if_pos c9, if_neg (fun h => h c10), c10] <;> rfl)
       · intro c9
         refine zS [5, 6, 7, 8, 9, 10, 11, 83] ?_
         refine zC ?_ ?_
         · intro c11
           refine zS [6, 10, 11] ?_
           intro ρ hL
           refine awl_nil ?_
           refine blk_normal (hR1 _ _ (.mk ?_))
           revert ρ hL
           refine zS [6, 10, 11, 88] ?_
           refine zQ ?_ ?_
           · intro c12
             try simp only [cnd] at c12
             refine zSF [10] (sat_impl_trapped _ _) ?_
             refine zR ?_
             try simp only [go_sem, simprocAttr]
             all_goals try clear hR1
             all_goals (rw [work, if_neg c1, if_neg c3, if_neg c5, if_neg c9, if_pos c11] <;> rfl)
           · intro c12
             try simp only [cnd] at c12
             first | done | simp at c12
         · intro c11
           refine zSF [5, 6, 7, 8, 9, 10, 11, 21] (sat_impl_hasPart _ _) ?_
           refine zC ?_ ?_
           · intro c13
             refine zS [5, 6, 7, 8, 9, 10, 11] ?_
             refine zS [5, 6, 7, 8, 9, 10, 11, 27] ?_
             refine zC ?_ ?_
             · intro c14
               have ho := made_op c13 c3
               refine zSF [6, 10, 11] (sat_impl_made x a b g ho) ?_
               intro ρ hL
               refine awl_nil ?_
               refine blk_normal (hR1 _ _ (.mk ?_))
               revert ρ hL
               refine zS [6, 10, 11, 88] ?_
               refine zQ ?_ ?_
               · intro c15
                 try simp only [cnd] at c15
                 first | done | simp at c15
               · intro c15
                 try simp only [cnd] at c15
                 intro ρ hL
                 refine awl_skip ?_
                 revert ρ hL
                 refine zS [10] ?_
                 refine zR ?_
                 try simp only [go_sem, simprocAttr]
                 all_goals try clear hR1
                 all_goals (rw [work, if_neg c1, if_neg c3, if_neg c5, if_neg c9, if_neg c11, sets_yes c13, if_pos c14] <;> rfl)
             · intro c14
               intro ρ hL
               refine awl_skip ?_
               refine awl_nil ?_
               refine blk_normal (hR1 _ _ (.mk ?_))
               revert ρ hL
               refine zS [6, 10, 11, 88] ?_
               refine zQ ?_ ?_
               · intro c16
                 try simp only [cnd] at c16
                 first | done | simp at c16
               · intro c16
                 try simp only [cnd] at c16
                 intro ρ hL
                 refine awl_skip ?_
                 revert ρ hL
                 refine zS [10] ?_
                 refine zR ?_
                 try simp only [go_sem, simprocAttr]
                 all_goals try clear hR1
                 all_goals (rw [work, if_neg c1, if_neg c3, if_neg c5, if_neg c9, if_neg c11, sets_yes c13, if_neg c14] <;> rfl)
           · intro c13
             intro ρ hL
             refine awl_skip ?_
             refine awl_nil ?_
             refine blk_normal (hR1 _ _ (.mk ?_))
             revert ρ hL
             refine zS [6, 10, 11, 88] ?_
             refine zQ ?_ ?_
             · intro c17
               try simp only [cnd] at c17
               first | done | simp at c17
             · intro c17
               try simp only [cnd] at c17
               intro ρ hL
               refine awl_skip ?_
               revert ρ hL
               refine zS [10] ?_
               refine zR ?_
               try simp only [go_sem, simprocAttr]
               all_goals try clear hR1
               all_goals (rw [work, if_neg c1, if_neg c3, if_neg c5, if_neg c9, if_neg c11, sets_no c13, if_neg (by decide)] <;> rfl)
end Go.Proofs.YteojcehneipgdaaGreat.AM
