/- The law JudgeKeys. No conditions but those each theorem bears. -/
import Derived.Test.YtokjjeibagmgpaaGreatFa
import Derived.Test.YtokjjeibagmgpaaGreatM5
import Derived.Test.YtokjjeibagmgpaaGreatCa31p
import Derived.Test.YtokjjeibagmgpaaGreatCa45
set_option linter.unusedSimpArgs false
set_option linter.unusedVariables false
namespace Go.Proofs.YtokjjeibagmgpaaGreat.AM
open Go
set_option maxHeartbeats 8000000
set_option maxRecDepth 100000

theorem sat_laws_FnExactJudgeKeys (l : List Ins) (s : Stt) (ps : List Pik) (hl : l.length ≤ 9223372036854775807) (hs : s.sm) (hp : ps.length ≤ 9223372036854775807) : Sat Tryz.prog 5 [.sl l.length l.length (rows l), .agg s.cells, .sl ps.length ps.length (rows ps)] [] (.bool true) [] := by
 have hX := trivial
 refine sat_mk [.tmp 6] 0 63 Tryz.call5 Tryz.func5 Tryz.ntmps5 rfl rfl rfl rfl rfl ?_
 refine zI [0, 1, 2] ?_
 refine zG [0] [0, 2, 4] ?_
 refine zG [0] [0, 2, 4, 7] ?_
 intro ρ hL
 refine zA ?_
 intro K hK
 refine zF (sat_laws_szInsS l 1048576 hl ⟨by decide, by decide⟩) ?_
 refine zEG [0] [0, 2, 4, 7] ?_
 clear hK K hL
 refine zG [0] [0, 2, 4, 7, 17] ?_
 refine zC ?_ ?_
 · intro c1
   refine zG [] [6] ?_
   refine zR ?_
   try simp only [go_sem, simprocAttr]
   all_goals (rfl)
 · intro c1
   have f1 := szL_ok (l := 1048576) ⟨by decide, by decide⟩ c1
   have f1a := f1.1
   intro ρ hL
   refine awl_skip ?_
   refine zA ?_
   intro K hK
   refine zF (sat_laws_szState s (szL 1048576 l.length) hs f1.2) ?_
   refine zEG [0] [0, 2, 4, 7] ?_
   clear hK K hL
   refine zG [0] [0, 2, 4, 7, 22] ?_
   refine zC ?_ ?_
   · intro c2
     refine zG [] [6] ?_
     refine zR ?_
     try simp only [go_sem, simprocAttr]
     all_goals (rfl)
   · intro c2
     have f2 := szS_ok f1.2 c2
     intro ρ hL
     refine awl_skip ?_
     refine zA ?_
     intro K hK
     refine zF (sat_laws_szPickS ps _ hp f2.2) ?_
     refine zEG [0] [0, 2, 4, 7] ?_
     clear hK K hL
     refine zG [0] [0, 2, 4, 27] ?_
     refine zC ?_ ?_
     · intro c3
       refine zG [] [6] ?_
       refine zR ?_
       try simp only [go_sem, simprocAttr]
       all_goals (rfl)
     · intro c3
       have f3 := szL_ok f2.2 c3
       have f3a := f3.1
       intro ρ hL
       refine awl_skip ?_
       refine zAD [0, 1, 0, 7, 0, 31, 63, 127] ?_
       intro K hK
       refine zFD [0, 1, 0, 7, 0, 31, 63, 127] (sat_laws_toInsS _ ?hp0) ?_
       case hp0 => first | exact f1.1 | exact f2.1 | exact f3.1 | assumption | omega
       refine zFD [0, 1, 0, 7, 0, 31, 63, 127] (sat_laws_toState _ ?hp0) ?_
       case hp0 => first | exact f1.1 | exact f2.1 | exact f3.1 | assumption | omega
       refine zFD [0, 1, 0, 7, 0, 31, 63, 127] (sat_laws_toPickS _ ?hp0) ?_
       case hp0 => first | exact f1.1 | exact f2.1 | exact f3.1 | assumption | omega
       refine zFD [0, 1, 0, 7, 0, 31, 63, 127] (sat_spec_JudgeKeys _ _ _ ?hp0 ?hp1 ?hp2) ?_
       case hp0 => first | exact f1.1 | exact f2.1 | exact f3.1 | assumption | omega
       case hp1 => first | exact f1.1 | exact f2.1 | exact f3.1 | assumption | omega
       case hp2 => first | exact f1.1 | exact f2.1 | exact f3.1 | assumption | omega
       refine zEG [0] [0, 2, 4, 8] ?_
       clear hK K hL
       intro ρ hL
       refine zA ?_
       intro K hK
       refine zF (sat_laws_toInsS _ ?hp0) ?_
       case hp0 => first | exact f1.1 | exact f2.1 | exact f3.1 | assumption | omega
       refine zEG [0, 1] [0, 2, 4, 8, 9] ?_
       clear hK K hL
       intro ρ hL
       refine zA ?_
       intro K hK
       refine zF (sat_laws_toState _ ?hp0) ?_
       case hp0 => first | exact f1.1 | exact f2.1 | exact f3.1 | assumption | omega
       refine zEG [0, 1, 5, 2, 3, 4] [0, 2, 4, 8, 9, 10] ?_
       clear hK K hL
       intro ρ hL
       refine zA ?_
       intro K hK
       refine zF (sat_laws_toPickS _ ?hp0) ?_
       case hp0 => first | exact f1.1 | exact f2.1 | exact f3.1 | assumption | omega
       refine zEG [0, 1, 2, 3, 4, 5, 6] [0, 2, 4, 8, 9, 10, 11] ?_
       clear hK K hL
       intro ρ hL
       refine zA ?_
       intro K hK
       refine zF (sat_impl_JudgeKeys _ _ _ ?hp0 ?hp1 ?hp2) ?_
       case hp0 => first | exact f1.1 | exact f2.1 | exact f3.1 | assumption | omega
       case hp1 => first | exact f1.1 | exact f2.1 | exact f3.1 | assumption | omega
       case hp2 => first | exact f1.1 | exact f2.1 | exact f3.1 | assumption | omega
       refine zEG [0, 1, 2, 3, 4, 5, 6] [0, 2, 4, 8, 9, 10, 11, 12] ?_
       clear hK K hL
       refine zG [0, 1, 2, 3, 4, 5, 6] [0, 2, 4, 9, 10, 11, 47] ?_
       refine zC ?_ ?_
       · intro c4
         first | done | (simp at c4; done) | (simp at c4; omega) | omega
       · intro c4
         intro ρ hL
         refine awl_skip ?_
         refine zA ?_
         intro K hK
         refine zF (sat_laws_toInsS _ ?hp0) ?_
         case hp0 => first | exact f1.1 | exact f2.1 | exact f3.1 | assumption | omega
         refine zF (sat_laws_eqInsS _ _ ?hp0) ?_
         case hp0 => first | exact f1.1 | exact f2.1 | exact f3.1 | assumption | omega
         refine zEG [0, 2, 3, 4, 5, 6] [2, 4, 10, 11, 52] ?_
         clear hK K hL
         refine zC ?_ ?_
         · intro c5
           first | done | (simp at c5; done) | (simp at c5; omega) | omega
         · intro c5
           intro ρ hL
           refine awl_skip ?_
           refine zAD [0, 0, 2, 7, 15] ?_
           intro K hK
           refine zFD [0, 0, 2, 7, 15] (sat_laws_toState _ ?hp0) ?_
           case hp0 => first | exact f1.1 | exact f2.1 | exact f3.1 | assumption | omega
           refine zFD [0, 0, 2, 7, 15] (sat_laws_eqState s s f2.1) ?_
           refine zEG [5] [2, 11, 57] ?_
           clear hK K hL
           refine zC ?_ ?_
           · intro c6
             first | done | (simp at c6; done) | (simp at c6; omega) | omega
           · intro c6
             intro ρ hL
             refine awl_skip ?_
             refine zA ?_
             intro K hK
             refine zF (sat_laws_toPickS _ ?hp0) ?_
             case hp0 => first | exact f1.1 | exact f2.1 | exact f3.1 | assumption | omega
             refine zF (sat_laws_eqPickS _ _ ?hp0) ?_
             case hp0 => first | exact f1.1 | exact f2.1 | exact f3.1 | assumption | omega
             refine zEG [] [62] ?_
             clear hK K hL
             refine zC ?_ ?_
             · intro c7
               first | done | (simp at c7; done) | (simp at c7; omega) | omega
             · intro c7
               intro ρ hL
               refine awl_skip ?_
               revert ρ hL
               refine zG [] [6] ?_
               refine zR ?_
               try simp only [go_sem, simprocAttr]
               all_goals (rfl)
end Go.Proofs.YtokjjeibagmgpaaGreat.AM
