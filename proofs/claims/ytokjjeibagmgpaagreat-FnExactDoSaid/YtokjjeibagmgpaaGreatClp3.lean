/- The law Do. No conditions but those each theorem bears. -/
import Derived.Test.YtokjjeibagmgpaaGreatFa
import Derived.Test.YtokjjeibagmgpaaGreatCa13
import Derived.Test.YtokjjeibagmgpaaGreatCa23
import Derived.Test.YtokjjeibagmgpaaGreatCa38
set_option linter.unusedSimpArgs false
set_option linter.unusedVariables false
namespace Go.Proofs.YtokjjeibagmgpaaGreat.AM
open Go
set_option maxHeartbeats 8000000
set_option maxRecDepth 100000

section
attribute [local go_sem] Mem.marked Stt.marked Cor.markedQ mrow_len marks_len
theorem sat_laws_FnExactDo (c : Cor) (i : Int) (hs : c.sm) : Sat Tryz.prog 6 [.agg c.cells, .int .i64 i] [] (.bool true) [] := by
 have hX := trivial
 refine sat_mk [.tmp 4] 0 101 Tryz.call6 Tryz.func6 Tryz.ntmps6 rfl rfl rfl rfl rfl ?_
 refine zI [0, 1] ?_
 refine zG [0] [1, 2] ?_
 refine zG [0] [1, 2, 5] ?_
 intro ρ hL
 refine zA ?_
 intro K hK
 refine zF (sat_laws_szCore c 1048576 hs ⟨by decide, by decide⟩) ?_
 refine zEG [0] [1, 2, 5] ?_
 clear hK K hL
 refine zG [0] [1, 2, 20] ?_
 refine zC ?_ ?_
 · intro c1
   refine zG [] [4] ?_
   refine zR ?_
   try simp only [go_sem, simprocAttr]
   all_goals (rfl)
 · intro c1
   have f1 := szC_ok (l := 1048576) ⟨by decide, by decide⟩ c1
   have f3 := do_fit (i := i) f1.1
   intro ρ hL
   refine awl_skip ?_
   refine zA ?_
   intro K hK
   refine zF (sat_laws_toCore _ ?hp0) ?_
   case hp0 => first | exact f1.1 | exact f3 | assumption | omega
   refine zF (sat_spec_Do _ _ ?hp0) ?_
   case hp0 => first | exact f1.1 | exact f3 | assumption | omega
   refine zEG [0, 11, 6, 7, 8, 9, 10] [1, 2, 6, 7] ?_
   clear hK K hL
   intro ρ hL
   refine zA ?_
   intro K hK
   refine zF (sat_laws_toCore _ ?hp0) ?_
   case hp0 => first | exact f1.1 | exact f3 | assumption | omega
   refine zEG [0, 1, 2, 3, 4, 5, 6, 12, 7, 8, 9, 10, 11] [1, 2, 6, 7, 8] ?_
   clear hK K hL
   intro ρ hL
   refine zA ?_
   intro K hK
   refine zF (sat_impl_Do _ _ ?hp0) ?_
   case hp0 => first | exact f1.1 | exact f3 | assumption | omega
   refine zEG [0, 1, 2, 3, 4, 5, 6, 7, 8, 9, 10, 11, 12, 18, 13, 14, 15, 16, 17] [1, 2, 6, 7, 8, 9, 10] ?_
   clear hK K hL
   intro ρ hL
   refine zA ?_
   intro K hK
   refine zF (sat_laws_eqCore (do_ c i).1 (do_ c i).1 f3) ?_
   refine zL [1, 2, 6, 7, 8, 9, 10, 40] ?_
   clear hL
   intro ρ hL
   refine grp_orN (tc := 40) (tv := 43) (td := 44) (v := ?v1) 3 rfl [1, 2, 6, 7, 8, 9, 10] hL.2.2.2.2.2.2.2 rfl (fun hb K1 hK1 => ?run) (fun hb => ?skip) (fun ρ hP hM => ?_)
   case skip => exact skA (want := false) (b := _) (by rw [hb]; rfl) hL.2.2.2.2.2.2.2 rfl
   case run =>
    simp only [List.take_succ_cons, List.take_zero]
    rw [hb] at hL
    try simp only [go_sem, simprocAttr, hL, hX]
    repeat' refine And.intro (by first | exact f1.1 | exact f3 | assumption | omega) ?_
    refine hK1 _ ?_ ?_ ?_ <;> simp only [go_sem, simprocAttr, hL, hX] <;> exact rfl
   simp only [List.drop_succ_cons, List.drop_zero]
   try simp only [go_sem, simprocAttr, hL, hX] at hM
   replace hL := And.intro hP hM
   clear hP hM
   try simp only [go_sem, simprocAttr, hL, hX]
   repeat' refine And.intro (by first | exact f1.1 | exact f3 | assumption | omega) ?_
   refine zEG [0, 1, 2, 3, 4, 5, 6, 7, 8, 9, 10, 11, 12, 13, 14, 15, 16, 17, 18] [1, 2, 6, 7, 8, 9, 10, 44] ?_
   clear hK K hL
   refine zC ?_ ?_
   · intro c2
     first | done | (simp at c2; done) | (simp at c2; omega) | omega
   · intro c2
     intro ρ hL
     refine awl_skip ?_
     refine zAD [0, 0, 2, 7, 15] ?_
     intro K hK
     refine zFD [0, 0, 2, 7, 15] (sat_laws_toCore _ ?hp0) ?_
     case hp0 => first | exact f1.1 | exact f3 | assumption | omega
     refine zFD [0, 0, 2, 7, 15] (sat_laws_eqCore c c f1.1) ?_
     refine zEG [0, 1, 2, 3, 4, 5, 6, 7, 8, 9, 10, 11, 12, 13, 14, 15, 16, 17, 18] [1, 2, 6, 7, 8, 9, 10, 49] ?_
     clear hK K hL
     refine zC ?_ ?_
     · intro c3
       first | done | (simp at c3; done) | (simp at c3; omega) | omega
     · intro c3
       intro ρ hL
       refine awl_skip ?_
       revert ρ hL
       refine zG [0, 1, 2, 3, 4, 5, 6, 7, 8, 9, 10, 11, 12, 13, 14, 15, 16, 17, 18] [1, 2, 6, 7, 8, 9, 10, 11] ?_
       intro ρ hL
       refine zA ?_
       intro K hK
       refine zFI [8, 9, 10, 11, 12] (sat_laws_markCore c 1 f1.1 (by decide)) ?_
       refine zEG [0, 1, 2, 3, 4, 5, 6, 13, 14, 15, 16, 17, 18] [1, 2, 6, 7, 9, 10, 11] ?_
       clear hK K hL
       intro ρ hL
       refine zA ?_
       intro K hK
       refine zL [1, 2, 6, 7, 9, 10, 55] ?_
       clear hL
       intro ρ hL
       refine grp_orN (tc := 55) (tv := 59) (td := 60) (v := ?v2) 4 rfl [1, 2, 6, 7, 9, 10] hL.2.2.2.2.2.2 rfl (fun hb K1 hK1 => ?run) (fun hb => ?skip) (fun ρ hP hM => ?_)
       case skip => exact skA (want := false) (b := _) (by rw [hb]; rfl) hL.2.2.2.2.2.2 rfl
       case run =>
        simp only [List.take_succ_cons, List.take_zero]
        rw [hb] at hL
        try simp only [go_sem, simprocAttr, hL, hX]
        repeat' refine And.intro (by first | exact f1.1 | exact f3 | assumption | omega) ?_
        refine zF (sat_laws_eqCore (do_ c i).1 (do_ c i).1 f3) ?_
        refine hK1 _ ?_ ?_ ?_ <;> simp only [go_sem, simprocAttr, hL, hX] <;> exact rfl
       simp only [List.drop_succ_cons, List.drop_zero]
       try simp only [go_sem, simprocAttr, hL, hX] at hM
       replace hL := And.intro hP hM
       clear hP hM
       try simp only [go_sem, simprocAttr, hL, hX]
       repeat' refine And.intro (by first | exact f1.1 | exact f3 | assumption | omega) ?_
       refine zL [1, 2, 6, 7, 9, 10, 61] ?_
       clear hL
       intro ρ hL
       refine grp_orN (tc := 61) (tv := 64) (td := 65) (v := ?v3) 3 rfl [1, 2, 6, 7, 9] hL.2.2.2.2.2.2 rfl (fun hb K1 hK1 => ?run) (fun hb => ?skip) (fun ρ hP hM => ?_)
       case skip => exact skA (want := false) (b := _) (by rw [hb]; rfl) hL.2.2.2.2.2.2 rfl
       case run =>
        simp only [List.take_succ_cons, List.take_zero]
        rw [hb] at hL
        try simp only [go_sem, simprocAttr, hL, hX]
        repeat' refine And.intro (by first | exact f1.1 | exact f3 | assumption | omega) ?_
        refine hK1 _ ?_ ?_ ?_ <;> simp only [go_sem, simprocAttr, hL, hX] <;> exact rfl
       simp only [List.drop_succ_cons, List.drop_zero]
       try simp only [go_sem, simprocAttr, hL, hX] at hM
       replace hL := And.intro hP hM
       clear hP hM
       try simp only [go_sem, simprocAttr, hL, hX]
       repeat' refine And.intro (by first | exact f1.1 | exact f3 | assumption | omega) ?_
       refine zEG [0, 1, 2, 3, 4, 5, 6, 7, 8, 9, 10, 11, 12] [1, 2, 6, 7, 9, 65] ?_
       clear hK K hL
       refine zC ?_ ?_
       · intro c4
         first | done | (simp at c4; done) | (simp at c4; omega) | omega
       · intro c4
         intro ρ hL
         refine awl_skip ?_
         revert ρ hL
         refine zG [0, 1, 2, 3, 4, 5, 6, 7, 8, 9, 10, 11, 12] [1, 2, 6, 7, 9, 12] ?_
         intro ρ hL
         refine zA ?_
         intro K hK
         refine zFI [8, 9, 10, 11, 12] (sat_laws_markCore (do_ c i).1 1 f3 (by decide)) ?_
         refine zEG [0, 1, 2, 3, 4, 5, 6, 7, 8, 9, 10, 11, 12] [1, 2, 6, 7, 9, 12] ?_
         clear hK K hL
         refine zG [0, 1, 2, 3, 4, 5, 6, 7, 8, 9, 10, 11, 12] [1, 2, 6, 7, 9, 12, 13] ?_
         intro ρ hL
         refine zA ?_
         intro K hK
         refine zF (sat_laws_heldCore (do_ c i).1 1 f3 (by decide)) ?_
         refine zEG [0, 1, 2, 3, 4, 5, 6, 7, 8, 9, 10, 11, 12] [1, 2, 6, 7, 9, 12, 13] ?_
         clear hK K hL
         refine zG [0, 1, 2, 3, 4, 5, 6, 7, 8, 9, 10, 11, 12] [1, 2, 6, 7, 9, 12, 13, 73] ?_
         refine zC ?_ ?_
         · intro c5
           first | done | (simp at c5; done) | (simp at c5; omega) | omega
         · intro c5
           intro ρ hL
           refine awl_skip ?_
           revert ρ hL
           refine zG [0, 1, 2, 3, 4, 5, 6, 7, 8, 9, 10, 11, 12] [1, 2, 6, 7, 9, 12, 76] ?_
           refine zC ?_ ?_
           · intro c6
             first | done | (simp at c6; done) | (simp at c6; omega) | omega
           · intro c6
             intro ρ hL
             refine awl_skip ?_
             refine zA ?_
             intro K hK
             refine zF (sat_laws_toCore _ ?hp0) ?_
             case hp0 => first | exact f1.1 | exact f3 | assumption | omega
             refine zF (sat_impl_Do _ _ ?hp0) ?_
             case hp0 => first | exact f1.1 | exact f3 | assumption | omega
             refine zEG [1, 2, 3, 4, 5, 6, 7, 8, 9, 10, 11, 12, 23, 18, 19, 20, 21, 22] [6, 7, 9, 12, 14, 15] ?_
             clear hK K hL
             intro ρ hL
             refine zA ?_
             intro K hK
             refine zF (sat_laws_eqCore (do_ c i).1 (do_ c i).1 f3) ?_
             refine zL [7, 9, 12, 15, 88] ?_
             clear hL
             intro ρ hL
             refine grp_orN (tc := 88) (tv := 91) (td := 92) (v := ?v4) 3 rfl [9, 12] hL.2.2.2.2 rfl (fun hb K1 hK1 => ?run) (fun hb => ?skip) (fun ρ hP hM => ?_)
             case skip => exact skA (want := false) (b := _) (by rw [hb]; rfl) hL.2.2.2.2 rfl
             case run =>
              simp only [List.take_succ_cons, List.take_zero]
              rw [hb] at hL
              try simp only [go_sem, simprocAttr, hL, hX]
              repeat' refine And.intro (by first | exact f1.1 | exact f3 | assumption | omega) ?_
              refine hK1 _ ?_ ?_ ?_ <;> simp only [go_sem, simprocAttr, hL, hX] <;> exact rfl
             simp only [List.drop_succ_cons, List.drop_zero]
             try simp only [go_sem, simprocAttr, hL, hX] at hM
             replace hL := And.intro hP hM
             clear hP hM
             try simp only [go_sem, simprocAttr, hL, hX]
             repeat' refine And.intro (by first | exact f1.1 | exact f3 | assumption | omega) ?_
             refine zEG [6, 7, 8, 9, 10, 11] [9, 12, 92] ?_
             clear hK K hL
             refine zC ?_ ?_
             · intro c7
               first | done | (simp at c7; done) | (simp at c7; omega) | omega
             · intro c7
               intro ρ hL
               refine awl_skip ?_
               revert ρ hL
               refine zG [0, 1, 2, 3, 4, 5] [9, 12, 13] ?_
               intro ρ hL
               refine zA ?_
               intro K hK
               refine zF (sat_laws_heldCore (do_ c i).1 1 f3 (by decide)) ?_
               refine zEG [] [12, 13] ?_
               clear hK K hL
               refine zG [] [12, 13, 97] ?_
               refine zC ?_ ?_
               · intro c8
                 first | done | (simp at c8; done) | (simp at c8; omega) | omega
               · intro c8
                 intro ρ hL
                 refine awl_skip ?_
                 revert ρ hL
                 refine zG [] [100] ?_
                 refine zC ?_ ?_
                 · intro c9
                   first | done | (simp at c9; done) | (simp at c9; omega) | omega
                 · intro c9
                   intro ρ hL
                   refine awl_skip ?_
                   revert ρ hL
                   refine zG [] [4] ?_
                   refine zR ?_
                   try simp only [go_sem, simprocAttr]
                   all_goals (rfl)
end
end Go.Proofs.YtokjjeibagmgpaaGreat.AM
