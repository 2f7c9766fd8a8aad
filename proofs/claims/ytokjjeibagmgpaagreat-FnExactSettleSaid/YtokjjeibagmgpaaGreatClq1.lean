/- The law Settle. No conditions but those each theorem bears. -/
import Derived.Test.YtokjjeibagmgpaaGreatFa
import Derived.Test.YtokjjeibagmgpaaGreatCa13
import Derived.Test.YtokjjeibagmgpaaGreatCa31
import Derived.Test.YtokjjeibagmgpaaGreatCa23
import Derived.Test.YtokjjeibagmgpaaGreatCa40
set_option linter.unusedSimpArgs false
set_option linter.unusedVariables false
namespace Go.Proofs.YtokjjeibagmgpaaGreat.AM
open Go
set_option maxHeartbeats 8000000
set_option maxRecDepth 100000

section
attribute [local go_sem] Mem.marked Stt.marked Cor.markedQ mrow_len marks_len
theorem sat_laws_FnExactSettle (l : List Ins) (c : Cor) (hl : l.length ≤ 9223372036854775807) (hs : c.sm) : Sat Tryz.prog 9 [.sl l.length l.length (rows l), .agg c.cells] [] (.bool true) [] := by
 have hX := trivial
 refine sat_mk [.tmp 4] 0 119 Tryz.call9 Tryz.func9 Tryz.ntmps9 rfl rfl rfl rfl rfl ?_
 refine zI [0, 1] ?_
 refine zG [0] [0, 3] ?_
 refine zG [0] [0, 3, 5] ?_
 intro ρ hL
 refine zA ?_
 intro K hK
 refine zF (sat_laws_szInsS l 1048576 hl ⟨by decide, by decide⟩) ?_
 refine zEG [0] [0, 3, 5] ?_
 clear hK K hL
 refine zG [0] [0, 3, 5, 21] ?_
 refine zC ?_ ?_
 · intro c1
   refine zG [] [4] ?_
   refine zR ?_
   try simp only [go_sem, simprocAttr]
   all_goals (rfl)
 · intro c1
   have f1 := szL_ok (l := 1048576) ⟨by decide, by decide⟩ c1
   have f1a := f1.1
   intro ρ hL
   refine awl_skip ?_
   refine zA ?_
   intro K hK
   refine zF (sat_laws_szCore c (szL 1048576 l.length) hs f1.2) ?_
   refine zEG [0] [0, 3, 5] ?_
   clear hK K hL
   refine zG [0] [0, 3, 26] ?_
   refine zC ?_ ?_
   · intro c2
     refine zG [] [4] ?_
     refine zR ?_
     try simp only [go_sem, simprocAttr]
     all_goals (rfl)
   · intro c2
     have f2 := szC_ok f1.2 c2
     have f3 := settle_fit f2.1
     intro ρ hL
     refine awl_skip ?_
     refine zAD [0, 1, 0, 7, 15, 31, 63, 63, 0, 383, 1023] ?_
     intro K hK
     refine zFD [0, 1, 0, 7, 15, 31, 63, 63, 0, 383, 1023] (sat_laws_toInsS _ ?hp0) ?_
     case hp0 => first | exact f1.1 | exact f2.1 | exact f3 | assumption | omega
     refine zFD [0, 1, 0, 7, 15, 31, 63, 63, 0, 383, 1023] (sat_laws_toCore _ ?hp0) ?_
     case hp0 => first | exact f1.1 | exact f2.1 | exact f3 | assumption | omega
     refine zFD [0, 1, 0, 7, 15, 31, 63, 63, 0, 383, 1023] (sat_spec_Settle _ _ ?hp0) ?_
     case hp0 => first | exact f1.1 | exact f2.1 | exact f3 | assumption | omega
     refine zEG [0, 12, 7, 8, 9, 10, 11] [0, 3, 6, 7] ?_
     clear hK K hL
     intro ρ hL
     refine zA ?_
     intro K hK
     refine zF (sat_laws_toInsS _ ?hp0) ?_
     case hp0 => first | exact f1.1 | exact f2.1 | exact f3 | assumption | omega
     refine zEG [0, 1, 2, 3, 4, 5, 6, 7] [0, 3, 6, 7, 8] ?_
     clear hK K hL
     intro ρ hL
     refine zA ?_
     intro K hK
     refine zF (sat_laws_toCore _ ?hp0) ?_
     case hp0 => first | exact f1.1 | exact f2.1 | exact f3 | assumption | omega
     refine zEG [0, 1, 2, 3, 4, 5, 6, 7, 13, 8, 9, 10, 11, 12] [0, 3, 6, 7, 8, 9] ?_
     clear hK K hL
     intro ρ hL
     refine zA ?_
     intro K hK
     refine zF (sat_impl_Settle _ _ ?hp0) ?_
     case hp0 => first | exact f1.1 | exact f2.1 | exact f3 | assumption | omega
     refine zEG [0, 1, 2, 3, 4, 5, 6, 7, 8, 9, 10, 11, 12, 13, 19, 14, 15, 16, 17, 18] [0, 3, 6, 7, 8, 9, 10, 11] ?_
     clear hK K hL
     intro ρ hL
     refine zA ?_
     intro K hK
     refine zF (sat_laws_eqCore (settle c).1 (settle c).1 f3) ?_
     refine zL [0, 3, 6, 7, 8, 9, 10, 11, 49] ?_
     clear hL
     intro ρ hL
     refine grp_orN (tc := 49) (tv := 52) (td := 53) (v := ?v1) 3 rfl [0, 3, 6, 7, 8, 9, 10, 11] hL.2.2.2.2.2.2.2.2 rfl (fun hb K1 hK1 => ?run) (fun hb => ?skip) (fun ρ hP hM => ?_)
     case skip => exact skA (want := false) (b := _) (by rw [hb]; rfl) hL.2.2.2.2.2.2.2.2 rfl
     case run =>
      simp only [List.take_succ_cons, List.take_zero]
      rw [hb] at hL
      try simp only [go_sem, simprocAttr, hL, hX]
      repeat' refine And.intro (by first | exact f1.1 | exact f2.1 | exact f3 | assumption | omega) ?_
      refine hK1 _ ?_ ?_ ?_ <;> simp only [go_sem, simprocAttr, hL, hX] <;> exact rfl
     simp only [List.drop_succ_cons, List.drop_zero]
     try simp only [go_sem, simprocAttr, hL, hX] at hM
     replace hL := And.intro hP hM
     clear hP hM
     try simp only [go_sem, simprocAttr, hL, hX]
     repeat' refine And.intro (by first | exact f1.1 | exact f2.1 | exact f3 | assumption | omega) ?_
     refine zEG [0, 1, 2, 3, 4, 5, 6, 7, 8, 9, 10, 11, 12, 13, 14, 15, 16, 17, 18, 19] [0, 3, 6, 7, 8, 9, 10, 11, 53] ?_
     clear hK K hL
     refine zC ?_ ?_
     · intro c3
       first | done | (simp at c3; done) | (simp at c3; omega) | omega
     · intro c3
       intro ρ hL
       refine awl_skip ?_
       refine zA ?_
       intro K hK
       refine zF (sat_laws_toInsS _ ?hp0) ?_
       case hp0 => first | exact f1.1 | exact f2.1 | exact f3 | assumption | omega
       refine zF (sat_laws_eqInsS _ _ ?hp0) ?_
       case hp0 => first | exact f1.1 | exact f2.1 | exact f3 | assumption | omega
       refine zEG [0, 1, 2, 3, 4, 5, 6, 7, 8, 9, 10, 11, 12, 13, 14, 15, 16, 17, 18, 19] [0, 3, 6, 7, 8, 9, 10, 11, 58] ?_
       clear hK K hL
       refine zC ?_ ?_
       · intro c4
         first | done | (simp at c4; done) | (simp at c4; omega) | omega
       · intro c4
         intro ρ hL
         refine awl_skip ?_
         refine zAD [0, 0, 2, 7, 15] ?_
         intro K hK
         refine zFD [0, 0, 2, 7, 15] (sat_laws_toCore _ ?hp0) ?_
         case hp0 => first | exact f1.1 | exact f2.1 | exact f3 | assumption | omega
         refine zFD [0, 0, 2, 7, 15] (sat_laws_eqCore c c f2.1) ?_
         refine zEG [0, 1, 2, 3, 4, 5, 6, 7, 8, 9, 10, 11, 12, 13, 14, 15, 16, 17, 18, 19] [0, 3, 6, 7, 8, 9, 10, 11, 63] ?_
         clear hK K hL
         refine zC ?_ ?_
         · intro c5
           first | done | (simp at c5; done) | (simp at c5; omega) | omega
         · intro c5
           intro ρ hL
           refine awl_skip ?_
           revert ρ hL
           refine zG [0, 1, 2, 3, 4, 5, 6, 7, 8, 9, 10, 11, 12, 13, 14, 15, 16, 17, 18, 19] [0, 3, 6, 7, 8, 9, 10, 11, 12] ?_
           intro ρ hL
           refine zA ?_
           intro K hK
           refine zFI [7] (sat_laws_markInsS _ _ _ ?hp0 ?hp1) ?_
           case hp0 => first | exact f1.1 | exact f2.1 | exact f3 | assumption | omega
           case hp1 => first | exact f1.1 | exact f2.1 | exact f3 | assumption | omega
           refine zEG [0, 1, 2, 3, 4, 5, 6, 8, 9, 10, 11, 12, 13, 14, 15, 16, 17, 18, 19] [0, 3, 6, 7, 9, 10, 11, 12] ?_
           clear hK K hL
           intro ρ hL
           refine zA ?_
           intro K hK
           refine zFI [8, 9, 10, 11, 12] (sat_laws_markCore c (1 + (5 * l.length : Nat)) f2.1 (by omega)) ?_
           refine zEG [0, 1, 2, 3, 4, 5, 6, 13, 14, 15, 16, 17, 18] [0, 3, 6, 7, 10, 11, 12] ?_
           clear hK K hL
           intro ρ hL
           refine zA ?_
           intro K hK
           refine zL [0, 3, 6, 7, 10, 11, 72] ?_
           clear hL
           intro ρ hL
           refine grp_orN (tc := 72) (tv := 76) (td := 77) (v := ?v2) 4 rfl [0, 3, 6, 7, 10, 11] hL.2.2.2.2.2.2 rfl (fun hb K1 hK1 => ?run) (fun hb => ?skip) (fun ρ hP hM => ?_)
           case skip => exact skA (want := false) (b := _) (by rw [hb]; rfl) hL.2.2.2.2.2.2 rfl
           case run =>
            simp only [List.take_succ_cons, List.take_zero]
            rw [hb] at hL
            try simp only [go_sem, simprocAttr, hL, hX]
            repeat' refine And.intro (by first | exact f1.1 | exact f2.1 | exact f3 | assumption | omega) ?_
            refine zF (sat_laws_eqCore (settle c).1 (settle c).1 f3) ?_
            refine hK1 _ ?_ ?_ ?_ <;> simp only [go_sem, simprocAttr, hL, hX] <;> exact rfl
           simp only [List.drop_succ_cons, List.drop_zero]
           try simp only [go_sem, simprocAttr, hL, hX] at hM
           replace hL := And.intro hP hM
           clear hP hM
           try simp only [go_sem, simprocAttr, hL, hX]
           repeat' refine And.intro (by first | exact f1.1 | exact f2.1 | exact f3 | assumption | omega) ?_
           refine zL [0, 3, 6, 7, 10, 11, 78] ?_
           clear hL
           intro ρ hL
           refine grp_orN (tc := 78) (tv := 81) (td := 82) (v := ?v3) 3 rfl [0, 3, 6, 7, 10] hL.2.2.2.2.2.2 rfl (fun hb K1 hK1 => ?run) (fun hb => ?skip) (fun ρ hP hM => ?_)
           case skip => exact skA (want := false) (b := _) (by rw [hb]; rfl) hL.2.2.2.2.2.2 rfl
           case run =>
            simp only [List.take_succ_cons, List.take_zero]
            rw [hb] at hL
            try simp only [go_sem, simprocAttr, hL, hX]
            repeat' refine And.intro (by first | exact f1.1 | exact f2.1 | exact f3 | assumption | omega) ?_
            refine hK1 _ ?_ ?_ ?_ <;> simp only [go_sem, simprocAttr, hL, hX] <;> exact rfl
           simp only [List.drop_succ_cons, List.drop_zero]
           try simp only [go_sem, simprocAttr, hL, hX] at hM
           replace hL := And.intro hP hM
           clear hP hM
           try simp only [go_sem, simprocAttr, hL, hX]
           repeat' refine And.intro (by first | exact f1.1 | exact f2.1 | exact f3 | assumption | omega) ?_
           refine zEG [0, 1, 2, 3, 4, 5, 6, 7, 8, 9, 10, 11, 12] [0, 3, 6, 7, 10, 82] ?_
           clear hK K hL
           refine zC ?_ ?_
           · intro c6
             first | done | (simp at c6; done) | (simp at c6; omega) | omega
           · intro c6
             intro ρ hL
             refine awl_skip ?_
             revert ρ hL
             refine zG [0, 1, 2, 3, 4, 5, 6, 7, 8, 9, 10, 11, 12] [0, 3, 6, 7, 10, 13] ?_
             intro ρ hL
             refine zA ?_
             intro K hK
             refine zFI [8, 9, 10, 11, 12] (sat_laws_markCore (settle c).1 1 f3 (by decide)) ?_
             refine zEG [0, 1, 2, 3, 4, 5, 6, 7, 8, 9, 10, 11, 12] [0, 3, 6, 7, 10, 13] ?_
             clear hK K hL
             refine zG [0, 1, 2, 3, 4, 5, 6, 7, 8, 9, 10, 11, 12] [0, 3, 6, 7, 10, 13, 14] ?_
             intro ρ hL
             refine zA ?_
             intro K hK
             refine zF (sat_laws_heldCore (settle c).1 1 f3 (by decide)) ?_
             refine zEG [0, 1, 2, 3, 4, 5, 6, 7, 8, 9, 10, 11, 12] [0, 3, 6, 7, 10, 13, 14] ?_
             clear hK K hL
             refine zG [0, 1, 2, 3, 4, 5, 6, 7, 8, 9, 10, 11, 12] [0, 3, 6, 7, 10, 13, 14, 90] ?_
             refine zC ?_ ?_
             · intro c7
               first | done | (simp at c7; done) | (simp at c7; omega) | omega
             · intro c7
               intro ρ hL
               refine awl_skip ?_
               revert ρ hL
               refine zG [0, 1, 2, 3, 4, 5, 6, 7, 8, 9, 10, 11, 12] [0, 3, 6, 7, 10, 13, 93] ?_
               refine zC ?_ ?_
               · intro c8
                 first | done | (simp at c8; done) | (simp at c8; omega) | omega
               · intro c8
                 intro ρ hL
                 refine awl_skip ?_
                 refine zAD [0, 1, 0, 7, 15, 31, 63, 63, 0, 383, 1023] ?_
                 intro K hK
                 refine zFD [0, 1, 0, 7, 15, 31, 63, 63, 0, 383, 1023] (sat_laws_toInsS _ ?hp0) ?_
                 case hp0 => first | exact f1.1 | exact f2.1 | exact f3 | assumption | omega
                 refine zFD [0, 1, 0, 7, 15, 31, 63, 63, 0, 383, 1023] (sat_laws_toCore _ ?hp0) ?_
                 case hp0 => first | exact f1.1 | exact f2.1 | exact f3 | assumption | omega
                 refine zFD [0, 1, 0, 7, 15, 31, 63, 63, 0, 383, 1023] (sat_impl_Settle _ _ ?hp0) ?_
                 case hp0 => first | exact f1.1 | exact f2.1 | exact f3 | assumption | omega
                 refine zEG [1, 2, 3, 4, 5, 6, 7, 8, 9, 10, 11, 12, 24, 19, 20, 21, 22, 23] [6, 7, 10, 13, 15, 16] ?_
                 clear hK K hL
                 intro ρ hL
                 refine zA ?_
                 intro K hK
                 refine zF (sat_laws_eqCore (settle c).1 (settle c).1 f3) ?_
                 refine zL [7, 10, 13, 16, 106] ?_
                 clear hL
                 intro ρ hL
                 refine grp_orN (tc := 106) (tv := 109) (td := 110) (v := ?v4) 3 rfl [10, 13] hL.2.2.2.2 rfl (fun hb K1 hK1 => ?run) (fun hb => ?skip) (fun ρ hP hM => ?_)
                 case skip => exact skA (want := false) (b := _) (by rw [hb]; rfl) hL.2.2.2.2 rfl
                 case run =>
                  simp only [List.take_succ_cons, List.take_zero]
                  rw [hb] at hL
                  try simp only [go_sem, simprocAttr, hL, hX]
                  repeat' refine And.intro (by first | exact f1.1 | exact f2.1 | exact f3 | assumption | omega) ?_
                  refine hK1 _ ?_ ?_ ?_ <;> simp only [go_sem, simprocAttr, hL, hX] <;> exact rfl
                 simp only [List.drop_succ_cons, List.drop_zero]
                 try simp only [go_sem, simprocAttr, hL, hX] at hM
                 replace hL := And.intro hP hM
                 clear hP hM
                 try simp only [go_sem, simprocAttr, hL, hX]
                 repeat' refine And.intro (by first | exact f1.1 | exact f2.1 | exact f3 | assumption | omega) ?_
                 refine zEG [6, 7, 8, 9, 10, 11] [10, 13, 110] ?_
                 clear hK K hL
                 refine zC ?_ ?_
                 · intro c9
                   first | done | (simp at c9; done) | (simp at c9; omega) | omega
                 · intro c9
                   intro ρ hL
                   refine awl_skip ?_
                   revert ρ hL
                   refine zG [0, 1, 2, 3, 4, 5] [10, 13, 14] ?_
                   intro ρ hL
                   refine zA ?_
                   intro K hK
                   refine zF (sat_laws_heldCore (settle c).1 1 f3 (by decide)) ?_
                   refine zEG [] [13, 14] ?_
                   clear hK K hL
                   refine zG [] [13, 14, 115] ?_
                   refine zC ?_ ?_
                   · intro c10
                     first | done | (simp at c10; done) | (simp at c10; omega) | omega
                   · intro c10
                     intro ρ hL
                     refine awl_skip ?_
                     revert ρ hL
                     refine zG [] [118] ?_
                     refine zC ?_ ?_
                     · intro c11
                       first | done | (simp at c11; done) | (simp at c11; omega) | omega
                     · intro c11
                       intro ρ hL
                       refine awl_skip ?_
                       revert ρ hL
                       refine zG [] [4] ?_
                       refine zR ?_
                       try simp only [go_sem, simprocAttr]
                       all_goals (rfl)
end
end Go.Proofs.YtokjjeibagmgpaaGreat.AM
