/- The law CorePick. No conditions but those each theorem bears. -/
import Derived.Test.YtokjjeibagmgpaaGreatFa
import Derived.Test.YtokjjeibagmgpaaGreatCa13
import Derived.Test.YtokjjeibagmgpaaGreatCa31p
import Derived.Test.YtokjjeibagmgpaaGreatCa23
import Derived.Test.YtokjjeibagmgpaaGreatCa39
set_option linter.unusedSimpArgs false
set_option linter.unusedVariables false
namespace Go.Proofs.YtokjjeibagmgpaaGreat.AM
open Go
set_option maxHeartbeats 8000000
set_option maxRecDepth 100000

section
attribute [local go_sem] Mem.marked Stt.marked Cor.markedQ mrow_len marks_len
theorem sat_laws_FnExactCorePick (l : List Ins) (c : Cor) (p : Pik) (hl : l.length ≤ 9223372036854775807) (hs : c.sm) : Sat Tryz.prog 10 [.sl l.length l.length (rows l), .agg c.cells, .agg p.cells] [] (.bool true) [] := by
 have hX := trivial
 refine sat_mk [.tmp 6] 0 127 Tryz.call10 Tryz.func10 Tryz.ntmps10 rfl rfl rfl rfl rfl ?_
 refine zI [0, 1, 2] ?_
 refine zG [0, 1] [0, 4, 5] ?_
 refine zG [0, 1] [0, 4, 5, 7] ?_
 intro ρ hL
 refine zA ?_
 intro K hK
 refine zF (sat_laws_szInsS l 1048576 hl ⟨by decide, by decide⟩) ?_
 refine zEG [0, 1] [0, 4, 5, 7] ?_
 clear hK K hL
 refine zG [0, 1] [0, 4, 5, 7, 23] ?_
 refine zC ?_ ?_
 · intro c1
   refine zG [] [6] ?_
   refine zR ?_
   try simp only [go_sem, simprocAttr]
   all_goals (rfl)
 · intro c1
   have f1 := szL_ok (l := 1048576) ⟨by decide, by decide⟩ c1
   have f1a := f1.1
   intro ρ hL
   refine awl_skip ?_
   refine zA ?_
   intro K hK
   refine zF (sat_laws_szCore c (szL 1048576 l.length) hs f1.2) ?_
   refine zEG [0, 1] [0, 4, 5, 7] ?_
   clear hK K hL
   refine zG [0, 1] [0, 4, 5, 28] ?_
   refine zC ?_ ?_
   · intro c2
     refine zG [] [6] ?_
     refine zR ?_
     try simp only [go_sem, simprocAttr]
     all_goals (rfl)
   · intro c2
     have f2 := szC_ok f1.2 c2
     have f3 := pick_fit (l := l) (p := p) f2.1
     intro ρ hL
     refine awl_skip ?_
     refine zAD [0, 1, 0, 7, 0, 31, 63, 127, 255, 255, 0, 1535, 4095] ?_
     intro K hK
     refine zFD [0, 1, 0, 7, 0, 31, 63, 127, 255, 255, 0, 1535, 4095] (sat_laws_toInsS _ ?hp0) ?_
     case hp0 => first | exact f1.1 | exact f2.1 | exact f3 | assumption | omega
     refine zFD [0, 1, 0, 7, 0, 31, 63, 127, 255, 255, 0, 1535, 4095] (sat_laws_toCore _ ?hp0) ?_
     case hp0 => first | exact f1.1 | exact f2.1 | exact f3 | assumption | omega
     refine zFD [0, 1, 0, 7, 0, 31, 63, 127, 255, 255, 0, 1535, 4095] (sat_laws_toPick _) ?_
     refine zFD [0, 1, 0, 7, 0, 31, 63, 127, 255, 255, 0, 1535, 4095] (sat_spec_CorePick _ _ _ ?hp0 ?hp1) ?_
     case hp0 => first | exact f1.1 | exact f2.1 | exact f3 | assumption | omega
     case hp1 => first | exact f1.1 | exact f2.1 | exact f3 | assumption | omega
     refine zEG [0, 1, 13, 8, 9, 10, 11, 12] [0, 4, 5, 8, 9] ?_
     clear hK K hL
     intro ρ hL
     refine zA ?_
     intro K hK
     refine zF (sat_laws_toInsS _ ?hp0) ?_
     case hp0 => first | exact f1.1 | exact f2.1 | exact f3 | assumption | omega
     refine zEG [0, 1, 2, 3, 4, 5, 6, 7, 8] [0, 4, 5, 8, 9, 10] ?_
     clear hK K hL
     intro ρ hL
     refine zA ?_
     intro K hK
     refine zF (sat_laws_toCore _ ?hp0) ?_
     case hp0 => first | exact f1.1 | exact f2.1 | exact f3 | assumption | omega
     refine zEG [0, 1, 2, 3, 4, 5, 6, 7, 8, 14, 9, 10, 11, 12, 13] [0, 4, 5, 8, 9, 10, 11] ?_
     clear hK K hL
     intro ρ hL
     refine zAD [0, 0, 0, 4, 15, 31, 63, 63, 0, 383, 1023] ?_
     intro K hK
     refine zFD [0, 0, 0, 4, 15, 31, 63, 63, 0, 383, 1023] (sat_laws_toPick _) ?_
     refine zFD [0, 0, 0, 4, 15, 31, 63, 63, 0, 383, 1023] (sat_impl_CorePick _ _ _ ?hp0 ?hp1) ?_
     case hp0 => first | exact f1.1 | exact f2.1 | exact f3 | assumption | omega
     case hp1 => first | exact f1.1 | exact f2.1 | exact f3 | assumption | omega
     refine zEG [0, 1, 2, 3, 4, 5, 6, 7, 8, 9, 10, 11, 12, 13, 14, 20, 15, 16, 17, 18, 19] [0, 4, 5, 8, 9, 10, 11, 12, 13] ?_
     clear hK K hL
     intro ρ hL
     refine zA ?_
     intro K hK
     refine zF (sat_laws_eqCore (corPick l c p).1 (corPick l c p).1 f3) ?_
     refine zL [0, 4, 5, 8, 9, 10, 11, 12, 13, 55] ?_
     clear hL
     intro ρ hL
     refine grp_orN (tc := 55) (tv := 58) (td := 59) (v := ?v1) 3 rfl [0, 4, 5, 8, 9, 10, 11, 12, 13] hL.2.2.2.2.2.2.2.2.2 rfl (fun hb K1 hK1 => ?run) (fun hb => ?skip) (fun ρ hP hM => ?_)
     case skip => exact skA (want := false) (b := _) (by rw [hb]; rfl) hL.2.2.2.2.2.2.2.2.2 rfl
     case run =>
      simp only [List.take_succ_cons, List.take_zero]
      rw [hb] at hL
      try simp only [go_sem, simprocAttr, hL, hX]
      repeat' refine And.intro (by first | exact f1.1 | exact f2.1 | exact f3 | assumption | omega) ?_
      refine hK1 _ ?_ ?_ ?_ <;> simp only [go_sem, simprocAttr, hL, hX] <;> exact rfl
     simp only [List.drop_succ_cons, List.drop_zero]
     try simp only [go_sem, simprocAttr, hL, hX] at hM
     replace hL := And.intro hP hM
     clear hP hM
     try simp only [go_sem, simprocAttr, hL, hX]
     repeat' refine And.intro (by first | exact f1.1 | exact f2.1 | exact f3 | assumption | omega) ?_
     refine zEG [0, 1, 2, 3, 4, 5, 6, 7, 8, 9, 10, 11, 12, 13, 14, 15, 16, 17, 18, 19, 20] [0, 4, 5, 8, 9, 10, 11, 12, 13, 59] ?_
     clear hK K hL
     refine zC ?_ ?_
     · intro c3
       first | done | (simp at c3; done) | (simp at c3; omega) | omega
     · intro c3
       intro ρ hL
       refine awl_skip ?_
       refine zA ?_
       intro K hK
       refine zF (sat_laws_toInsS _ ?hp0) ?_
       case hp0 => first | exact f1.1 | exact f2.1 | exact f3 | assumption | omega
       refine zF (sat_laws_eqInsS _ _ ?hp0) ?_
       case hp0 => first | exact f1.1 | exact f2.1 | exact f3 | assumption | omega
       refine zEG [0, 1, 2, 3, 4, 5, 6, 7, 8, 9, 10, 11, 12, 13, 14, 15, 16, 17, 18, 19, 20] [0, 4, 5, 8, 9, 10, 11, 12, 13, 64] ?_
       clear hK K hL
       refine zC ?_ ?_
       · intro c4
         first | done | (simp at c4; done) | (simp at c4; omega) | omega
       · intro c4
         intro ρ hL
         refine awl_skip ?_
         refine zAD [0, 0, 2, 7, 15] ?_
         intro K hK
         refine zFD [0, 0, 2, 7, 15] (sat_laws_toCore _ ?hp0) ?_
         case hp0 => first | exact f1.1 | exact f2.1 | exact f3 | assumption | omega
         refine zFD [0, 0, 2, 7, 15] (sat_laws_eqCore c c f2.1) ?_
         refine zEG [0, 1, 2, 3, 4, 5, 6, 7, 8, 9, 10, 11, 12, 13, 14, 15, 16, 17, 18, 19, 20] [0, 4, 5, 8, 9, 10, 11, 12, 13, 69] ?_
         clear hK K hL
         refine zC ?_ ?_
         · intro c5
           first | done | (simp at c5; done) | (simp at c5; omega) | omega
         · intro c5
           intro ρ hL
           refine awl_skip ?_
           revert ρ hL
           refine zG [0, 1, 2, 3, 4, 5, 6, 7, 8, 9, 10, 11, 12, 13, 14, 15, 16, 17, 18, 19, 20] [0, 4, 5, 8, 9, 10, 11, 12, 13, 14] ?_
           intro ρ hL
           refine zA ?_
           intro K hK
           refine zFI [8] (sat_laws_markInsS _ _ _ ?hp0 ?hp1) ?_
           case hp0 => first | exact f1.1 | exact f2.1 | exact f3 | assumption | omega
           case hp1 => first | exact f1.1 | exact f2.1 | exact f3 | assumption | omega
           refine zEG [0, 1, 2, 3, 4, 5, 6, 7, 9, 10, 11, 12, 13, 14, 15, 16, 17, 18, 19, 20] [0, 4, 5, 8, 9, 11, 12, 13, 14] ?_
           clear hK K hL
           intro ρ hL
           refine zA ?_
           intro K hK
           refine zFI [9, 10, 11, 12, 13] (sat_laws_markCore c (1 + (5 * l.length : Nat)) f2.1 (by omega)) ?_
           refine zEG [0, 1, 2, 3, 4, 5, 6, 7, 14, 15, 16, 17, 18, 19] [0, 4, 5, 8, 9, 12, 13, 14] ?_
           clear hK K hL
           intro ρ hL
           refine zA ?_
           intro K hK
           refine zL [0, 4, 5, 8, 9, 12, 13, 78] ?_
           clear hL
           intro ρ hL
           refine grp_orN (tc := 78) (tv := 82) (td := 83) (v := ?v2) 4 rfl [0, 4, 5, 8, 9, 12, 13] hL.2.2.2.2.2.2.2 rfl (fun hb K1 hK1 => ?run) (fun hb => ?skip) (fun ρ hP hM => ?_)
           case skip => exact skA (want := false) (b := _) (by rw [hb]; rfl) hL.2.2.2.2.2.2.2 rfl
           case run =>
            simp only [List.take_succ_cons, List.take_zero]
            rw [hb] at hL
            try simp only [go_sem, simprocAttr, hL, hX]
            repeat' refine And.intro (by first | exact f1.1 | exact f2.1 | exact f3 | assumption | omega) ?_
            refine zF (sat_laws_eqCore (corPick l c p).1 (corPick l c p).1 f3) ?_
            refine hK1 _ ?_ ?_ ?_ <;> simp only [go_sem, simprocAttr, hL, hX] <;> exact rfl
           simp only [List.drop_succ_cons, List.drop_zero]
           try simp only [go_sem, simprocAttr, hL, hX] at hM
           replace hL := And.intro hP hM
           clear hP hM
           try simp only [go_sem, simprocAttr, hL, hX]
           repeat' refine And.intro (by first | exact f1.1 | exact f2.1 | exact f3 | assumption | omega) ?_
           refine zL [0, 4, 5, 8, 9, 12, 13, 84] ?_
           clear hL
           intro ρ hL
           refine grp_orN (tc := 84) (tv := 87) (td := 88) (v := ?v3) 3 rfl [0, 4, 5, 8, 9, 12] hL.2.2.2.2.2.2.2 rfl (fun hb K1 hK1 => ?run) (fun hb => ?skip) (fun ρ hP hM => ?_)
           case skip => exact skA (want := false) (b := _) (by rw [hb]; rfl) hL.2.2.2.2.2.2.2 rfl
           case run =>
            simp only [List.take_succ_cons, List.take_zero]
            rw [hb] at hL
            try simp only [go_sem, simprocAttr, hL, hX]
            repeat' refine And.intro (by first | exact f1.1 | exact f2.1 | exact f3 | assumption | omega) ?_
            refine hK1 _ ?_ ?_ ?_ <;> simp only [go_sem, simprocAttr, hL, hX] <;> exact rfl
           simp only [List.drop_succ_cons, List.drop_zero]
           try simp only [go_sem, simprocAttr, hL, hX] at hM
           replace hL := And.intro hP hM
           clear hP hM
           try simp only [go_sem, simprocAttr, hL, hX]
           repeat' refine And.intro (by first | exact f1.1 | exact f2.1 | exact f3 | assumption | omega) ?_
           refine zEG [0, 1, 2, 3, 4, 5, 6, 7, 8, 9, 10, 11, 12, 13] [0, 4, 5, 8, 9, 12, 88] ?_
           clear hK K hL
           refine zC ?_ ?_
           · intro c6
             first | done | (simp at c6; done) | (simp at c6; omega) | omega
           · intro c6
             intro ρ hL
             refine awl_skip ?_
             revert ρ hL
             refine zG [0, 1, 2, 3, 4, 5, 6, 7, 8, 9, 10, 11, 12, 13] [0, 4, 5, 8, 9, 12, 15] ?_
             intro ρ hL
             refine zA ?_
             intro K hK
             refine zFI [9, 10, 11, 12, 13] (sat_laws_markCore (corPick l c p).1 1 f3 (by decide)) ?_
             refine zEG [0, 1, 2, 3, 4, 5, 6, 7, 8, 9, 10, 11, 12, 13] [0, 4, 5, 8, 9, 12, 15] ?_
             clear hK K hL
             refine zG [0, 1, 2, 3, 4, 5, 6, 7, 8, 9, 10, 11, 12, 13] [0, 4, 5, 8, 9, 12, 15, 16] ?_
             intro ρ hL
             refine zA ?_
             intro K hK
             refine zF (sat_laws_heldCore (corPick l c p).1 1 f3 (by decide)) ?_
             refine zEG [0, 1, 2, 3, 4, 5, 6, 7, 8, 9, 10, 11, 12, 13] [0, 4, 5, 8, 9, 12, 15, 16] ?_
             clear hK K hL
             refine zG [0, 1, 2, 3, 4, 5, 6, 7, 8, 9, 10, 11, 12, 13] [0, 4, 5, 8, 9, 12, 15, 16, 96] ?_
             refine zC ?_ ?_
             · intro c7
               first | done | (simp at c7; done) | (simp at c7; omega) | omega
             · intro c7
               intro ρ hL
               refine awl_skip ?_
               revert ρ hL
               refine zG [0, 1, 2, 3, 4, 5, 6, 7, 8, 9, 10, 11, 12, 13] [0, 4, 5, 8, 9, 12, 15, 99] ?_
               refine zC ?_ ?_
               · intro c8
                 first | done | (simp at c8; done) | (simp at c8; omega) | omega
               · intro c8
                 intro ρ hL
                 refine awl_skip ?_
                 refine zAD [0, 1, 0, 7, 0, 31, 63, 127, 255, 255, 0, 1535, 4095] ?_
                 intro K hK
                 refine zFD [0, 1, 0, 7, 0, 31, 63, 127, 255, 255, 0, 1535, 4095] (sat_laws_toInsS _ ?hp0) ?_
                 case hp0 => first | exact f1.1 | exact f2.1 | exact f3 | assumption | omega
                 refine zFD [0, 1, 0, 7, 0, 31, 63, 127, 255, 255, 0, 1535, 4095] (sat_laws_toCore _ ?hp0) ?_
                 case hp0 => first | exact f1.1 | exact f2.1 | exact f3 | assumption | omega
                 refine zFD [0, 1, 0, 7, 0, 31, 63, 127, 255, 255, 0, 1535, 4095] (sat_laws_toPick _) ?_
                 refine zFD [0, 1, 0, 7, 0, 31, 63, 127, 255, 255, 0, 1535, 4095] (sat_impl_CorePick _ _ _ ?hp0 ?hp1) ?_
                 case hp0 => first | exact f1.1 | exact f2.1 | exact f3 | assumption | omega
                 case hp1 => first | exact f1.1 | exact f2.1 | exact f3 | assumption | omega
                 refine zEG [2, 3, 4, 5, 6, 7, 8, 9, 10, 11, 12, 13, 25, 20, 21, 22, 23, 24] [8, 9, 12, 15, 17, 18] ?_
                 clear hK K hL
                 intro ρ hL
                 refine zA ?_
                 intro K hK
                 refine zF (sat_laws_eqCore (corPick l c p).1 (corPick l c p).1 f3) ?_
                 refine zL [9, 12, 15, 18, 114] ?_
                 clear hL
                 intro ρ hL
                 refine grp_orN (tc := 114) (tv := 117) (td := 118) (v := ?v4) 3 rfl [12, 15] hL.2.2.2.2 rfl (fun hb K1 hK1 => ?run) (fun hb => ?skip) (fun ρ hP hM => ?_)
                 case skip => exact skA (want := false) (b := _) (by rw [hb]; rfl) hL.2.2.2.2 rfl
                 case run =>
                  simp only [List.take_succ_cons, List.take_zero]
                  rw [hb] at hL
                  try simp only [go_sem, simprocAttr, hL, hX]
                  repeat' refine And.intro (by first | exact f1.1 | exact f2.1 | exact f3 | assumption | omega) ?_
                  refine hK1 _ ?_ ?_ ?_ <;> simp only [go_sem, simprocAttr, hL, hX] <;> exact rfl
                 simp only [List.drop_succ_cons, List.drop_zero]
                 try simp only [go_sem, simprocAttr, hL, hX] at hM
                 replace hL := And.intro hP hM
                 clear hP hM
                 try simp only [go_sem, simprocAttr, hL, hX]
                 repeat' refine And.intro (by first | exact f1.1 | exact f2.1 | exact f3 | assumption | omega) ?_
                 refine zEG [6, 7, 8, 9, 10, 11] [12, 15, 118] ?_
                 clear hK K hL
                 refine zC ?_ ?_
                 · intro c9
                   first | done | (simp at c9; done) | (simp at c9; omega) | omega
                 · intro c9
                   intro ρ hL
                   refine awl_skip ?_
                   revert ρ hL
                   refine zG [0, 1, 2, 3, 4, 5] [12, 15, 16] ?_
                   intro ρ hL
                   refine zA ?_
                   intro K hK
                   refine zF (sat_laws_heldCore (corPick l c p).1 1 f3 (by decide)) ?_
                   refine zEG [] [15, 16] ?_
                   clear hK K hL
                   refine zG [] [15, 16, 123] ?_
                   refine zC ?_ ?_
                   · intro c10
                     first | done | (simp at c10; done) | (simp at c10; omega) | omega
                   · intro c10
                     intro ρ hL
                     refine awl_skip ?_
                     revert ρ hL
                     refine zG [] [126] ?_
                     refine zC ?_ ?_
                     · intro c11
                       first | done | (simp at c11; done) | (simp at c11; omega) | omega
                     · intro c11
                       intro ρ hL
                       refine awl_skip ?_
                       revert ρ hL
                       refine zG [] [6] ?_
                       refine zR ?_
                       try simp only [go_sem, simprocAttr]
                       all_goals (rfl)
end
end Go.Proofs.YtokjjeibagmgpaaGreat.AM
