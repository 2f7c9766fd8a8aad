/- The law CoreRun. No conditions but those each theorem bears. -/
import Derived.Test.YtokjjeibagmgpaaGreatFa
import Derived.Test.YtokjjeibagmgpaaGreatCa13
import Derived.Test.YtokjjeibagmgpaaGreatCa31p
import Derived.Test.YtokjjeibagmgpaaGreatCa23
import Derived.Test.YtokjjeibagmgpaaGreatCa41
set_option linter.unusedSimpArgs false
set_option linter.unusedVariables false
namespace Go.Proofs.YtokjjeibagmgpaaGreat.AM
open Go
set_option maxHeartbeats 8000000
set_option maxRecDepth 100000

section
attribute [local go_sem] Mem.marked Stt.marked Cor.markedQ mrow_len marks_len
theorem sat_laws_FnExactCoreRun (l : List Ins) (s : Stt) (ps : List Pik) (hl : l.length ≤ 9223372036854775807) (hs : s.sm) (hp : ps.length ≤ 9223372036854775807) : Sat Tryz.prog 11 [.sl l.length l.length (rows l), .agg s.cells, .sl ps.length ps.length (rows ps)] [] (.bool true) [] := by
 have hX := trivial
 refine sat_mk [.tmp 6] 0 158 Tryz.call11 Tryz.func11 Tryz.ntmps11 rfl rfl rfl rfl rfl ?_
 refine zI [0, 1, 2] ?_
 refine zG [0] [0, 2, 4] ?_
 refine zG [0] [0, 2, 4, 7] ?_
 intro ρ hL
 refine zA ?_
 intro K hK
 refine zF (sat_laws_szInsS l 1048576 hl ⟨by decide, by decide⟩) ?_
 refine zEG [0] [0, 2, 4, 7] ?_
 clear hK K hL
 refine zG [0] [0, 2, 4, 7, 24] ?_
 refine zC ?_ ?_
 · intro c1
   refine zG [] [6] ?_
   refine zR ?_
   try simp only [go_sem, simprocAttr]
   all_goals (rfl)
 · intro c1
   have f1 := szL_ok (l := 1048576) ⟨by decide, by decide⟩ c1
   have f1a := f1.1
   intro ρ hL
   refine awl_skip ?_
   refine zA ?_
   intro K hK
   refine zF (sat_laws_szState s (szL 1048576 l.length) hs f1.2) ?_
   refine zEG [0] [0, 2, 4, 7] ?_
   clear hK K hL
   refine zG [0] [0, 2, 4, 7, 29] ?_
   refine zC ?_ ?_
   · intro c2
     refine zG [] [6] ?_
     refine zR ?_
     try simp only [go_sem, simprocAttr]
     all_goals (rfl)
   · intro c2
     have f2 := szS_ok f1.2 c2
     have f2b := Stt.cost_le f2.1
     intro ρ hL
     refine awl_skip ?_
     refine zA ?_
     intro K hK
     refine zF (sat_laws_szPickS ps _ hp f2.2) ?_
     refine zEG [0] [0, 2, 4, 7] ?_
     clear hK K hL
     refine zG [0] [0, 2, 4, 34] ?_
     refine zC ?_ ?_
     · intro c3
       refine zG [] [6] ?_
       refine zR ?_
       try simp only [go_sem, simprocAttr]
       all_goals (rfl)
     · intro c3
       have f3 := szL_ok f2.2 c3
       have f3a := f3.1
       have f4 := runC_fit (l := l) (ps := ps) f2.1
       have f5 := runC_len (l := l) (s := s) (ps := ps)
       have f6 := Cor.cost_le f4
       intro ρ hL
       refine awl_skip ?_
       refine zAD [0, 1, 0, 7, 0, 31, 63, 127, 255, 255, 0, 1535, 4095] ?_
       intro K hK
       refine zFD [0, 1, 0, 7, 0, 31, 63, 127, 255, 255, 0, 1535, 4095] (sat_laws_toInsS _ ?hp0) ?_
       case hp0 => first | exact f1.1 | exact f2.1 | exact f3.1 | exact f4 | assumption | omega
       refine zFD [0, 1, 0, 7, 0, 31, 63, 127, 255, 255, 0, 1535, 4095] (sat_laws_toState _ ?hp0) ?_
       case hp0 => first | exact f1.1 | exact f2.1 | exact f3.1 | exact f4 | assumption | omega
       refine zFD [0, 1, 0, 7, 0, 31, 63, 127, 255, 255, 0, 1535, 4095] (sat_laws_toPickS _ ?hp0) ?_
       case hp0 => first | exact f1.1 | exact f2.1 | exact f3.1 | exact f4 | assumption | omega
       refine zFD [0, 1, 0, 7, 0, 31, 63, 127, 255, 255, 0, 1535, 4095] (sat_spec_CoreRun _ _ _ ?hp0 ?hp1 ?hp2) ?_
       case hp0 => first | exact f1.1 | exact f2.1 | exact f3.1 | exact f4 | assumption | omega
       case hp1 => first | exact f1.1 | exact f2.1 | exact f3.1 | exact f4 | assumption | omega
       case hp2 => first | exact f1.1 | exact f2.1 | exact f3.1 | exact f4 | assumption | omega
       refine zEG [0, 12, 6, 7, 8, 9, 10, 11] [0, 2, 4, 8, 9] ?_
       clear hK K hL
       intro ρ hL
       refine zA ?_
       intro K hK
       refine zF (sat_laws_toInsS _ ?hp0) ?_
       case hp0 => first | exact f1.1 | exact f2.1 | exact f3.1 | exact f4 | assumption | omega
       refine zEG [0, 1, 2, 3, 4, 5, 6, 7, 8] [0, 2, 4, 8, 9, 10] ?_
       clear hK K hL
       intro ρ hL
       refine zA ?_
       intro K hK
       refine zF (sat_laws_toState _ ?hp0) ?_
       case hp0 => first | exact f1.1 | exact f2.1 | exact f3.1 | exact f4 | assumption | omega
       refine zEG [0, 1, 2, 3, 4, 5, 6, 7, 8, 12, 9, 10, 11] [0, 2, 4, 8, 9, 10, 11] ?_
       clear hK K hL
       intro ρ hL
       refine zA ?_
       intro K hK
       refine zF (sat_laws_toPickS _ ?hp0) ?_
       case hp0 => first | exact f1.1 | exact f2.1 | exact f3.1 | exact f4 | assumption | omega
       refine zEG [0, 1, 2, 3, 4, 5, 6, 7, 8, 9, 10, 11, 12, 13] [0, 2, 4, 8, 9, 10, 11, 12] ?_
       clear hK K hL
       intro ρ hL
       refine zA ?_
       intro K hK
       refine zF (sat_impl_CoreRun _ _ _ ?hp0 ?hp1 ?hp2) ?_
       case hp0 => first | exact f1.1 | exact f2.1 | exact f3.1 | exact f4 | assumption | omega
       case hp1 => first | exact f1.1 | exact f2.1 | exact f3.1 | exact f4 | assumption | omega
       case hp2 => first | exact f1.1 | exact f2.1 | exact f3.1 | exact f4 | assumption | omega
       refine zEG [0, 1, 2, 3, 4, 5, 6, 7, 8, 9, 10, 11, 12, 13, 20, 14, 15, 16, 17, 18, 19] [0, 2, 4, 8, 9, 10, 11, 12, 13, 14] ?_
       clear hK K hL
       intro ρ hL
       refine zA ?_
       intro K hK
       refine zF (sat_laws_eqCore (corRun l s ps).1 (corRun l s ps).1 f4) ?_
       refine zL [0, 2, 4, 8, 9, 10, 11, 12, 13, 14, 62] ?_
       clear hL
       intro ρ hL
       refine grp_orN (tc := 62) (tv := 66) (td := 67) (v := ?v1) 4 rfl [0, 2, 4, 8, 9, 10, 11, 12, 13, 14] hL.2.2.2.2.2.2.2.2.2.2 rfl (fun hb K1 hK1 => ?run) (fun hb => ?skip) (fun ρ hP hM => ?_)
       case skip => exact skA (want := false) (b := _) (by rw [hb]; rfl) hL.2.2.2.2.2.2.2.2.2.2 rfl
       case run =>
        simp only [List.take_succ_cons, List.take_zero]
        rw [hb] at hL
        try simp only [go_sem, simprocAttr, hL, hX]
        repeat' refine And.intro (by first | exact f1.1 | exact f2.1 | exact f3.1 | exact f4 | assumption | omega) ?_
        refine zF (sat_laws_eqIntS (corRun l s ps).2 (corRun l s ps).2 (corRun l s ps).2.length (corRun l s ps).2.length (Nat.le_trans f5 (by decide))) ?_
        refine hK1 _ ?_ ?_ ?_ <;> simp only [go_sem, simprocAttr, hL, hX] <;> exact rfl
       simp only [List.drop_succ_cons, List.drop_zero]
       try simp only [go_sem, simprocAttr, hL, hX] at hM
       replace hL := And.intro hP hM
       clear hP hM
       try simp only [go_sem, simprocAttr, hL, hX]
       repeat' refine And.intro (by first | exact f1.1 | exact f2.1 | exact f3.1 | exact f4 | assumption | omega) ?_
       refine zEG [0, 1, 2, 3, 4, 5, 6, 7, 8, 9, 10, 11, 12, 13, 14, 15, 16, 17, 18, 19, 20] [0, 2, 4, 8, 9, 10, 11, 12, 13, 14, 67] ?_
       clear hK K hL
       refine zC ?_ ?_
       · intro c4
         first | done | (simp at c4; done) | (simp at c4; omega) | omega
       · intro c4
         intro ρ hL
         refine awl_skip ?_
         refine zA ?_
         intro K hK
         refine zF (sat_laws_toInsS _ ?hp0) ?_
         case hp0 => first | exact f1.1 | exact f2.1 | exact f3.1 | exact f4 | assumption | omega
         refine zF (sat_laws_eqInsS _ _ ?hp0) ?_
         case hp0 => first | exact f1.1 | exact f2.1 | exact f3.1 | exact f4 | assumption | omega
         refine zEG [0, 1, 2, 3, 4, 5, 6, 7, 8, 9, 10, 11, 12, 13, 14, 15, 16, 17, 18, 19, 20] [0, 2, 4, 8, 9, 10, 11, 12, 13, 14, 72] ?_
         clear hK K hL
         refine zC ?_ ?_
         · intro c5
           first | done | (simp at c5; done) | (simp at c5; omega) | omega
         · intro c5
           intro ρ hL
           refine awl_skip ?_
           refine zAD [0, 0, 2, 7, 15] ?_
           intro K hK
           refine zFD [0, 0, 2, 7, 15] (sat_laws_toState _ ?hp0) ?_
           case hp0 => first | exact f1.1 | exact f2.1 | exact f3.1 | exact f4 | assumption | omega
           refine zFD [0, 0, 2, 7, 15] (sat_laws_eqState s s f2.1) ?_
           refine zEG [0, 1, 2, 3, 4, 5, 6, 7, 8, 9, 10, 11, 12, 13, 14, 15, 16, 17, 18, 19, 20] [0, 2, 4, 8, 9, 10, 11, 12, 13, 14, 77] ?_
           clear hK K hL
           refine zC ?_ ?_
           · intro c6
             first | done | (simp at c6; done) | (simp at c6; omega) | omega
           · intro c6
             intro ρ hL
             refine awl_skip ?_
             refine zA ?_
             intro K hK
             refine zF (sat_laws_toPickS _ ?hp0) ?_
             case hp0 => first | exact f1.1 | exact f2.1 | exact f3.1 | exact f4 | assumption | omega
             refine zF (sat_laws_eqPickS _ _ ?hp0) ?_
             case hp0 => first | exact f1.1 | exact f2.1 | exact f3.1 | exact f4 | assumption | omega
             refine zEG [0, 1, 2, 3, 4, 5, 6, 7, 8, 9, 10, 11, 12, 13, 14, 15, 16, 17, 18, 19, 20] [0, 2, 4, 8, 9, 10, 11, 12, 13, 14, 82] ?_
             clear hK K hL
             refine zC ?_ ?_
             · intro c7
               first | done | (simp at c7; done) | (simp at c7; omega) | omega
             · intro c7
               intro ρ hL
               refine awl_skip ?_
               revert ρ hL
               refine zG [0, 1, 2, 3, 4, 5, 6, 7, 8, 9, 10, 11, 12, 13, 14, 15, 16, 17, 18, 19, 20] [0, 2, 4, 8, 9, 10, 11, 12, 13, 14, 15] ?_
               intro ρ hL
               refine zA ?_
               intro K hK
               refine zFI [8] (sat_laws_markInsS _ _ _ ?hp0 ?hp1) ?_
               case hp0 => first | exact f1.1 | exact f2.1 | exact f3.1 | exact f4 | assumption | omega
               case hp1 => first | exact f1.1 | exact f2.1 | exact f3.1 | exact f4 | assumption | omega
               refine zEG [0, 1, 2, 3, 4, 5, 6, 7, 9, 10, 11, 12, 13, 14, 15, 16, 17, 18, 19, 20] [0, 2, 4, 8, 9, 11, 12, 13, 14, 15] ?_
               clear hK K hL
               intro ρ hL
               refine zA ?_
               intro K hK
               refine zFI [9, 10, 11] (sat_laws_markState s (1 + (5 * l.length : Nat)) f2.1 (by omega)) ?_
               refine zEG [0, 1, 2, 3, 4, 5, 6, 7, 12, 13, 14, 15, 16, 17, 18, 19] [0, 2, 4, 8, 9, 12, 13, 14, 15] ?_
               clear hK K hL
               intro ρ hL
               refine zA ?_
               intro K hK
               refine zFI [8] (sat_laws_markPickS _ _ _ ?hp0 ?hp1) ?_
               case hp0 => first | exact f1.1 | exact f2.1 | exact f3.1 | exact f4 | assumption | omega
               case hp1 => first | exact f1.1 | exact f2.1 | exact f3.1 | exact f4 | assumption | omega
               refine zEG [0, 1, 2, 3, 4, 5, 6, 7, 9, 10, 11, 12, 13, 14, 15] [0, 2, 4, 8, 9, 13, 14, 15] ?_
               clear hK K hL
               intro ρ hL
               refine zA ?_
               intro K hK
               refine zL [0, 2, 4, 8, 9, 13, 14, 94] ?_
               clear hL
               intro ρ hL
               refine grp_orN (tc := 94) (tv := 98) (td := 99) (v := ?v2) 4 rfl [0, 2, 4, 8, 9, 13, 14] hL.2.2.2.2.2.2.2 rfl (fun hb K1 hK1 => ?run) (fun hb => ?skip) (fun ρ hP hM => ?_)
               case skip => exact skA (want := false) (b := _) (by rw [hb]; rfl) hL.2.2.2.2.2.2.2 rfl
               case run =>
                simp only [List.take_succ_cons, List.take_zero]
                rw [hb] at hL
                try simp only [go_sem, simprocAttr, hL, hX]
                repeat' refine And.intro (by first | exact f1.1 | exact f2.1 | exact f3.1 | exact f4 | assumption | omega) ?_
                refine zF (sat_laws_eqCore (corRun l s ps).1 (corRun l s ps).1 f4) ?_
                refine hK1 _ ?_ ?_ ?_ <;> simp only [go_sem, simprocAttr, hL, hX] <;> exact rfl
               simp only [List.drop_succ_cons, List.drop_zero]
               try simp only [go_sem, simprocAttr, hL, hX] at hM
               replace hL := And.intro hP hM
               clear hP hM
               try simp only [go_sem, simprocAttr, hL, hX]
               repeat' refine And.intro (by first | exact f1.1 | exact f2.1 | exact f3.1 | exact f4 | assumption | omega) ?_
               refine zL [0, 2, 4, 8, 9, 13, 14, 100] ?_
               clear hL
               intro ρ hL
               refine grp_orN (tc := 100) (tv := 104) (td := 105) (v := ?v3) 4 rfl [0, 2, 4, 8, 9, 13, 14] hL.2.2.2.2.2.2.2 rfl (fun hb K1 hK1 => ?run) (fun hb => ?skip) (fun ρ hP hM => ?_)
               case skip => exact skA (want := false) (b := _) (by rw [hb]; rfl) hL.2.2.2.2.2.2.2 rfl
               case run =>
                simp only [List.take_succ_cons, List.take_zero]
                rw [hb] at hL
                try simp only [go_sem, simprocAttr, hL, hX]
                repeat' refine And.intro (by first | exact f1.1 | exact f2.1 | exact f3.1 | exact f4 | assumption | omega) ?_
                refine zF (sat_laws_eqIntS (corRun l s ps).2 (corRun l s ps).2 (corRun l s ps).2.length (corRun l s ps).2.length (Nat.le_trans f5 (by decide))) ?_
                refine hK1 _ ?_ ?_ ?_ <;> simp only [go_sem, simprocAttr, hL, hX] <;> exact rfl
               simp only [List.drop_succ_cons, List.drop_zero]
               try simp only [go_sem, simprocAttr, hL, hX] at hM
               replace hL := And.intro hP hM
               clear hP hM
               try simp only [go_sem, simprocAttr, hL, hX]
               repeat' refine And.intro (by first | exact f1.1 | exact f2.1 | exact f3.1 | exact f4 | assumption | omega) ?_
               refine zEG [0, 1, 2, 3, 4, 5, 6, 7, 8, 9, 10, 11, 12, 13, 14] [0, 2, 4, 8, 9, 13, 14, 105] ?_
               clear hK K hL
               refine zC ?_ ?_
               · intro c8
                 first | done | (simp at c8; done) | (simp at c8; omega) | omega
               · intro c8
                 intro ρ hL
                 refine awl_skip ?_
                 revert ρ hL
                 refine zG [0, 1, 2, 3, 4, 5, 6, 7, 8, 9, 10, 11, 12, 13, 14] [0, 2, 4, 8, 9, 13, 14, 16] ?_
                 intro ρ hL
                 refine zA ?_
                 intro K hK
                 refine zFI [9, 10, 11, 12, 13] (sat_laws_markCore (corRun l s ps).1 1 f4 (by decide)) ?_
                 refine zEG [0, 1, 2, 3, 4, 5, 6, 7, 8, 9, 10, 11, 12, 13, 14] [0, 2, 4, 8, 9, 13, 14, 16] ?_
                 clear hK K hL
                 intro ρ hL
                 refine zA ?_
                 intro K hK
                 refine zFI [14] (sat_laws_markIntS _ _ _ ?hp0 ?hp1) ?_
                 case hp0 => first | exact f1.1 | exact f2.1 | exact f3.1 | exact f4 | assumption | omega
                 case hp1 => first | exact f1.1 | exact f2.1 | exact f3.1 | exact f4 | assumption | omega
                 refine zEG [0, 1, 2, 3, 4, 5, 6, 7, 8, 9, 10, 11, 12, 13, 14] [0, 2, 4, 8, 9, 13, 14, 16] ?_
                 clear hK K hL
                 refine zG [0, 1, 2, 3, 4, 5, 6, 7, 8, 9, 10, 11, 12, 13, 14] [0, 2, 4, 8, 9, 13, 14, 16, 17] ?_
                 intro ρ hL
                 refine zA ?_
                 intro K hK
                 refine zF (sat_laws_heldCore (corRun l s ps).1 1 f4 (by decide)) ?_
                 refine zEG [0, 1, 2, 3, 4, 5, 6, 7, 8, 9, 10, 11, 12, 13, 14] [0, 2, 4, 8, 9, 13, 14, 16, 17] ?_
                 clear hK K hL
                 refine zG [0, 1, 2, 3, 4, 5, 6, 7, 8, 9, 10, 11, 12, 13, 14] [0, 2, 4, 8, 9, 13, 14, 16, 17, 116] ?_
                 refine zC ?_ ?_
                 · intro c9
                   first | done | (simp at c9; done) | (simp at c9; omega) | omega
                 · intro c9
                   intro ρ hL
                   refine awl_skip ?_
                   refine zA ?_
                   intro K hK
                   refine zF (sat_laws_heldIntS (corRun l s ps).2.length (1 + ((corRun l s ps).1.cost : Nat)) (corRun l s ps).2.length (Nat.le_trans f5 (by decide)) (by omega)) ?_
                   refine zEG [0, 1, 2, 3, 4, 5, 6, 7, 8, 9, 10, 11, 12, 13, 14] [0, 2, 4, 8, 9, 13, 14, 16, 17] ?_
                   clear hK K hL
                   refine zG [0, 1, 2, 3, 4, 5, 6, 7, 8, 9, 10, 11, 12, 13, 14] [0, 2, 4, 8, 9, 13, 14, 16, 17, 121] ?_
                   refine zC ?_ ?_
                   · intro c10
                     first | done | (simp at c10; done) | (simp at c10; omega) | omega
                   · intro c10
                     intro ρ hL
                     refine awl_skip ?_
                     revert ρ hL
                     refine zG [0, 1, 2, 3, 4, 5, 6, 7, 8, 9, 10, 11, 12, 13, 14] [0, 2, 4, 8, 9, 13, 14, 16, 124] ?_
                     refine zC ?_ ?_
                     · intro c11
                       first | done | (simp at c11; done) | (simp at c11; omega) | omega
                     · intro c11
                       intro ρ hL
                       refine awl_skip ?_
                       refine zAD [0, 1, 0, 7, 0, 31, 63, 127, 255, 255, 0, 1535, 4095] ?_
                       intro K hK
                       refine zFD [0, 1, 0, 7, 0, 31, 63, 127, 255, 255, 0, 1535, 4095] (sat_laws_toInsS _ ?hp0) ?_
                       case hp0 => first | exact f1.1 | exact f2.1 | exact f3.1 | exact f4 | assumption | omega
                       refine zFD [0, 1, 0, 7, 0, 31, 63, 127, 255, 255, 0, 1535, 4095] (sat_laws_toState _ ?hp0) ?_
                       case hp0 => first | exact f1.1 | exact f2.1 | exact f3.1 | exact f4 | assumption | omega
                       refine zFD [0, 1, 0, 7, 0, 31, 63, 127, 255, 255, 0, 1535, 4095] (sat_laws_toPickS _ ?hp0) ?_
                       case hp0 => first | exact f1.1 | exact f2.1 | exact f3.1 | exact f4 | assumption | omega
                       refine zFD [0, 1, 0, 7, 0, 31, 63, 127, 255, 255, 0, 1535, 4095] (sat_impl_CoreRun _ _ _ ?hp0 ?hp1 ?hp2) ?_
                       case hp0 => first | exact f1.1 | exact f2.1 | exact f3.1 | exact f4 | assumption | omega
                       case hp1 => first | exact f1.1 | exact f2.1 | exact f3.1 | exact f4 | assumption | omega
                       case hp2 => first | exact f1.1 | exact f2.1 | exact f3.1 | exact f4 | assumption | omega
                       refine zEG [1, 2, 3, 4, 5, 6, 7, 8, 9, 10, 11, 12, 13, 14, 26, 20, 21, 22, 23, 24, 25] [8, 9, 13, 14, 16, 18, 19] ?_
                       clear hK K hL
                       intro ρ hL
                       refine zA ?_
                       intro K hK
                       refine zF (sat_laws_eqCore (corRun l s ps).1 (corRun l s ps).1 f4) ?_
                       refine zL [9, 13, 14, 16, 19, 139] ?_
                       clear hL
                       intro ρ hL
                       refine grp_orN (tc := 139) (tv := 143) (td := 144) (v := ?v4) 4 rfl [13, 14, 16] hL.2.2.2.2.2 rfl (fun hb K1 hK1 => ?run) (fun hb => ?skip) (fun ρ hP hM => ?_)
                       case skip => exact skA (want := false) (b := _) (by rw [hb]; rfl) hL.2.2.2.2.2 rfl
                       case run =>
                        simp only [List.take_succ_cons, List.take_zero]
                        rw [hb] at hL
                        try simp only [go_sem, simprocAttr, hL, hX]
                        repeat' refine And.intro (by first | exact f1.1 | exact f2.1 | exact f3.1 | exact f4 | assumption | omega) ?_
                        refine zF (sat_laws_eqIntS (corRun l s ps).2 (corRun l s ps).2 (corRun l s ps).2.length (corRun l s ps).2.length (Nat.le_trans f5 (by decide))) ?_
                        refine hK1 _ ?_ ?_ ?_ <;> simp only [go_sem, simprocAttr, hL, hX] <;> exact rfl
                       simp only [List.drop_succ_cons, List.drop_zero]
                       try simp only [go_sem, simprocAttr, hL, hX] at hM
                       replace hL := And.intro hP hM
                       clear hP hM
                       try simp only [go_sem, simprocAttr, hL, hX]
                       repeat' refine And.intro (by first | exact f1.1 | exact f2.1 | exact f3.1 | exact f4 | assumption | omega) ?_
                       refine zEG [7, 8, 9, 10, 11, 12, 13] [13, 14, 16, 144] ?_
                       clear hK K hL
                       refine zC ?_ ?_
                       · intro c12
                         first | done | (simp at c12; done) | (simp at c12; omega) | omega
                       · intro c12
                         intro ρ hL
                         refine awl_skip ?_
                         revert ρ hL
                         refine zG [0, 1, 2, 3, 4, 5, 6] [13, 14, 16, 17] ?_
                         intro ρ hL
                         refine zA ?_
                         intro K hK
                         refine zF (sat_laws_heldCore (corRun l s ps).1 1 f4 (by decide)) ?_
                         refine zEG [6] [14, 16, 17] ?_
                         clear hK K hL
                         refine zG [0] [14, 16, 17, 149] ?_
                         refine zC ?_ ?_
                         · intro c13
                           first | done | (simp at c13; done) | (simp at c13; omega) | omega
                         · intro c13
                           intro ρ hL
                           refine awl_skip ?_
                           refine zA ?_
                           intro K hK
                           refine zF (sat_laws_heldIntS (corRun l s ps).2.length (1 + ((corRun l s ps).1.cost : Nat)) (corRun l s ps).2.length (Nat.le_trans f5 (by decide)) (by omega)) ?_
                           refine zEG [] [16, 17] ?_
                           clear hK K hL
                           refine zG [] [16, 17, 154] ?_
                           refine zC ?_ ?_
                           · intro c14
                             first | done | (simp at c14; done) | (simp at c14; omega) | omega
                           · intro c14
                             intro ρ hL
                             refine awl_skip ?_
                             revert ρ hL
                             refine zG [] [157] ?_
                             refine zC ?_ ?_
                             · intro c15
                               first | done | (simp at c15; done) | (simp at c15; omega) | omega
                             · intro c15
                               intro ρ hL
                               refine awl_skip ?_
                               revert ρ hL
                               refine zG [] [6] ?_
                               refine zR ?_
                               try simp only [go_sem, simprocAttr]
                               all_goals (rfl)
end
end Go.Proofs.YtokjjeibagmgpaaGreat.AM
