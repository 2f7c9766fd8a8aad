/- The law OutOrder. No conditions but those each theorem bears. -/
import Derived.Test.YtokjjeibagmgpaaGreatFa
import Derived.Test.YtokjjeibagmgpaaGreatM5
import Derived.Test.YtokjjeibagmgpaaGreatCa31
import Derived.Test.YtokjjeibagmgpaaGreatCa42
set_option linter.unusedSimpArgs false
set_option linter.unusedVariables false
namespace Go.Proofs.YtokjjeibagmgpaaGreat.AM
open Go
set_option maxHeartbeats 8000000
set_option maxRecDepth 100000

section
attribute [local go_sem] Mem.marked Stt.marked mrow_len
theorem sat_laws_FnExactOutOrder (l : List Ins) (s : Stt) (a : Int) (b : Int) (hl : l.length ≤ 9223372036854775807) (hs : s.sm) : Sat Tryz.prog 3 [.sl l.length l.length (rows l), .agg s.cells, .int .i64 a, .int .i64 b] [] (.bool true) [] := by
 have hX := trivial
 refine sat_mk [.tmp 8] 0 129 Tryz.call3 Tryz.func3 Tryz.ntmps3 rfl rfl rfl rfl rfl ?_
 refine zI [0, 1, 2, 3] ?_
 refine zG [0] [0, 2, 3, 5] ?_
 refine zG [0] [0, 2, 3, 5, 9] ?_
 intro ρ hL
 refine zA ?_
 intro K hK
 refine zF (sat_laws_szInsS l 1048576 hl ⟨by decide, by decide⟩) ?_
 refine zEG [0] [0, 2, 3, 5, 9] ?_
 clear hK K hL
 refine zG [0] [0, 2, 3, 5, 9, 25] ?_
 refine zC ?_ ?_
 · intro c1
   refine zG [] [8] ?_
   refine zR ?_
   try simp only [go_sem, simprocAttr]
   all_goals (rfl)
 · intro c1
   have f1 := szL_ok (l := 1048576) ⟨by decide, by decide⟩ c1
   have f1a := f1.1
   intro ρ hL
   refine awl_skip ?_
   refine zA ?_
   intro K hK
   refine zF (sat_laws_szState s (szL 1048576 l.length) hs f1.2) ?_
   refine zEG [0] [0, 2, 3, 5, 9] ?_
   clear hK K hL
   refine zG [0] [0, 2, 3, 5, 30] ?_
   refine zC ?_ ?_
   · intro c2
     refine zG [] [8] ?_
     refine zR ?_
     try simp only [go_sem, simprocAttr]
     all_goals (rfl)
   · intro c2
     have f2 := szS_ok f1.2 c2
     have f3 := outO_fit (l := l) (a := a) (b := b) f2.1
     intro ρ hL
     refine awl_skip ?_
     refine zAD [0, 1, 0, 7, 0, 0, 63, 127, 255, 255, 0, 1535, 4095] ?_
     intro K hK
     refine zFD [0, 1, 0, 7, 0, 0, 63, 127, 255, 255, 0, 1535, 4095] (sat_laws_toInsS _ ?hp0) ?_
     case hp0 => first | exact f1.1 | exact f2.1 | exact f3 | assumption | omega
     refine zFD [0, 1, 0, 7, 0, 0, 63, 127, 255, 255, 0, 1535, 4095] (sat_laws_toState _ ?hp0) ?_
     case hp0 => first | exact f1.1 | exact f2.1 | exact f3 | assumption | omega
     refine zFD [0, 1, 0, 7, 0, 0, 63, 127, 255, 255, 0, 1535, 4095] (sat_spec_OutOrder _ _ _ _ ?hp0 ?hp1) ?_
     case hp0 => first | exact f1.1 | exact f2.1 | exact f3 | assumption | omega
     case hp1 => first | exact f1.1 | exact f2.1 | exact f3 | assumption | omega
     refine zEG [0, 8, 5, 6, 7] [0, 2, 3, 5, 10, 11] ?_
     clear hK K hL
     intro ρ hL
     refine zA ?_
     intro K hK
     refine zF (sat_laws_toInsS _ ?hp0) ?_
     case hp0 => first | exact f1.1 | exact f2.1 | exact f3 | assumption | omega
     refine zEG [0, 1, 2, 3, 4, 5] [0, 2, 3, 5, 10, 11, 12] ?_
     clear hK K hL
     intro ρ hL
     refine zA ?_
     intro K hK
     refine zF (sat_laws_toState _ ?hp0) ?_
     case hp0 => first | exact f1.1 | exact f2.1 | exact f3 | assumption | omega
     refine zEG [0, 1, 2, 3, 4, 5, 9, 6, 7, 8] [0, 2, 3, 5, 10, 11, 12, 13] ?_
     clear hK K hL
     intro ρ hL
     refine zA ?_
     intro K hK
     refine zF (sat_impl_OutOrder _ _ _ _ ?hp0 ?hp1) ?_
     case hp0 => first | exact f1.1 | exact f2.1 | exact f3 | assumption | omega
     case hp1 => first | exact f1.1 | exact f2.1 | exact f3 | assumption | omega
     refine zEG [0, 1, 2, 3, 4, 5, 6, 7, 8, 9, 13, 10, 11, 12] [0, 2, 3, 5, 10, 11, 12, 13, 14, 15] ?_
     clear hK K hL
     intro ρ hL
     refine zA ?_
     intro K hK
     refine zF (sat_laws_eqState (outOrder l s a b).1 (outOrder l s a b).1 f3) ?_
     refine zL [0, 2, 3, 5, 10, 11, 12, 13, 14, 15, 57] ?_
     clear hL
     intro ρ hL
     refine grp_orN (tc := 57) (tv := 60) (td := 61) (v := ?v1) 3 rfl [0, 2, 3, 5, 10, 11, 12, 13, 14, 15] hL.2.2.2.2.2.2.2.2.2.2 rfl (fun hb K1 hK1 => ?run) (fun hb => ?skip) (fun ρ hP hM => ?_)
     case skip => exact skA (want := false) (b := _) (by rw [hb]; rfl) hL.2.2.2.2.2.2.2.2.2.2 rfl
     case run =>
      simp only [List.take_succ_cons, List.take_zero]
      rw [hb] at hL
      try simp only [go_sem, simprocAttr, hL, hX]
      repeat' refine And.intro (by first | exact f1.1 | exact f2.1 | exact f3 | assumption | omega) ?_
      refine hK1 _ ?_ ?_ ?_ <;> simp only [go_sem, simprocAttr, hL, hX] <;> exact rfl
     simp only [List.drop_succ_cons, List.drop_zero]
     try simp only [go_sem, simprocAttr, hL, hX] at hM
     replace hL := And.intro hP hM
     clear hP hM
     try simp only [go_sem, simprocAttr, hL, hX]
     repeat' refine And.intro (by first | exact f1.1 | exact f2.1 | exact f3 | assumption | omega) ?_
     refine zEG [0, 1, 2, 3, 4, 5, 6, 7, 8, 9, 10, 11, 12, 13] [0, 2, 3, 5, 10, 11, 12, 13, 14, 15, 61] ?_
     clear hK K hL
     refine zC ?_ ?_
     · intro c3
       first | done | (simp at c3; done) | (simp at c3; omega) | omega
     · intro c3
       intro ρ hL
       refine awl_skip ?_
       refine zA ?_
       intro K hK
       refine zF (sat_laws_toInsS _ ?hp0) ?_
       case hp0 => first | exact f1.1 | exact f2.1 | exact f3 | assumption | omega
       refine zF (sat_laws_eqInsS _ _ ?hp0) ?_
       case hp0 => first | exact f1.1 | exact f2.1 | exact f3 | assumption | omega
       refine zEG [0, 1, 2, 3, 4, 5, 6, 7, 8, 9, 10, 11, 12, 13] [0, 2, 3, 5, 10, 11, 12, 13, 14, 15, 66] ?_
       clear hK K hL
       refine zC ?_ ?_
       · intro c4
         first | done | (simp at c4; done) | (simp at c4; omega) | omega
       · intro c4
         intro ρ hL
         refine awl_skip ?_
         refine zAD [0, 0, 2, 7, 15] ?_
         intro K hK
         refine zFD [0, 0, 2, 7, 15] (sat_laws_toState _ ?hp0) ?_
         case hp0 => first | exact f1.1 | exact f2.1 | exact f3 | assumption | omega
         refine zFD [0, 0, 2, 7, 15] (sat_laws_eqState s s f2.1) ?_
         refine zEG [0, 1, 2, 3, 4, 5, 6, 7, 8, 9, 10, 11, 12, 13] [0, 2, 3, 5, 10, 11, 12, 13, 14, 15, 71] ?_
         clear hK K hL
         refine zC ?_ ?_
         · intro c5
           first | done | (simp at c5; done) | (simp at c5; omega) | omega
         · intro c5
           intro ρ hL
           refine awl_skip ?_
           revert ρ hL
           refine zG [0, 1, 2, 3, 4, 5, 6, 7, 8, 9, 10, 11, 12, 13] [0, 2, 3, 5, 10, 11, 12, 13, 14, 15, 16] ?_
           intro ρ hL
           refine zA ?_
           intro K hK
           refine zFI [5] (sat_laws_markInsS _ _ _ ?hp0 ?hp1) ?_
           case hp0 => first | exact f1.1 | exact f2.1 | exact f3 | assumption | omega
           case hp1 => first | exact f1.1 | exact f2.1 | exact f3 | assumption | omega
           refine zEG [0, 1, 2, 3, 4, 6, 7, 8, 9, 10, 11, 12, 13] [0, 2, 3, 5, 10, 11, 13, 14, 15, 16] ?_
           clear hK K hL
           intro ρ hL
           refine zA ?_
           intro K hK
           refine zFI [6, 7, 8] (sat_laws_markState s (1 + (5 * l.length : Nat)) f2.1 (by omega)) ?_
           refine zEG [0, 1, 2, 3, 4, 9, 10, 11, 12] [0, 2, 3, 5, 10, 11, 14, 15, 16] ?_
           clear hK K hL
           intro ρ hL
           refine zA ?_
           intro K hK
           refine zL [0, 2, 3, 5, 10, 11, 14, 15, 80] ?_
           clear hL
           intro ρ hL
           refine grp_orN (tc := 80) (tv := 84) (td := 85) (v := ?v2) 4 rfl [0, 2, 3, 5, 10, 11, 14, 15] hL.2.2.2.2.2.2.2.2 rfl (fun hb K1 hK1 => ?run) (fun hb => ?skip) (fun ρ hP hM => ?_)
           case skip => exact skA (want := false) (b := _) (by rw [hb]; rfl) hL.2.2.2.2.2.2.2.2 rfl
           case run =>
            simp only [List.take_succ_cons, List.take_zero]
            rw [hb] at hL
            try simp only [go_sem, simprocAttr, hL, hX]
            repeat' refine And.intro (by first | exact f1.1 | exact f2.1 | exact f3 | assumption | omega) ?_
            refine zF (sat_laws_eqState (outOrder l s a b).1 (outOrder l s a b).1 f3) ?_
            refine hK1 _ ?_ ?_ ?_ <;> simp only [go_sem, simprocAttr, hL, hX] <;> exact rfl
           simp only [List.drop_succ_cons, List.drop_zero]
           try simp only [go_sem, simprocAttr, hL, hX] at hM
           replace hL := And.intro hP hM
           clear hP hM
           try simp only [go_sem, simprocAttr, hL, hX]
           repeat' refine And.intro (by first | exact f1.1 | exact f2.1 | exact f3 | assumption | omega) ?_
           refine zL [0, 2, 3, 5, 10, 11, 14, 15, 86] ?_
           clear hL
           intro ρ hL
           refine grp_orN (tc := 86) (tv := 89) (td := 90) (v := ?v3) 3 rfl [0, 2, 3, 5, 10, 11, 14] hL.2.2.2.2.2.2.2.2 rfl (fun hb K1 hK1 => ?run) (fun hb => ?skip) (fun ρ hP hM => ?_)
           case skip => exact skA (want := false) (b := _) (by rw [hb]; rfl) hL.2.2.2.2.2.2.2.2 rfl
           case run =>
            simp only [List.take_succ_cons, List.take_zero]
            rw [hb] at hL
            try simp only [go_sem, simprocAttr, hL, hX]
            repeat' refine And.intro (by first | exact f1.1 | exact f2.1 | exact f3 | assumption | omega) ?_
            refine hK1 _ ?_ ?_ ?_ <;> simp only [go_sem, simprocAttr, hL, hX] <;> exact rfl
           simp only [List.drop_succ_cons, List.drop_zero]
           try simp only [go_sem, simprocAttr, hL, hX] at hM
           replace hL := And.intro hP hM
           clear hP hM
           try simp only [go_sem, simprocAttr, hL, hX]
           repeat' refine And.intro (by first | exact f1.1 | exact f2.1 | exact f3 | assumption | omega) ?_
           refine zEG [0, 1, 2, 3, 4, 5, 6, 7, 8] [0, 2, 3, 5, 10, 11, 14, 90] ?_
           clear hK K hL
           refine zC ?_ ?_
           · intro c6
             first | done | (simp at c6; done) | (simp at c6; omega) | omega
           · intro c6
             intro ρ hL
             refine awl_skip ?_
             revert ρ hL
             refine zG [0, 1, 2, 3, 4, 5, 6, 7, 8] [0, 2, 3, 5, 10, 11, 14, 17] ?_
             intro ρ hL
             refine zA ?_
             intro K hK
             refine zFI [6, 7, 8] (sat_laws_markState (outOrder l s a b).1 1 f3 (by decide)) ?_
             refine zEG [0, 1, 2, 3, 4, 5, 6, 7, 8] [0, 2, 3, 5, 10, 11, 14, 17] ?_
             clear hK K hL
             refine zG [0, 1, 2, 3, 4, 5, 6, 7, 8] [0, 2, 3, 5, 10, 11, 14, 17, 18] ?_
             intro ρ hL
             refine zA ?_
             intro K hK
             refine zF (sat_laws_heldState (outOrder l s a b).1 1 f3 (by decide)) ?_
             refine zEG [0, 1, 2, 3, 4, 5, 6, 7, 8] [0, 2, 3, 5, 10, 11, 14, 17, 18] ?_
             clear hK K hL
             refine zG [0, 1, 2, 3, 4, 5, 6, 7, 8] [0, 2, 3, 5, 10, 11, 14, 17, 18, 98] ?_
             refine zC ?_ ?_
             · intro c7
               first | done | (simp at c7; done) | (simp at c7; omega) | omega
             · intro c7
               intro ρ hL
               refine awl_skip ?_
               revert ρ hL
               refine zG [0, 1, 2, 3, 4, 5, 6, 7, 8] [0, 2, 3, 5, 10, 11, 14, 17, 101] ?_
               refine zC ?_ ?_
               · intro c8
                 first | done | (simp at c8; done) | (simp at c8; omega) | omega
               · intro c8
                 intro ρ hL
                 refine awl_skip ?_
                 refine zAD [0, 1, 0, 7, 0, 0, 63, 127, 255, 255, 0, 1535, 4095] ?_
                 intro K hK
                 refine zFD [0, 1, 0, 7, 0, 0, 63, 127, 255, 255, 0, 1535, 4095] (sat_laws_toInsS _ ?hp0) ?_
                 case hp0 => first | exact f1.1 | exact f2.1 | exact f3 | assumption | omega
                 refine zFD [0, 1, 0, 7, 0, 0, 63, 127, 255, 255, 0, 1535, 4095] (sat_laws_toState _ ?hp0) ?_
                 case hp0 => first | exact f1.1 | exact f2.1 | exact f3 | assumption | omega
                 refine zFD [0, 1, 0, 7, 0, 0, 63, 127, 255, 255, 0, 1535, 4095] (sat_impl_OutOrder _ _ _ _ ?hp0 ?hp1) ?_
                 case hp0 => first | exact f1.1 | exact f2.1 | exact f3 | assumption | omega
                 case hp1 => first | exact f1.1 | exact f2.1 | exact f3 | assumption | omega
                 refine zEG [1, 2, 3, 4, 5, 6, 7, 8, 16, 13, 14, 15] [10, 11, 14, 17, 19, 20] ?_
                 clear hK K hL
                 intro ρ hL
                 refine zA ?_
                 intro K hK
                 refine zF (sat_laws_eqState (outOrder l s a b).1 (outOrder l s a b).1 f3) ?_
                 refine zL [11, 14, 17, 20, 116] ?_
                 clear hL
                 intro ρ hL
                 refine grp_orN (tc := 116) (tv := 119) (td := 120) (v := ?v4) 3 rfl [14, 17] hL.2.2.2.2 rfl (fun hb K1 hK1 => ?run) (fun hb => ?skip) (fun ρ hP hM => ?_)
                 case skip => exact skA (want := false) (b := _) (by rw [hb]; rfl) hL.2.2.2.2 rfl
                 case run =>
                  simp only [List.take_succ_cons, List.take_zero]
                  rw [hb] at hL
                  try simp only [go_sem, simprocAttr, hL, hX]
                  repeat' refine And.intro (by first | exact f1.1 | exact f2.1 | exact f3 | assumption | omega) ?_
                  refine hK1 _ ?_ ?_ ?_ <;> simp only [go_sem, simprocAttr, hL, hX] <;> exact rfl
                 simp only [List.drop_succ_cons, List.drop_zero]
                 try simp only [go_sem, simprocAttr, hL, hX] at hM
                 replace hL := And.intro hP hM
                 clear hP hM
                 try simp only [go_sem, simprocAttr, hL, hX]
                 repeat' refine And.intro (by first | exact f1.1 | exact f2.1 | exact f3 | assumption | omega) ?_
                 refine zEG [4, 5, 6, 7] [14, 17, 120] ?_
                 clear hK K hL
                 refine zC ?_ ?_
                 · intro c9
                   first | done | (simp at c9; done) | (simp at c9; omega) | omega
                 · intro c9
                   intro ρ hL
                   refine awl_skip ?_
                   revert ρ hL
                   refine zG [0, 1, 2, 3] [14, 17, 18] ?_
                   intro ρ hL
                   refine zA ?_
                   intro K hK
                   refine zF (sat_laws_heldState (outOrder l s a b).1 1 f3 (by decide)) ?_
                   refine zEG [] [17, 18] ?_
                   clear hK K hL
                   refine zG [] [17, 18, 125] ?_
                   refine zC ?_ ?_
                   · intro c10
                     first | done | (simp at c10; done) | (simp at c10; omega) | omega
                   · intro c10
                     intro ρ hL
                     refine awl_skip ?_
                     revert ρ hL
                     refine zG [] [128] ?_
                     refine zC ?_ ?_
                     · intro c11
                       first | done | (simp at c11; done) | (simp at c11; omega) | omega
                     · intro c11
                       intro ρ hL
                       refine awl_skip ?_
                       revert ρ hL
                       refine zG [] [8] ?_
                       refine zR ?_
                       try simp only [go_sem, simprocAttr]
                       all_goals (rfl)
end
end Go.Proofs.YtokjjeibagmgpaaGreat.AM
