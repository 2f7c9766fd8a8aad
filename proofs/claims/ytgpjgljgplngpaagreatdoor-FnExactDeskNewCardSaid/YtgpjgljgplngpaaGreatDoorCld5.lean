/- The law DeskNew. No conditions but those each theorem bears. -/
import Derived.Test.YtgpjgljgplngpaaGreatDoorFa
import Derived.Test.YtgpjgljgplngpaaGreatDoorCa87
import Derived.Test.YtgpjgljgplngpaaGreatDoorCa88
set_option linter.unusedSimpArgs false
set_option linter.unusedVariables false
namespace Go.Proofs.YtgpjgljgplngpaaGreatDoor.AM
open Go
set_option maxHeartbeats 8000000
set_option maxRecDepth 100000

section
attribute [local go_sem] bt_size Mem.marked Stt.marked Cor.markedQ Dsk.marked mrow_len marks_len
theorem sat_laws_FnExactDeskNew (l : Bs)  : Sat Tryz.prog 3 [.str (bt l)] [] (.bool true) [] := by
 have hX := trivial
 refine sat_mk [.tmp 2] 0 66 Tryz.call3 Tryz.func3 Tryz.ntmps3 rfl rfl rfl rfl rfl ?_
 refine zI [0] ?_
 refine zG [] [0] ?_
 refine zG [] [0, 13] ?_
 refine zC ?_ ?_
 · intro c1
   refine zG [] [2] ?_
   refine zR ?_
   try simp only [go_sem, simprocAttr]
   all_goals (rfl)
 · intro c1
   have hlm : l.length ≤ 1048576 := by omega
   have hdf := dskNew_fit (l := l)
   intro ρ hL
   refine awl_skip ?_
   refine zA ?_
   intro K hK
   refine zF (sat_spec_DeskNew l hlm) ?_
   refine zEG [7, 0, 1, 2, 3, 4, 5, 6] [0, 3, 4] ?_
   clear hK K hL
   intro ρ hL
   refine zA ?_
   intro K hK
   refine zF (sat_impl_DeskNew l hlm) ?_
   refine zEG [0, 1, 2, 3, 4, 5, 6, 7, 15, 8, 9, 10, 11, 12, 13, 14] [0, 3, 4, 5, 6] ?_
   clear hK K hL
   intro ρ hL
   refine zA ?_
   intro K hK
   refine zF (sat_laws_eqDesk (dskNew l).1 (dskNew l).1 hdf) ?_
   refine zL [0, 3, 4, 5, 6, 28] ?_
   clear hL
   intro ρ hL
   refine grp_orN (tc := 28) (tv := 31) (td := 32) (v := ?v1) 3 rfl [0, 3, 4, 5] hL.2.2.2.2.2 rfl (fun hb K1 hK1 => ?run) (fun hb => ?skip) (fun ρ hP hM => ?_)
   case skip => exact skA (want := false) (b := _) (by rw [hb]; rfl) hL.2.2.2.2.2 rfl
   case run =>
    simp only [List.take_succ_cons, List.take_zero]
    rw [hb] at hL
    try simp only [go_sem, simprocAttr, hL, hX]
    repeat' refine And.intro (by first | assumption | omega) ?_
    refine hK1 _ ?_ ?_ ?_ <;> simp only [go_sem, simprocAttr, hL, hX] <;> exact rfl
   simp only [List.drop_succ_cons, List.drop_zero]
   try simp only [go_sem, simprocAttr, hL, hX] at hM
   replace hL := And.intro hP hM
   clear hP hM
   try simp only [go_sem, simprocAttr, hL, hX]
   repeat' refine And.intro (by first | assumption | omega) ?_
   refine zEG [0, 1, 2, 3, 4, 5, 6, 7, 8, 9, 10, 11, 12, 13, 14, 15] [0, 3, 4, 5, 32] ?_
   clear hK K hL
   refine zC ?_ ?_
   · intro c2
     first | done | (simp at c2; done) | (simp at c2; omega) | omega
   · intro c2
     intro ρ hL
     refine awl_skip ?_
     revert ρ hL
     refine zG [0, 1, 2, 3, 4, 5, 6, 7, 8, 9, 10, 11, 12, 13, 14, 15] [0, 3, 4, 5, 7] ?_
     intro ρ hL
     refine zA ?_
     intro K hK
     refine zFI [9, 10, 11, 12, 13, 14, 15] (sat_laws_markDesk (dskNew l).1 1 hdf (by decide)) ?_
     refine zEG [0, 1, 2, 3, 4, 5, 6, 7, 8, 9, 10, 11, 12, 13, 14, 15] [0, 3, 4, 5, 7] ?_
     clear hK K hL
     refine zG [0, 1, 2, 3, 4, 5, 6, 7, 8, 9, 10, 11, 12, 13, 14, 15] [0, 3, 4, 5, 7, 8] ?_
     intro ρ hL
     refine zA ?_
     intro K hK
     refine zF (sat_laws_heldDesk (dskNew l).1 1 hdf (by decide)) ?_
     refine zEG [0, 1, 2, 3, 4, 5, 6, 7, 8, 9, 10, 11, 12, 13, 14, 15] [0, 3, 4, 5, 7, 8] ?_
     clear hK K hL
     refine zG [0, 1, 2, 3, 4, 5, 6, 7, 8, 9, 10, 11, 12, 13, 14, 15] [0, 3, 4, 5, 7, 8, 40] ?_
     refine zC ?_ ?_
     · intro c3
       first | done | (simp at c3; done) | (simp at c3; omega) | omega
     · intro c3
       intro ρ hL
       refine awl_skip ?_
       revert ρ hL
       refine zG [0, 1, 2, 3, 4, 5, 6, 7, 8, 9, 10, 11, 12, 13, 14, 15] [0, 3, 4, 5, 7, 43] ?_
       refine zC ?_ ?_
       · intro c4
         first | done | (simp at c4; done) | (simp at c4; omega) | omega
       · intro c4
         intro ρ hL
         refine awl_skip ?_
         refine zA ?_
         intro K hK
         refine zF (sat_impl_DeskNew l hlm) ?_
         refine zEG [0, 1, 2, 3, 4, 5, 6, 7, 8, 9, 10, 11, 12, 13, 14, 15, 23, 16, 17, 18, 19, 20, 21, 22] [3, 4, 5, 7, 9, 10] ?_
         clear hK K hL
         intro ρ hL
         refine zA ?_
         intro K hK
         refine zF (sat_laws_eqDesk (dskNew l).1 (dskNew l).1 hdf) ?_
         refine zL [4, 5, 7, 10, 53] ?_
         clear hL
         intro ρ hL
         refine grp_orN (tc := 53) (tv := 56) (td := 57) (v := ?v2) 3 rfl [5, 7] hL.2.2.2.2 rfl (fun hb K1 hK1 => ?run) (fun hb => ?skip) (fun ρ hP hM => ?_)
         case skip => exact skA (want := false) (b := _) (by rw [hb]; rfl) hL.2.2.2.2 rfl
         case run =>
          simp only [List.take_succ_cons, List.take_zero]
          rw [hb] at hL
          try simp only [go_sem, simprocAttr, hL, hX]
          repeat' refine And.intro (by first | assumption | omega) ?_
          refine hK1 _ ?_ ?_ ?_ <;> simp only [go_sem, simprocAttr, hL, hX] <;> exact rfl
         simp only [List.drop_succ_cons, List.drop_zero]
         try simp only [go_sem, simprocAttr, hL, hX] at hM
         replace hL := And.intro hP hM
         clear hP hM
         try simp only [go_sem, simprocAttr, hL, hX]
         repeat' refine And.intro (by first | assumption | omega) ?_
         refine zEG [8, 9, 10, 11, 12, 13, 14, 15] [5, 7, 57] ?_
         clear hK K hL
         refine zC ?_ ?_
         · intro c5
           first | done | (simp at c5; done) | (simp at c5; omega) | omega
         · intro c5
           intro ρ hL
           refine awl_skip ?_
           revert ρ hL
           refine zG [0, 1, 2, 3, 4, 5, 6, 7] [5, 7, 8] ?_
           intro ρ hL
           refine zA ?_
           intro K hK
           refine zF (sat_laws_heldDesk (dskNew l).1 1 hdf (by decide)) ?_
           refine zEG [] [7, 8] ?_
           clear hK K hL
           refine zG [] [7, 8, 62] ?_
           refine zC ?_ ?_
           · intro c6
             first | done | (simp at c6; done) | (simp at c6; omega) | omega
           · intro c6
             intro ρ hL
             refine awl_skip ?_
             revert ρ hL
             refine zG [] [65] ?_
             refine zC ?_ ?_
             · intro c7
               first | done | (simp at c7; done) | (simp at c7; omega) | omega
             · intro c7
               intro ρ hL
               refine awl_skip ?_
               revert ρ hL
               refine zG [] [2] ?_
               refine zR ?_
               try simp only [go_sem, simprocAttr]
               all_goals (rfl)
end
end Go.Proofs.YtgpjgljgplngpaaGreatDoor.AM
