/- The law Pulled, of what is drawn. No conditions but those each theorem bears. -/
import Derived.Test.YteojcehneipgdaaGreatFa
import Derived.Test.YteojcehneipgdaaGreatSp27
import Derived.Test.YteojcehneipgdaaGreatCa59
import Derived.Test.YteojcehneipgdaaGreatCa8
set_option linter.unusedSimpArgs false
set_option linter.unusedVariables false
namespace Go.Proofs.YteojcehneipgdaaGreat.AM
open Go
set_option maxHeartbeats 8000000
set_option maxRecDepth 100000

section
attribute [local go_sem] word_deq decide_true
theorem sat_laws_FnPulled (bs : List UInt8) (hs : bs.length ≤ 9223372036854775807) : Sat Tryz.prog 6 [.sl bs.length bs.length (bytesV bs)] [] (.bool true) [] := by
 have hX := trivial
 refine sat_mk [.tmp 2] 0 134 Tryz.call6 Tryz.func6 Tryz.ntmps6 rfl rfl rfl rfl rfl ?_
 refine zI [0] ?_
 refine zG [] [0] ?_
 intro ρ hL
 refine zA ?_
 intro K hK
 refine zF (sat_laws_big _) ?_
 refine zEG [] [0, 11] ?_
 clear hK K hL
 refine zC ?_ ?_
 · intro c1
   refine zG [] [2] ?_
   refine zR ?_
   try simp only [go_sem, simprocAttr]
   all_goals (rfl)
 · intro c1
   have hb : bs.length ≤ 1048576 := by omega
   intro ρ hL
   refine awl_skip ?_
   obtain ⟨l, k, rs, ws, gs, p, o, g, hk9, hs1⟩ := sat_spec_DrawPull bs hb
   obtain ⟨hl, hsc, hcr, hcw, hci⟩ := hk9
   have hl9 : l.length ≤ 1048576 := by omega
   have hf := smallC_fit hsc
   have hq1 := hcr.1
   have hq2 := hcw.1
   have hq3 := hci.1
   have hd9 := pull_fit (l := l) hf
   replace hX := And.intro hq1 (And.intro hq2 (And.intro hq3 hX))
   refine zA ?_
   intro K hK
   refine zFJ [] (hs1) ?_
   refine zEG [0, 6, 1, 2, 3, 4, 5] [3, 4] ?_
   clear hK K hL
   intro ρ hL
   refine zA ?_
   intro K hK
   refine zF (sat_impl_Pull l k hl9 hf) ?_
   refine zEG [0, 1, 2, 3, 4, 5, 6, 12, 7, 8, 9, 10, 11] [3, 4, 5, 6] ?_
   clear hK K hL
   intro ρ hL
   refine zA ?_
   intro K hK
   refine zF (sat_spec_Pull l k hl9 hf) ?_
   refine zEG [1, 2, 3, 4, 5, 6, 7, 8, 9, 10, 11, 12, 18, 13, 14, 15, 16, 17] [4, 5, 6, 7, 8] ?_
   clear hK K hL
   intro ρ hL
   refine zA ?_
   intro K hK
   refine zEG [0, 1, 2, 3, 4, 5, 6, 7, 8, 9, 10, 11, 12, 13, 14, 15, 16, 17] [4, 5, 6, 7, 54] ?_
   clear hK K hL
   refine zQ ?_ ?_
   · intro c2
     try simp only [cnd] at c2
     first | done | cases c2 | (simp at c2)
   · intro c2
     try simp only [cnd] at c2
     intro ρ hL
     refine awl_skip ?_
     refine zA ?_
     intro K hK
     refine zF (sat_spec_CoreOk k hf) ?_
     refine zEG [0, 1, 2, 3, 4, 5, 6, 7, 8, 9, 10, 11, 12, 13, 14, 15, 16, 17] [4, 5, 6, 7, 57] ?_
     clear hK K hL
     refine zC ?_ ?_
     · intro c3
       refine zG [] [2] ?_
       refine zR ?_
       try simp only [go_sem, simprocAttr]
       all_goals (rw [pull_no c3]; rfl)
     · intro c3
       have hok := c3
       intro ρ hL
       refine awl_skip ?_
       revert ρ hL
       refine zG [0, 1, 2, 3, 4, 5, 6, 7, 8, 9, 10, 11, 12, 13, 14, 15, 16, 17] [4, 5, 7, 64] ?_
       refine zC ?_ ?_
       · intro c4
         intro ρ hL
         refine zA ?_
         intro K hK
         refine zL [4, 5, 72] ?_
         clear hL
         intro ρ hL
         refine grp_andN (tc := 72) (tv := 77) (td := 78) (v := ?v1) 5 rfl [] hL.2.2 rfl (fun hb K1 hK1 => ?run) (fun hb => ?skip) (fun ρ hP hM => ?_)
         case skip => exact skA (want := true) (b := _) (by rw [hb]; rfl) hL.2.2 rfl
         case run =>
          simp only [List.take_succ_cons, List.take_zero]
          rw [hb] at hL
          try simp only [go_sem, simprocAttr, hL, hX]
          repeat' refine And.intro (by first | rfl | omega | (simp; done)) ?_
          refine zF (sat_impl_Alike (pull l k).1.s k.s hd9.1) ?_
          refine hK1 _ ?_ ?_ ?_ <;> simp only [go_sem, simprocAttr, hL, hX] <;> exact rfl
         simp only [List.drop_succ_cons, List.drop_zero]
         clear hM hL
         have hL := hP
         clear hP
         try simp only [go_sem, simprocAttr, hL, hX]
         repeat' refine And.intro (by first | rfl | omega | (simp; done)) ?_
         refine zEG [] [2] ?_
         clear hK K hL
         refine zR ?_
         try simp only [go_sem, simprocAttr]
         all_goals (rw [pull_same hok c4, alike_refl]; simp)
       · intro c4
         obtain ⟨x, hx1, hx2, hx3, hx4⟩ := pull_yes hok c4
         have hDl : (pull l k).1.rob.length = k.rob.length + 1 := by rw [hx1]; simp
         have hlt : k.rob.length < (pull l k).1.rob.length := by omega
         have hX9 : ((pull l k).1.rob.getD k.rob.length noEnt) = x := by rw [hx1]; simp
         have hr12 := hsc.2.1
         have wl : IntKind.i64.wrap (((pull l k).1.rob.length : Int) - 1) = (k.rob.length : Int) := by rw [wrap64 (by omega)]; omega
         replace hX := And.intro hlt (And.intro wl hX)
         intro ρ hL
         refine awl_skip ?_
         revert ρ hL
         refine zG [0, 1, 2, 3, 4, 5, 6, 7, 8, 9, 10, 11, 12, 13, 14, 15, 16, 17, 18] [4, 5, 7, 9] ?_
         intro ρ hL
         refine awl_seq ?_
         have kC : corOk (pull l k).1 = true := pull_ok hok
         have wk : IntKind.i64.wrap ((k.rob.length : Int) + 1) = (k.rob.length : Int) + 1 := wrap64 (by omega)
         have kD : decide (((pull l k).1.rob.length : Int) = (k.rob.length : Int) + 1) = true := decide_eq_true (by omega)
         have kA : alike (pull l k).1.s k.s = true := by rw [hx2, alike_refl]
         have kP : decide (((pull l k).1.rob.getD k.rob.length noEnt).pc = k.next) = true := decide_eq_true (by rw [hX9, hx3])
         have kQ : (((pull l k).1.rob.getD k.rob.length noEnt).done == !decide (((pull l k).1.rob.getD k.rob.length noEnt).e.trap = 0)) = true := by rw [hX9, hx4]; simp
         replace hX := And.intro kC (And.intro wk (And.intro kD (And.intro kA (And.intro kP (And.intro kQ hX)))))
         have j1 := hL
         refine awl_regDJ mixed _ rfl (fun H0 σ G => (σ 2 = .bool true) ∧ G = H0) (fun K hK => ?inner1) (fun ρ G hJ => ?after1)
         case inner1 =>
          try simp only [go_sem, simprocAttr, hL, hX]
          repeat' refine And.intro (by first | omega | (exact ⟨[0, 1, 3, 7, 15, 31, 7, 71, 199, 455, 1023, 2047, 4095, 8191, 16383, 8191, 40959, 131071, 262143, 524287, 1048575, 2097151, 1048575, 5242879, 16777215, 33554431, 67108863, 134217727, 268435455, 134217727, 671088639, 1744830463, 3892314111, 8589934591, 17179869183, 34359738367, 68719476735, 68719476735, 206158430207, 68719476735, 618475290623, 1717986918399, 3917010173951, 8727373545471, 17523466567679, 35184372088831, 70368744177663, 140737488355327], by kernel_rfl⟩) | kernel_rfl) ?_
          refine zFD [0, 1, 3, 7, 15, 31, 7, 71, 199, 455, 1023, 2047, 4095, 8191, 16383, 8191, 40959, 131071, 262143, 524287, 1048575, 2097151, 1048575, 5242879, 16777215, 33554431, 67108863, 134217727, 268435455, 134217727, 671088639, 1744830463, 3892314111, 8589934591, 17179869183, 34359738367, 68719476735, 68719476735, 206158430207, 68719476735, 618475290623, 1717986918399, 3917010173951, 8727373545471, 17523466567679, 35184372088831, 70368744177663, 140737488355327] (sat_impl_CoreOk (pull l k).1 hd9) ?_
          refine zFD [0, 1, 3, 7, 15, 31, 7, 71, 199, 455, 1023, 2047, 4095, 8191, 16383, 8191, 40959, 131071, 262143, 524287, 1048575, 2097151, 1048575, 5242879, 16777215, 33554431, 67108863, 134217727, 268435455, 134217727, 671088639, 1744830463, 3892314111, 8589934591, 17179869183, 34359738367, 68719476735, 68719476735, 206158430207, 68719476735, 618475290623, 1717986918399, 3917010173951, 8727373545471, 17523466567679, 35184372088831, 70368744177663, 140737488355327] (sat_impl_Alike (pull l k).1.s k.s hd9.1) ?_
          exact hK _ _ ⟨(by simp only [go_sem, simprocAttr, hL, hX, j1]; first | done | rfl), (by first | rfl | (simp only [hX]; done) | (simp only [hX]; rfl))⟩
         case after1 =>
          clear hL
          obtain ⟨hL, hG⟩ := hJ
          subst hG
          revert ρ hL
          refine zR ?_
          try simp only [go_sem, simprocAttr]
          all_goals (rfl)
end
end Go.Proofs.YteojcehneipgdaaGreat.AM
