/- The law Agree, of what is drawn. No conditions but those each theorem bears. -/
import Derived.Test.YtdifphcihhbjlaaGreatFa
import Derived.Test.YtdifphcihhbjlaaGreatM9
import Derived.Test.YtdifphcihhbjlaaGreatCa65
import Derived.Test.YtdifphcihhbjlaaGreatCa43
import Derived.Test.YtdifphcihhbjlaaGreatCa32o
set_option linter.unusedSimpArgs false
set_option linter.unusedVariables false
namespace Go.Proofs.YtdifphcihhbjlaaGreat.AM
open Go
set_option maxHeartbeats 8000000
set_option maxRecDepth 100000

section
attribute [local go_sem] decide_true
theorem sat_laws_FnAgree (bs : List UInt8) (hs : bs.length ≤ 9223372036854775807) : Sat Tryz.prog 11 [.sl bs.length bs.length (bytesV bs)] [] (.bool true) [] := by
 have hX := trivial
 refine sat_mk [.tmp 2] 0 110 Tryz.call11 Tryz.func11 Tryz.ntmps11 rfl rfl rfl rfl rfl ?_
 refine zI [0] ?_
 refine zG [] [0] ?_
 intro ρ hL
 refine zA ?_
 intro K hK
 refine zF (sat_laws_big _) ?_
 refine zEG [] [0, 19] ?_
 clear hK K hL
 refine zC ?_ ?_
 · intro c1
   refine zG [] [2] ?_
   refine zR ?_
   try simp only [go_sem, simprocAttr]
   all_goals (rfl)
 · intro c1
   have hb : bs.length ≤ 1048576 := by omega
   intro ρ hL
   refine awl_skip ?_
   obtain ⟨l, s, rs, ws, p, o, a, b, hk9, hs1⟩ := sat_spec_DrawAgree bs hb
   obtain ⟨hl, hcr, hcw, hsm⟩ := hk9
   have hf := small_fit hsm
   have hl9 : l.length ≤ 1048576 := by omega
   have hq1 := hcr.1
   have hq2 := hcw.1
   replace hX := And.intro hq1 (And.intro hq2 hX)
   refine zA ?_
   intro K hK
   refine zFJ [] (hs1) ?_
   refine zEG [0, 4, 1, 2, 3] [0, 3, 4, 5, 6] ?_
   clear hK K hL
   intro ρ hL
   refine zA ?_
   intro K hK
   refine zF (sat_impl_OutOrder l s a b hl9 hf) ?_
   refine zEG [0, 1, 2, 3, 4, 8, 5, 6, 7] [0, 3, 4, 5, 6, 7, 8] ?_
   clear hK K hL
   intro ρ hL
   refine zA ?_
   intro K hK
   refine zF (sat_spec_OutOrder l s a b hl9 hf) ?_
   refine zEG [0, 1, 2, 3, 4, 5, 6, 7, 8, 12, 9, 10, 11] [0, 3, 4, 5, 6, 7, 8, 9, 10] ?_
   clear hK K hL
   intro ρ hL
   refine awl_seq (awl_seq ?_)
   have kA : alike (outOrder l s a b).1 (outOrder l s a b).1 = true := alike_refl
   replace hX := And.intro kA hX
   have j1 := hL
   refine awl_regDJ mixed _ rfl (fun H0 σ G => (liveE [0, 3, 4, 5, 6, 7, 8] σ ρ ∧ σ 64 = .bool false) ∧ G = H0) (fun K hK => ?inner1) (fun ρ G hJ => ?after1)
   case inner1 =>
    try simp only [go_sem, simprocAttr, hL, hX]
    repeat' refine And.intro (by first | omega | (exact ⟨[0, 0, 3, 7, 15, 15, 63, 127, 255, 511, 1023, 1023, 1023, 1023, 16383, 1023, 1023, 1023, 1023, 524287, 1048575, 2097151], by kernel_rfl⟩) | kernel_rfl) ?_
    refine zFD [0, 0, 3, 7, 15, 15, 63, 127, 255, 511, 1023, 1023, 1023, 1023, 16383, 1023, 1023, 1023, 1023, 524287, 1048575, 2097151] (sat_impl_Alike (outOrder l s a b).1 (outOrder l s a b).1 (outO_fit hf)) ?_
    refine zFD [0, 0, 3, 7, 15, 15, 63, 127, 255, 511, 1023, 1023, 1023, 1023, 16383, 1023, 1023, 1023, 1023, 524287, 1048575, 2097151] (sat_impl_Agree l s a b hl9 hf) ?_
    refine zFD [0, 0, 3, 7, 15, 15, 63, 127, 255, 511, 1023, 1023, 1023, 1023, 16383, 1023, 1023, 1023, 1023, 524287, 1048575, 2097151] (sat_spec_Agree l s a b hl9 hf) ?_
    exact hK _ _ ⟨⟨(by simp only [go_sem, simprocAttr, hL, hX, j1]), (by simp only [go_sem, simprocAttr, hL, hX, j1]; first | done | rfl)⟩, (by first | rfl | (simp only [hX]; done) | (simp only [hX]; rfl))⟩
   case after1 =>
    clear hL
    obtain ⟨hL, hG⟩ := hJ
    subst hG
    try simp only [go_sem, simprocAttr, j1, hX] at hL
    revert ρ hL
    refine zQ ?_ ?_
    · intro c2
      try simp only [cnd] at c2
      first | done | cases c2 | (simp at c2)
    · intro c2
      try simp only [cnd] at c2
      intro ρ hL
      refine awl_skip ?_
      obtain ⟨l2, s2, rs2, ws2, p2, o2, b2, hk8, hs2⟩ := sat_spec_DrawInOrder bs hb
      obtain ⟨hl2, hcr2, hcw2, hsm2⟩ := hk8
      have hf2 := small_fit hsm2
      have hl29 : l2.length ≤ 1048576 := by omega
      have hq21 := hcr2.1
      have hq22 := hcw2.1
      replace hX := And.intro hq21 (And.intro hq22 hX)
      refine zA ?_
      intro K hK
      refine zFJ [] (hs2) ?_
      refine zEG [0, 1, 2, 3, 4, 5, 6, 7, 8, 13, 17, 14, 15, 16] [3, 4, 5, 6, 7, 8, 11, 12, 13] ?_
      clear hK K hL
      intro ρ hL
      refine zA ?_
      intro K hK
      refine zF (sat_impl_InOrder l2 s2 b2 hl29 hf2) ?_
      refine zEG [0, 1, 2, 3, 4, 5, 6, 7, 8, 9, 10, 11, 12, 13, 17, 14, 15, 16] [3, 4, 5, 6, 7, 8, 11, 12, 13, 14, 15] ?_
      clear hK K hL
      intro ρ hL
      refine zA ?_
      intro K hK
      refine zF (sat_spec_InOrder l2 s2 b2 hl29 hf2) ?_
      refine zEG [0, 1, 2, 3, 4, 5, 6, 7, 8, 14, 15, 16, 17, 21, 18, 19, 20] [3, 4, 5, 6, 7, 8, 14, 15, 16, 17] ?_
      clear hK K hL
      have kB : alike (inOrder l2 s2 b2).1 (inOrder l2 s2 b2).1 = true := alike_refl
      intro ρ hL
      replace hX := And.intro kB hX
      refine zA ?_
      intro K hK
      refine zF (sat_impl_Alike (inOrder l2 s2 b2).1 (inOrder l2 s2 b2).1 (inOrder_fit hf2)) ?_
      refine zEG [0, 1, 2, 3, 4, 5, 6, 7, 8] [3, 4, 5, 6, 7, 8, 93] ?_
      clear hK K hL
      refine zQ ?_ ?_
      · intro c3
        try simp only [cnd] at c3
        first | done | cases c3 | (simp at c3)
      · intro c3
        try simp only [cnd] at c3
        intro ρ hL
        refine awl_skip ?_
        refine zA ?_
        intro K hK
        refine zF (sat_spec_StateOk s hf) ?_
        refine zEG [0, 1, 2, 3, 4, 5, 6, 7, 8] [3, 4, 5, 6, 7, 8, 96] ?_
        clear hK K hL
        refine zC ?_ ?_
        · intro c4
          intro ρ hL
          refine zA ?_
          intro K hK
          refine zL [7, 99] ?_
          clear hL
          intro ρ hL
          refine grp_andN (tc := 99) (tv := 103) (td := 104) (v := ?v1) 4 rfl [] hL.2 rfl (fun hb K1 hK1 => ?run) (fun hb => ?skip) (fun ρ hP hM => ?_)
          case skip => exact skA (want := true) (b := _) (by rw [hb]; rfl) hL.2 rfl
          case run =>
           simp only [List.take_succ_cons, List.take_zero]
           rw [hb] at hL
           try simp only [go_sem, simprocAttr, hL, hX]
           repeat' refine And.intro (by first | rfl | omega | (simp; done)) ?_
           refine hK1 _ ?_ ?_ ?_ <;> simp only [go_sem, simprocAttr, hL, hX] <;> exact rfl
          simp only [List.drop_succ_cons, List.drop_zero]
          clear hM hL
          have hL := hP
          clear hP
          try simp only [go_sem, simprocAttr, hL, hX]
          repeat' refine And.intro (by first | rfl | omega | (simp; done)) ?_
          refine zEG [] [2] ?_
          clear hK K hL
          refine zR ?_
          try simp only [go_sem, simprocAttr]
          all_goals (rw [outO_no c4]; rfl)
        · intro c4
          intro ρ hL
          refine awl_skip ?_
          refine zA ?_
          intro K hK
          refine zF (sat_impl_Agree l s a b hl9 hf) ?_
          refine zEG [] [2] ?_
          clear hK K hL
          refine zR ?_
          try simp only [go_sem, simprocAttr]
          all_goals (rw [agree_yes c4])
end
end Go.Proofs.YtdifphcihhbjlaaGreat.AM
