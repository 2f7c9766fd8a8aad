/- The law Wide, of what is drawn. No conditions but those each theorem bears. -/
import Derived.Test.YtdifphcihhbjlaaGreatFa
import Derived.Test.YtdifphcihhbjlaaGreatM9
import Derived.Test.YtdifphcihhbjlaaGreatCa64
import Derived.Test.YtdifphcihhbjlaaGreatCa42
import Derived.Test.YtdifphcihhbjlaaGreatCa8
set_option linter.unusedSimpArgs false
set_option linter.unusedVariables false
namespace Go.Proofs.YtdifphcihhbjlaaGreat.AM
open Go
set_option maxHeartbeats 8000000
set_option maxRecDepth 100000

section
attribute [local go_sem] decide_true
theorem sat_laws_FnWide (bs : List UInt8) (hs : bs.length ≤ 9223372036854775807) : Sat Tryz.prog 10 [.sl bs.length bs.length (bytesV bs)] [] (.bool true) [] := by
 have hX := trivial
 refine sat_mk [.tmp 2] 0 64 Tryz.call10 Tryz.func10 Tryz.ntmps10 rfl rfl rfl rfl rfl ?_
 refine zI [0] ?_
 refine zG [] [0] ?_
 intro ρ hL
 refine zA ?_
 intro K hK
 refine zF (sat_laws_big _) ?_
 refine zEG [] [0, 13] ?_
 clear hK K hL
 refine zC ?_ ?_
 · intro c1
   refine zG [] [2] ?_
   refine zR ?_
   try simp only [go_sem, simprocAttr]
   all_goals (rfl)
 · intro c1
   have hb : bs.length ≤ 1048576 := by omega
   intro ρ hL
   refine awl_skip ?_
   obtain ⟨l, s, ps, hk9, hs1⟩ := sat_spec_DrawPlayed bs hb
   obtain ⟨⟨hl, hok⟩, hps⟩ := hk9
   have hl9 : l.length ≤ 1048576 := by omega
   have hf := ok_fit hok
   refine zA ?_
   intro K hK
   refine zFJ [] (hs1) ?_
   refine zEG [0, 5, 1, 2, 3] [3, 4] ?_
   clear hK K hL
   intro ρ hL
   refine zA ?_
   intro K hK
   refine zF (sat_impl_OutOrder l s 1 150 hl9 hf) ?_
   refine zEG [0, 1, 2, 3, 4, 8, 5, 6, 7] [3, 4, 6, 7] ?_
   clear hK K hL
   intro ρ hL
   refine zA ?_
   intro K hK
   refine zF (sat_impl_OutOrder l s 6 150 hl9 hf) ?_
   refine zEG [0, 1, 2, 3, 4, 5, 6, 7, 8, 12, 9, 10, 11] [3, 4, 6, 7, 8, 9] ?_
   clear hK K hL
   intro ρ hL
   refine zA ?_
   intro K hK
   refine zF (sat_spec_OutOrder l s 1 150 hl9 hf) ?_
   refine zEG [5, 6, 7, 8, 9, 10, 11, 12] [6, 7, 8, 9, 11] ?_
   clear hK K hL
   refine zG [0, 1, 2, 3, 4, 5, 6, 7] [6, 7, 8, 9, 40] ?_
   refine zQ ?_ ?_
   · intro c2
     try simp only [cnd] at c2
     first | done | cases c2 | (simp at c2)
   · intro c2
     try simp only [cnd] at c2
     intro ρ hL
     refine awl_skip ?_
     refine zA ?_
     intro K hK
     refine zL [6, 7, 8, 9, 44] ?_
     clear hL
     intro ρ hL
     refine grp_andN (tc := 44) (tv := 47) (td := 48) (v := ?v1) 3 rfl [6, 7, 8, 9] hL.2.2.2.2 rfl (fun hb K1 hK1 => ?run) (fun hb => ?skip) (fun ρ hP hM => ?_)
     case skip => exact skA (want := true) (b := _) (by rw [hb]; rfl) hL.2.2.2.2 rfl
     case run =>
      simp only [List.take_succ_cons, List.take_zero]
      rw [hb] at hL
      try simp only [go_sem, simprocAttr, hL, hX]
      repeat' refine And.intro (by first | rfl | omega | (simp; done)) ?_
      refine hK1 _ ?_ ?_ ?_ <;> simp only [go_sem, simprocAttr, hL, hX] <;> exact rfl
     simp only [List.drop_succ_cons, List.drop_zero]
     try simp only [go_sem, simprocAttr, hL, hX] at hM
     replace hL := And.intro hP hM
     clear hP hM
     try simp only [go_sem, simprocAttr, hL, hX]
     repeat' refine And.intro (by first | rfl | omega | (simp; done)) ?_
     refine zEG [0, 1, 2, 3, 4, 5, 6, 7] [6, 7, 8, 9, 48] ?_
     clear hK K hL
     refine zC ?_ ?_
     · intro c3
       intro ρ hL
       refine zA ?_
       intro K hK
       refine zL [6, 8, 52] ?_
       clear hL
       intro ρ hL
       refine grp_andN (tc := 52) (tv := 55) (td := 56) (v := ?v2) 3 rfl [] hL.2.2 rfl (fun hb K1 hK1 => ?run) (fun hb => ?skip) (fun ρ hP hM => ?_)
       case skip => exact skA (want := true) (b := _) (by rw [hb]; rfl) hL.2.2 rfl
       case run =>
        simp only [List.take_succ_cons, List.take_zero]
        rw [hb] at hL
        try simp only [go_sem, simprocAttr, hL, hX]
        repeat' refine And.intro (by first | rfl | omega | (simp; done)) ?_
        refine zF (sat_impl_Alike (outOrder l s 1 150).1 (outOrder l s 6 150).1 (outO_fit hf)) ?_
        refine hK1 _ ?_ ?_ ?_ <;> simp only [go_sem, simprocAttr, hL, hX] <;> exact rfl
       simp only [List.drop_succ_cons, List.drop_zero]
       clear hM hL
       have hL := hP
       clear hP
       try simp only [go_sem, simprocAttr, hL, hX]
       repeat' refine And.intro (by first | rfl | omega | (simp; done)) ?_
       refine zEG [] [2] ?_
       clear hK K hL
       refine zR ?_
       try simp only [go_sem, simprocAttr]
       all_goals (have hz := wide_same hok c3.1 c3.2; rw [hz.1, hz.2, alike_refl]; simp)
     · intro c3
       intro ρ hL
       refine awl_skip ?_
       refine zA ?_
       intro K hK
       refine zL [7, 60] ?_
       clear hL
       intro ρ hL
       refine grp_andN (tc := 60) (tv := 62) (td := 63) (v := ?v3) 2 rfl [] hL.2 rfl (fun hb K1 hK1 => ?run) (fun hb => ?skip) (fun ρ hP hM => ?_)
       case skip => exact skA (want := true) (b := _) (by rw [hb]; rfl) hL.2 rfl
       case run =>
        simp only [List.take_succ_cons, List.take_zero]
        rw [hb] at hL
        try simp only [go_sem, simprocAttr, hL, hX]
        repeat' refine And.intro (by first | rfl | omega | (simp; done)) ?_
        refine hK1 _ ?_ ?_ ?_ <;> simp only [go_sem, simprocAttr, hL, hX] <;> exact rfl
       simp only [List.drop_succ_cons, List.drop_zero]
       clear hM hL
       have hL := hP
       clear hP
       try simp only [go_sem, simprocAttr, hL, hX]
       repeat' refine And.intro (by first | rfl | omega | (simp; done)) ?_
       refine zEG [] [2] ?_
       clear hK K hL
       refine zR ?_
       try simp only [go_sem, simprocAttr]
       all_goals (have hz := wide_else hok c3; simp [hz.1, hz.2])
end
end Go.Proofs.YtdifphcihhbjlaaGreat.AM
