/- The law Same, of what is drawn. No conditions but those each theorem bears. -/
import Derived.Test.YtdifphcihhbjlaaGreatFa
import Derived.Test.YtdifphcihhbjlaaGreatM8
import Derived.Test.YtdifphcihhbjlaaGreatCa64
import Derived.Test.YtdifphcihhbjlaaGreatCa41
import Derived.Test.YtdifphcihhbjlaaGreatCa44
import Derived.Test.YtdifphcihhbjlaaGreatCa61
import Derived.Test.YtdifphcihhbjlaaGreatCa60
import Derived.Test.YtdifphcihhbjlaaGreatCa8
set_option linter.unusedSimpArgs false
set_option linter.unusedVariables false
namespace Go.Proofs.YtdifphcihhbjlaaGreat.AM
open Go
set_option maxHeartbeats 8000000
set_option maxRecDepth 100000

section
attribute [local go_sem] word_deq decide_true
theorem sat_laws_FnSame (bs : List UInt8) (hs : bs.length ≤ 9223372036854775807) : Sat Tryz.prog 7 [.sl bs.length bs.length (bytesV bs)] [] (.bool true) [] := by
 have hX := trivial
 refine sat_mk [.tmp 2] 0 53 Tryz.call7 Tryz.func7 Tryz.ntmps7 rfl rfl rfl rfl rfl ?_
 refine zI [0] ?_
 refine zG [] [0] ?_
 intro ρ hL
 refine zA ?_
 intro K hK
 refine zF (sat_laws_big _) ?_
 refine zEG [] [0, 11] ?_
 clear hK K hL
 refine zC ?_ ?_
 · intro c1
   refine zG [] [2] ?_
   refine zR ?_
   try simp only [go_sem, simprocAttr]
   all_goals (rfl)
 · intro c1
   have hb : bs.length ≤ 1048576 := by omega
   intro ρ hL
   refine awl_skip ?_
   obtain ⟨l, s, ps, hk9, hs1⟩ := sat_spec_DrawPlayed bs hb
   obtain ⟨⟨hl, hok⟩, hps⟩ := hk9
   have hl9 : l.length ≤ 1048576 := by omega
   have hf := ok_fit hok
   have hps9 : ps.length ≤ 1048576 := by omega
   have hp6 : ps.length ≤ 600 := by omega
   refine zA ?_
   intro K hK
   refine zFJ [] (hs1) ?_
   refine zEG [0, 5, 1, 2, 3, 4] [3, 4, 5] ?_
   clear hK K hL
   intro ρ hL
   refine zA ?_
   intro K hK
   refine zF (sat_impl_CoreRun l s ps hl9 hf hps9) ?_
   refine zEG [0, 1, 2, 3, 4, 5, 12, 6, 7, 8, 9, 10, 11] [3, 4, 5, 6, 7] ?_
   clear hK K hL
   intro ρ hL
   refine zA ?_
   intro K hK
   refine zF (sat_spec_CoreRun l s ps hl9 hf hps9) ?_
   refine zEG [0, 1, 2, 3, 4, 5, 6, 7, 8, 9, 10, 11, 12, 18] [3, 4, 5, 6, 7, 9] ?_
   clear hK K hL
   intro ρ hL
   refine zA ?_
   intro K hK
   refine zF (sat_laws_sameInts (corRun l s ps).2 (corRun l s ps).2 (Nat.le_trans runC_len (by decide))) ?_
   refine zEG [0, 1, 2, 3, 4, 5, 6, 7, 8, 9, 10, 11, 12] [3, 4, 5, 6, 7, 35] ?_
   clear hK K hL
   refine zQ ?_ ?_
   · intro c2
     try simp only [cnd] at c2
     first | done | cases c2 | (simp at c2)
   · intro c2
     try simp only [cnd] at c2
     intro ρ hL
     refine awl_skip ?_
     refine awl_seq ?_
     have kA : alike (corRun l s ps).1.s (run l s (corRun l s ps).2) = true := alike_of (run_same hok hp6)
     have kB : corOk (corRun l s ps).1 = true := corRun_ok hok hp6
     have kC : judgeSame l s ps = true := judge_same hok hp6
     replace hX := And.intro kA (And.intro kB (And.intro kC hX))
     have j1 := hL
     refine awl_regDJ mixed _ rfl (fun H0 σ G => (σ 2 = .bool true)) (fun K hK => ?inner1) (fun ρ G hJ => ?after1)
     case inner1 =>
      try simp only [go_sem, simprocAttr, hL, hX]
      repeat' refine And.intro (by first | omega | (exact ⟨[0, 1, 0, 0, 0, 28, 63, 127, 255, 511, 1023, 2047, 4095, 4095, 4095, 32767, 65535, 131071], by kernel_rfl⟩) | kernel_rfl) ?_
      refine zFD [0, 1, 0, 0, 0, 28, 63, 127, 255, 511, 1023, 2047, 4095, 4095, 4095, 32767, 65535, 131071] (sat_impl_Run l s (corRun l s ps).2 hl9 hf (Nat.le_trans runC_len (by decide))) ?_
      refine zFD [0, 1, 0, 0, 0, 28, 63, 127, 255, 511, 1023, 2047, 4095, 4095, 4095, 32767, 65535, 131071] (sat_impl_Alike (corRun l s ps).1.s (run l s (corRun l s ps).2) (runC_fit hf).1) ?_
      refine zFD [0, 1, 0, 0, 0, 28, 63, 127, 255, 511, 1023, 2047, 4095, 4095, 4095, 32767, 65535, 131071] (sat_impl_CoreOk (corRun l s ps).1 (runC_fit hf)) ?_
      refine zFD [0, 1, 0, 0, 0, 28, 63, 127, 255, 511, 1023, 2047, 4095, 4095, 4095, 32767, 65535, 131071] (sat_impl_JudgeSame l s ps hl9 hf hps9) ?_
      exact hK _ _ (by simp only [go_sem, simprocAttr, hL, hX, j1]; first | done | rfl)
     case after1 =>
      clear hL
      have hL := hJ
      clear hJ
      revert ρ hL
      refine zR ?_
      try simp only [go_sem, simprocAttr]
      all_goals (rfl)
end
end Go.Proofs.YtdifphcihhbjlaaGreat.AM
