/- The law Closed, of what is drawn. No conditions but those each theorem bears. -/
import Derived.Test.YteojcehneipgdaaGreatFa
import Derived.Test.YteojcehneipgdaaGreatSp25
import Derived.Test.YteojcehneipgdaaGreatCa57
import Derived.Test.YteojcehneipgdaaGreatCa8
import Derived.Test.YteojcehneipgdaaGreatCa19
set_option linter.unusedSimpArgs false
set_option linter.unusedVariables false
namespace Go.Proofs.YteojcehneipgdaaGreat.AM
open Go
set_option maxHeartbeats 8000000
set_option maxRecDepth 100000

theorem sat_laws_FnClosed (bs : List UInt8) (hs : bs.length ≤ 9223372036854775807) : Sat Tryz.prog 5 [.sl bs.length bs.length (bytesV bs)] [] (.bool true) [] := by
 have hX := trivial
 refine sat_mk [.tmp 2] 0 61 Tryz.call5 Tryz.func5 Tryz.ntmps5 rfl rfl rfl rfl rfl ?_
 refine zI [0] ?_
 refine zG [] [0] ?_
 intro ρ hL
 refine zA ?_
 intro K hK
 refine zF (sat_laws_big _) ?_
 refine zEG [] [0, 11] ?_
 clear hK K hL
 refine zC ?_ ?_
 · intro c1
   refine zG [] [2] ?_
   refine zR ?_
   try simp only [go_sem, simprocAttr]
   all_goals (rfl)
 · intro c1
   have hb : bs.length ≤ 1048576 := by omega
   intro ρ hL
   refine awl_skip ?_
   obtain ⟨l, s, rs, ws, p, o, ns, hls, hs1⟩ := sat_spec_DrawRun bs hb
   obtain ⟨⟨hl, hcr, hcw, hsm⟩, hns⟩ := hls
   have hf := small_fit hsm
   have hl9 : l.length ≤ 1048576 := by omega
   have hn9 : ns.length ≤ 1048576 := by omega
   have hq1 := hcr.1
   have hq2 := hcw.1
   replace hX := And.intro hq1 (And.intro hq2 hX)
   refine zA ?_
   intro K hK
   refine zFJ [] (hs1) ?_
   refine zEG [0, 5, 1, 2, 3, 4] [0, 3, 4, 5] ?_
   clear hK K hL
   intro ρ hL
   refine zA ?_
   intro K hK
   refine zF (sat_impl_Run l s ns hl9 hf hn9) ?_
   refine zEG [0, 1, 2, 3, 4, 5, 9, 6, 7, 8] [0, 3, 4, 5, 6] ?_
   clear hK K hL
   intro ρ hL
   refine zA ?_
   intro K hK
   refine zF (sat_spec_Run l s ns hl9 hf hn9) ?_
   refine zEG [1, 2, 3, 4, 6, 7, 8, 9, 13, 10, 11, 12] [0, 4, 6, 7] ?_
   clear hK K hL
   obtain ⟨a, b, ra, wa, rb, wb, p1, o1, p2, o2, hab, hs2⟩ := sat_spec_DrawClosed bs hb
   obtain ⟨⟨hca, hwa, hsa⟩, hcb, hwb, hsb⟩ := hab
   have hfa := small_fit hsa
   have hfb := small_fit hsb
   have hq3 := hca.1
   have hq4 := hwa.1
   have hq5 := hcb.1
   have hq6 := hwb.1
   replace hX := And.intro hq3 (And.intro hq4 (And.intro hq5 (And.intro hq6 hX)))
   intro ρ hL
   refine zA ?_
   intro K hK
   refine zFJ [] (hs2) ?_
   refine zEG [0, 1, 2, 3, 4, 5, 6, 7, 8, 9, 10, 11, 18, 12, 13, 14, 19, 15, 16, 17] [4, 6, 7, 8, 9] ?_
   clear hK K hL
   intro ρ hL
   refine awl_seq (awl_seq ?_)
   have kAl : alike (run l s ns) (run l s ns) = true := alike_refl
   replace hX := And.intro kAl hX
   have j1 := hL
   refine awl_regDJ mixed _ rfl (fun H0 σ G => (liveE [4, 6] σ ρ ∧ σ 50 = .bool false) ∧ G = H0) (fun K hK => ?inner1) (fun ρ G hJ => ?after1)
   case inner1 =>
    try simp only [go_sem, simprocAttr, hL, hX]
    repeat' refine And.intro (by first | omega | (exact ⟨[0, 0, 3, 7, 15, 31, 31, 127, 31, 31, 1023, 2047, 4095, 8191, 16383, 32767, 16383, 131071, 262143, 524287], by kernel_rfl⟩) | kernel_rfl) ?_
    refine zFD [0, 0, 3, 7, 15, 31, 31, 127, 31, 31, 1023, 2047, 4095, 8191, 16383, 32767, 16383, 131071, 262143, 524287] (sat_impl_Alike (run l s ns) (run l s ns) (run_fit hf)) ?_
    refine awpDS_split (b := ?b1) 35 (by simp only [go_sem, simprocAttr, hL, hX]; exact rfl) (fun hb1 => ?_) (fun hb1 => ?_)
    ·
     cases hb1
    ·
     replace hX := And.intro hb1 hX
     try simp only [go_sem, simprocAttr, hL, hX]
     repeat' refine And.intro (by first | omega | (exact ⟨[0, 0, 3, 7, 15, 31, 31, 127, 31, 31, 1023, 2047, 4095, 8191, 16383, 32767, 16383, 131071, 262143, 524287], by kernel_rfl⟩) | kernel_rfl) ?_
     refine zFD [0, 0, 3, 7, 15, 31, 31, 127, 31, 31, 1023, 2047, 4095, 8191, 16383, 32767, 16383, 131071, 262143, 524287] (sat_impl_Closed a b hfa hfb) ?_
     refine zFD [0, 0, 3, 7, 15, 31, 31, 127, 31, 31, 1023, 2047, 4095, 8191, 16383, 32767, 16383, 131071, 262143, 524287] (sat_spec_Closed a b hfa hfb) ?_
     refine awpDS_split (b := ?b2) 44 (by simp only [go_sem, simprocAttr, hL, hX]; exact rfl) (fun hb2 => ?_) (fun hb2 => ?_)
     ·
      cases hb2
     ·
      replace hX := And.intro hb2 hX
      try simp only [go_sem, simprocAttr, hL, hX]
      repeat' refine And.intro (by first | omega | (exact ⟨[0, 0, 3, 7, 15, 31, 31, 127, 31, 31, 1023, 2047, 4095, 8191, 16383, 32767, 16383, 131071, 262143, 524287], by kernel_rfl⟩) | kernel_rfl) ?_
      refine zFD [0, 0, 3, 7, 15, 31, 31, 127, 31, 31, 1023, 2047, 4095, 8191, 16383, 32767, 16383, 131071, 262143, 524287] (sat_impl_StateOk s hf) ?_
      refine zFD [0, 0, 3, 7, 15, 31, 31, 127, 31, 31, 1023, 2047, 4095, 8191, 16383, 32767, 16383, 131071, 262143, 524287] (sat_spec_StateOk s hf) ?_
      exact hK _ _ ⟨⟨(by simp only [go_sem, simprocAttr, hL, hX, j1]), (by simp only [go_sem, simprocAttr, hL, hX, j1]; first | done | rfl)⟩, rfl⟩
   case after1 =>
    clear hL
    obtain ⟨hL, hG⟩ := hJ
    subst hG
    try simp only [go_sem, simprocAttr, j1, hX] at hL
    revert ρ hL
    refine zQ ?_ ?_
    · intro c2
      try simp only [cnd] at c2
      first | done | cases c2 | (simp at c2)
    · intro c2
      try simp only [cnd] at c2
      intro ρ hL
      refine awl_skip ?_
      refine zA ?_
      intro K hK
      refine zF (sat_spec_StateOk s hf) ?_
      refine zEG [0, 1, 2, 3, 4, 5, 6, 7] [4, 6, 53] ?_
      clear hK K hL
      refine zC ?_ ?_
      · intro c3
        refine zG [] [2] ?_
        refine zR ?_
        try simp only [go_sem, simprocAttr]
        all_goals (rw [run_no c3]; rfl)
      · intro c3
        intro ρ hL
        refine awl_skip ?_
        refine zA ?_
        intro K hK
        refine zF (sat_impl_Closed s (run l s ns) hf (run_fit hf)) ?_
        refine zEG [] [2] ?_
        clear hK K hL
        refine zR ?_
        try simp only [go_sem, simprocAttr]
        all_goals (rw [closed_run c3])
end Go.Proofs.YteojcehneipgdaaGreat.AM
