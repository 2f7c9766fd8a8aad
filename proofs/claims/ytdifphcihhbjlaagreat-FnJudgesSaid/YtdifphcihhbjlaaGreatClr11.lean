/- The law Judges, of what is drawn. No conditions but those each theorem bears. -/
import Derived.Test.YtdifphcihhbjlaaGreatFa
import Derived.Test.YtdifphcihhbjlaaGreatM8
import Derived.Test.YtdifphcihhbjlaaGreatCa66
import Derived.Test.YtdifphcihhbjlaaGreatCa46
set_option linter.unusedSimpArgs false
set_option linter.unusedVariables false
namespace Go.Proofs.YtdifphcihhbjlaaGreat.AM
open Go
set_option maxHeartbeats 8000000
set_option maxRecDepth 100000

theorem judge_is {l : List Ins} {s : Stt} {ps : List Pik} : judgeSame l s ps = (sttOk s && decide (ps.length ≤ 600)) ∧ judgeKeys l s ps = (sttOk s && decide (ps.length ≤ 600)) := by
  cases h : (sttOk s && decide (ps.length ≤ 600)) with
  | false => exact ⟨same_no h, keysJ_no h⟩
  | true =>
    have := judged_parts h
    exact ⟨judge_same this.1 this.2, judge_keys this.1 this.2⟩
section
attribute [local go_sem] decide_true
theorem sat_laws_FnJudges (bs : List UInt8) (hs : bs.length ≤ 9223372036854775807) : Sat Tryz.prog 12 [.sl bs.length bs.length (bytesV bs)] [] (.bool true) [] := by
 have hX := trivial
 refine sat_mk [.tmp 2] 0 95 Tryz.call12 Tryz.func12 Tryz.ntmps12 rfl rfl rfl rfl rfl ?_
 refine zI [0] ?_
 refine zG [] [0] ?_
 intro ρ hL
 refine zA ?_
 intro K hK
 refine zF (sat_laws_big _) ?_
 refine zEG [] [0, 12] ?_
 clear hK K hL
 refine zC ?_ ?_
 · intro c1
   refine zG [] [2] ?_
   refine zR ?_
   try simp only [go_sem, simprocAttr]
   all_goals (rfl)
 · intro c1
   have hb : bs.length ≤ 1048576 := by omega
   intro ρ hL
   refine awl_skip ?_
   obtain ⟨l, s, rs, ws, p, o, ps, hk9, hs1⟩ := sat_spec_DrawJudgeAll bs hb
   obtain ⟨⟨hl, hcr, hcw, hsm⟩, hps⟩ := hk9
   have hf := small_fit hsm
   have hl9 : l.length ≤ 1048576 := by omega
   have hps9 : ps.length ≤ 1048576 := by omega
   have hq1 := hcr.1
   have hq2 := hcw.1
   have hji := judge_is (l := l) (s := s) (ps := ps)
   replace hX := And.intro hq1 (And.intro hq2 hX)
   refine zA ?_
   intro K hK
   refine zFJ [] (hs1) ?_
   refine zEG [0, 5, 1, 2, 3, 4] [0, 3, 4, 5] ?_
   clear hK K hL
   intro ρ hL
   refine zAD [0, 0, 0, 7, 0, 0, 0, 127, 255, 511] ?_
   intro K hK
   refine zFD [0, 0, 0, 7, 0, 0, 0, 127, 255, 511] (sat_impl_JudgeSame l s ps hl9 hf hps9) ?_
   refine zFD [0, 0, 0, 7, 0, 0, 0, 127, 255, 511] (sat_impl_JudgeKeys l s ps hl9 hf hps9) ?_
   refine zEG [0, 1, 2, 3, 4, 5] [0, 3, 4, 5, 6, 7] ?_
   clear hK K hL
   intro ρ hL
   refine zA ?_
   intro K hK
   refine zF (sat_spec_JudgeSame l s ps hl9 hf hps9) ?_
   refine zF (sat_spec_JudgeKeys l s ps hl9 hf hps9) ?_
   refine zEG [0, 1, 2, 3, 4, 5] [0, 3, 4, 5, 6, 7, 40] ?_
   clear hK K hL
   refine zQ ?_ ?_
   · intro c2
     try simp only [cnd] at c2
     first | done | cases c2 | (simp at c2)
   · intro c2
     try simp only [cnd] at c2
     intro ρ hL
     refine awl_skip ?_
     obtain ⟨a, b, ra, wa, rb, wb, p1, o1, p2, o2, hk8, hs2⟩ := sat_spec_DrawAlike bs hb
     obtain ⟨⟨hca, hwa, hsa⟩, hcb, hwb, hsb⟩ := hk8
     have hfa := small_fit hsa
     have hfb := small_fit hsb
     have hq3 := hca.1
     have hq4 := hwa.1
     have hq5 := hcb.1
     have hq6 := hwb.1
     replace hX := And.intro hq3 (And.intro hq4 (And.intro hq5 (And.intro hq6 hX)))
     refine zA ?_
     intro K hK
     refine zFJ [] (hs2) ?_
     refine zEG [0, 1, 2, 3, 4, 5, 12, 6, 7, 8, 13, 9, 10, 11] [0, 3, 4, 5, 6, 7, 8, 9] ?_
     clear hK K hL
     obtain ⟨k, rk, wk, gk, p3, o3, g3, hk7, hs3⟩ := sat_spec_DrawHeld bs hb
     obtain ⟨hsc, hcr7, hcw7, hci7⟩ := hk7
     have hfk := smallC_fit hsc
     have hq7 := hcr7.1
     have hq8 := hcw7.1
     have hq9 := hci7.1
     have hhl := held_len hfk
     replace hX := And.intro hq7 (And.intro hq8 (And.intro hq9 hX))
     intro ρ hL
     refine zA ?_
     intro K hK
     refine zFJ [] (hs3) ?_
     refine zEG [0, 1, 2, 3, 4, 5, 6, 7, 8, 9, 10, 11, 12, 13, 19, 14, 15, 16, 17, 18] [3, 4, 5, 6, 7, 8, 9, 10] ?_
     clear hK K hL
     intro ρ hL
     refine awl_seq (awl_seq ?_)
     have kA : alike b a = alike a b := alike_comm
     have kH : decide (held k = held k) = true := decide_eq_true rfl
     replace hX := And.intro kA (And.intro kH hX)
     have j1 := hL
     refine awl_regDJ mixed _ rfl (fun H0 σ G => (liveE [3, 4, 5, 6, 7] σ ρ ∧ σ 71 = .bool false) ∧ G = H0 ++ [⟨6, rows (held k), true, false⟩, ⟨6, rows (held k), true, false⟩]) (fun K hK => ?inner1) (fun ρ G hJ => ?after1)
     case inner1 =>
      try simp only [go_sem, simprocAttr, hL, hX]
      repeat' refine And.intro (by first | omega | (exact ⟨[0, 0, 3, 0, 0, 31, 63, 127, 255, 255, 1023, 255, 255, 8191, 16383, 32767, 65535, 131071, 262143, 131071, 1048575, 2097151, 4194303, 8388607], by kernel_rfl⟩) | kernel_rfl) ?_
      refine zFD [0, 0, 3, 0, 0, 31, 63, 127, 255, 255, 1023, 255, 255, 8191, 16383, 32767, 65535, 131071, 262143, 131071, 1048575, 2097151, 4194303, 8388607] (sat_impl_Alike a b hfa) ?_
      refine zFD [0, 0, 3, 0, 0, 31, 63, 127, 255, 255, 1023, 255, 255, 8191, 16383, 32767, 65535, 131071, 262143, 131071, 1048575, 2097151, 4194303, 8388607] (sat_spec_Alike a b hfa hfb) ?_
      refine zFD [0, 0, 3, 0, 0, 31, 63, 127, 255, 255, 1023, 255, 255, 8191, 16383, 32767, 65535, 131071, 262143, 131071, 1048575, 2097151, 4194303, 8388607] (sat_impl_Alike a b hfa) ?_
      refine zFD [0, 0, 3, 0, 0, 31, 63, 127, 255, 255, 1023, 255, 255, 8191, 16383, 32767, 65535, 131071, 262143, 131071, 1048575, 2097151, 4194303, 8388607] (sat_impl_Alike b a hfb) ?_
      refine zFD [0, 0, 3, 0, 0, 31, 63, 127, 255, 255, 1023, 255, 255, 8191, 16383, 32767, 65535, 131071, 262143, 131071, 1048575, 2097151, 4194303, 8388607] (sat_impl_Held k hfk) ?_
      refine zFD [0, 0, 3, 0, 0, 31, 63, 127, 255, 255, 1023, 255, 255, 8191, 16383, 32767, 65535, 131071, 262143, 131071, 1048575, 2097151, 4194303, 8388607] (sat_spec_Held k hfk) ?_
      refine zFD [0, 0, 3, 0, 0, 31, 63, 127, 255, 255, 1023, 255, 255, 8191, 16383, 32767, 65535, 131071, 262143, 131071, 1048575, 2097151, 4194303, 8388607] (sat_laws_sameWords (held k) (held k) (Nat.le_trans hhl (by decide))) ?_
      exact hK _ _ ⟨⟨(by simp only [go_sem, simprocAttr, hL, hX, j1]), (by simp only [go_sem, simprocAttr, hL, hX, j1]; first | done | rfl)⟩, (by first | rfl | (simp only [hX]; done) | (simp only [hX]; rfl))⟩
     case after1 =>
      clear hL
      obtain ⟨hL, hG⟩ := hJ
      subst hG
      try simp only [go_sem, simprocAttr, j1, hX] at hL
      revert ρ hL
      refine zQ ?_ ?_
      · intro c3
        try simp only [cnd] at c3
        first | done | cases c3 | (simp at c3)
      · intro c3
        try simp only [cnd] at c3
        intro ρ hL
        refine awl_skip ?_
        refine zA ?_
        intro K hK
        refine zF (sat_impl_JudgeAll l s ps hl9 hf hps9) ?_
        refine zL [4, 5, 6, 7, 75, 77] ?_
        clear hL
        intro ρ hL
        refine grp_andN (tc := 77) (tv := 78) (td := 79) (v := ?v1) 1 rfl [4, 5, 6, 7, 75] hL.2.2.2.2.2 rfl (fun hb K1 hK1 => ?run) (fun hb => ?skip) (fun ρ hP hM => ?_)
        case skip => exact skA (want := true) (b := _) (by rw [hb]; rfl) hL.2.2.2.2.2 rfl
        case run =>
         simp only [List.take_succ_cons, List.take_zero]
         rw [hb] at hL
         try simp only [go_sem, simprocAttr, hL, hX]
         repeat' refine And.intro (by first | rfl | omega | (simp; done)) ?_
         refine hK1 _ ?_ ?_ ?_ <;> simp only [go_sem, simprocAttr, hL, hX] <;> exact rfl
        simp only [List.drop_succ_cons, List.drop_zero]
        try simp only [go_sem, simprocAttr, hL, hX] at hM
        replace hL := And.intro hP hM
        clear hP hM
        try simp only [go_sem, simprocAttr, hL, hX]
        repeat' refine And.intro (by first | rfl | omega | (simp; done)) ?_
        refine zL [4, 5, 6, 7, 81] ?_
        clear hL
        intro ρ hL
        refine grp_andN (tc := 81) (tv := 93) (td := 94) (v := ?v2) 12 rfl [] hL.2.2.2.2 rfl (fun hb K1 hK1 => ?run) (fun hb => ?skip) (fun ρ hP hM => ?_)
        case skip => exact skA (want := true) (b := _) (by rw [hb]; rfl) hL.2.2.2.2 rfl
        case run =>
         simp only [List.take_succ_cons, List.take_zero]
         rw [hb] at hL
         have g3 := hL
         have hK1_3 := hK1
         try simp only [go_sem, simprocAttr, hL, hX]
         repeat' refine And.intro (by first | rfl | omega | (simp; done)) ?_
         refine zF (sat_spec_StateOk s hf) ?_
         refine zL [5, 6, 7, 81, 84] ?_
         clear hL
         intro ρ hL
         refine grp_andGN (tc := 84) (tv := 87) (td := 88) (v := ?v4) 3 81 true rfl hL.2.2.2.1 [6, 7, 81] rfl hL.2.2.2.2 rfl (fun hb K1 hK1 => ?run) (fun hb => ?skip) (fun ρ hP hM => ?_)
         case skip => exact skA (want := true) (b := _) (by rw [hb]; rfl) hL.2.2.2.2 rfl
         case run =>
          simp only [List.take_succ_cons, List.take_zero]
          rw [hb] at hL
          try simp only [go_sem, simprocAttr, hL, hX]
          repeat' refine And.intro (by first | rfl | omega | (simp; done)) ?_
          refine hK1 _ ?_ ?_ ?_ <;> simp only [go_sem, simprocAttr, hL, hX] <;> exact rfl
         simp only [List.drop_succ_cons, List.drop_zero]
         try simp only [go_sem, simprocAttr, hL, hX] at hM
         replace hL := And.intro hP hM
         clear hP hM
         try simp only [go_sem, simprocAttr, hL, hX]
         repeat' refine And.intro (by first | rfl | omega | (simp; done)) ?_
         refine zL [7, 81, 88, 90] ?_
         clear hL
         intro ρ hL
         refine grp_andGN (tc := 90) (tv := 91) (td := 92) (v := ?v5) 1 81 true rfl hL.2.1 [81, 88] rfl hL.2.2.2 rfl (fun hb K1 hK1 => ?run) (fun hb => ?skip) (fun ρ hP hM => ?_)
         case skip => exact skA (want := true) (b := _) (by rw [hb]; rfl) hL.2.2.2 rfl
         case run =>
          simp only [List.take_succ_cons, List.take_zero]
          rw [hb] at hL
          try simp only [go_sem, simprocAttr, hL, hX]
          repeat' refine And.intro (by first | rfl | omega | (simp; done)) ?_
          refine hK1 _ ?_ ?_ ?_ <;> simp only [go_sem, simprocAttr, hL, hX] <;> exact rfl
         simp only [List.drop_succ_cons, List.drop_zero]
         try simp only [go_sem, simprocAttr, hL, hX] at hM
         replace hL := And.intro hP hM
         clear hP hM
         try simp only [go_sem, simprocAttr, hL, hX]
         repeat' refine And.intro (by first | rfl | omega | (simp; done)) ?_
         refine hK1_3 _ ?_ ?_ ?_ <;> simp only [go_sem, simprocAttr, hL, hX, g3] <;> exact rfl
        simp only [List.drop_succ_cons, List.drop_zero]
        clear hM hL
        have hL := hP
        clear hP
        try simp only [go_sem, simprocAttr, hL, hX]
        repeat' refine And.intro (by first | rfl | omega | (simp; done)) ?_
        refine zEG [] [2] ?_
        clear hK K hL
        refine zR ?_
        try simp only [go_sem, simprocAttr]
        all_goals (have hdd : decide ((ps.length : Int) ≤ 600) = decide (ps.length ≤ 600) := (by rw [decide_eq_decide]; omega); rw [judgeAll, hji.1, hji.2]; simp [hdd])
end
end Go.Proofs.YtdifphcihhbjlaaGreat.AM
