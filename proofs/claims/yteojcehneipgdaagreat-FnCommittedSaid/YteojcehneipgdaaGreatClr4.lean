/- The law Committed, of what is drawn. No conditions but those each theorem bears. -/
import Derived.Test.YteojcehneipgdaaGreatFa
import Derived.Test.YteojcehneipgdaaGreatSp27
import Derived.Test.YteojcehneipgdaaGreatCa59
import Derived.Test.YteojcehneipgdaaGreatCa8
set_option linter.unusedSimpArgs false
set_option linter.unusedVariables false
namespace Go.Proofs.YteojcehneipgdaaGreat.AM
open Go
set_option maxHeartbeats 8000000
set_option maxRecDepth 100000

theorem sat_laws_sameInts (xs : List Int) (ys : List Int) (hb : xs.length ≤ 1099511627776) : Sat Tryz.prog 37 [.sl xs.length xs.length (ints xs), .sl ys.length ys.length (ints ys)] [] (.bool (decide (xs = ys))) [] := by
 have hX := trivial
 refine sat_mk [.tmp 4] 0 26 Tryz.call37 Tryz.func37 Tryz.ntmps37 rfl rfl rfl rfl rfl ?_
 refine zI [0, 1] ?_
 refine zS [0, 1] ?_
 refine zS [0, 1, 10] ?_
 refine zC ?_ ?_
 · intro c1
   refine zS [4] ?_
   refine zR ?_
   try simp only [go_sem, simprocAttr]
   all_goals (rw [decide_eq_false]; rintro rfl; exact c1 rfl)
 · intro c1
   intro ρ hL
   refine awl_skip ?_
   revert ρ hL
   refine zS [0, 1, 5] ?_
   intro ρ hL
   have e1 := hL
   refine awl_loopH (fun H0 n σ G => ∃ (i : Nat), n = xs.length - i ∧ (i ≤ xs.length) ∧ (xs.take i = ys.take i) ∧ (liveE [0, 1] σ ρ ∧ σ 5 = .int .i64 (i : Int)) ∧ G = H0) (fun H0 σ G => (xs = ys) ∧ (True) ∧ G = H0) ((fun (i : Nat) => xs.length - i) 0) ?init1 (fun n ρ G hI => ?round1) (fun ρ G hJ => ?after1)
   case init1 => exact ⟨0, rfl, (Nat.zero_le _), (by simp), ⟨liveE_refl _ _, (hL.2.2)⟩, rfl⟩
   case round1 =>
    clear hL
    obtain ⟨i, hn, i1_0, i1_1, hL, hG⟩ := hI
    subst hG
    try simp only [go_sem, simprocAttr, e1, hX] at hL
    revert ρ hL
    refine zS [0, 1, 5, 14] ?_
    refine zC ?_ ?_
    · intro c2
      have hi1 : i < xs.length := by omega
      replace hX := And.intro hi1 hX
      intro ρ hL
      refine awl_skip ?_
      refine awl_seq ?_
      refine awl_block fun R1 hw1 hR1 => ?_
      have hj : i < ys.length := by omega
      have hX0 := hX
      replace hX := And.intro hj hX
      revert ρ hL
      refine zD [0, 0, 3, 7, 0, 0, 48, 112, 255] [0, 1, 5, 25] ?_
      clear hX
      have hX := hX0
      clear hX0
      refine zC ?_ ?_
      · intro c3
        refine zS [4] ?_
        refine zR ?_
        try simp only [go_sem, simprocAttr]
        all_goals try clear hR1
        all_goals (rw [decide_eq_false]; rintro rfl; first | exact c3 rfl | (simp at c3; done))
      · intro c3
        intro ρ hL
        refine awl_skip ?_
        refine awl_nil ?_
        refine blk_normal (hR1 _ _ (.mk ?_))
        have w1 : IntKind.i64.wrap ((i : Int) + 1) = ((i + 1 : Nat) : Int) := by rw [wrap64 (by omega)]; omega
        replace hX := And.intro w1 hX
        revert ρ hL
        refine zS [0, 1, 5] ?_
        intro ρ hL
        refine awl_nil ?_
        refine loop_again _ ?meas ⟨i + 1, rfl, (by omega), (by exact take_succ_eq (d := 0) hi1 hj i1_1 (by simpa using c3)), ⟨(by simp only [go_sem, simprocAttr, hL, hX, e1]), (hL.2.2)⟩, rfl⟩
        case meas => subst hn; omega
    · intro c2
      intro ρ hL
      refine awl_exit ?_
      refine loop_break ?_
      exact ⟨(by exact eq_of_take (i := i) (by omega) (by omega) i1_1), trivial, rfl⟩
   case after1 =>
    clear hL
    obtain ⟨j1_0, hL, hG⟩ := hJ
    subst hG
    refine zA ?_
    intro K hK
    refine zE [4] ?_
    clear hK K hL
    refine zR ?_
    try simp only [go_sem, simprocAttr]
    all_goals try clear hR1
    all_goals (rw [decide_eq_true j1_0])
section
attribute [local go_sem] word_deq decide_true
theorem sat_laws_FnCommitted (bs : List UInt8) (hs : bs.length ≤ 9223372036854775807) : Sat Tryz.prog 7 [.sl bs.length bs.length (bytesV bs)] [] (.bool true) [] := by
 have hX := trivial
 refine sat_mk [.tmp 2] 0 127 Tryz.call7 Tryz.func7 Tryz.ntmps7 rfl rfl rfl rfl rfl ?_
 refine zI [0] ?_
 refine zG [] [0] ?_
 intro ρ hL
 refine zA ?_
 intro K hK
 refine zF (sat_laws_big _) ?_
 refine zEG [] [0, 9] ?_
 clear hK K hL
 refine zC ?_ ?_
 · intro c1
   refine zG [] [2] ?_
   refine zR ?_
   try simp only [go_sem, simprocAttr]
   all_goals (rfl)
 · intro c1
   have hb : bs.length ≤ 1048576 := by omega
   intro ρ hL
   refine awl_skip ?_
   obtain ⟨k, rs, ws, gs, p, o, g, hk9, hs1⟩ := sat_spec_DrawCommit bs hb
   obtain ⟨hsc, hcr, hcw, hci⟩ := hk9
   have hf := smallC_fit hsc
   have hq1 := hcr.1
   have hq2 := hcw.1
   have hq3 := hci.1
   have hd9 := commit_fit hf
   have hd8 := hd9.2.2
   replace hX := And.intro hq1 (And.intro hq2 (And.intro hq3 hX))
   refine zA ?_
   intro K hK
   refine zFJ [] (hs1) ?_
   refine zEG [5, 0, 1, 2, 3, 4] [3] ?_
   clear hK K hL
   intro ρ hL
   refine zA ?_
   intro K hK
   refine zF (sat_impl_Commit k hf) ?_
   refine zEG [0, 1, 2, 3, 4, 5, 11, 6, 7, 8, 9, 10] [3, 4, 5] ?_
   clear hK K hL
   intro ρ hL
   refine zA ?_
   intro K hK
   refine zF (sat_spec_Commit k hf) ?_
   refine zEG [0, 1, 2, 3, 4, 5, 6, 7, 8, 9, 10, 11, 17, 12, 13, 14, 15, 16] [3, 4, 5, 6, 7] ?_
   clear hK K hL
   have kA : alike (commit k).1.s (commit k).1.s = true := alike_refl
   have kN : decide ((commit k).1.next = (commit k).1.next) = true := decide_eq_true rfl
   have kI : decide ((commit k).1.guesses = (commit k).1.guesses) = true := decide_eq_true rfl
   have kL : decide (((commit k).1.rob.length : Int) = ((commit k).1.rob.length : Int)) = true := decide_eq_true rfl
   intro ρ hL
   replace hX := And.intro kA (And.intro kN (And.intro kI (And.intro kL hX)))
   refine zA ?_
   intro K hK
   refine zF (sat_impl_Alike (commit k).1.s (commit k).1.s hd9.1) ?_
   refine zF (sat_laws_sameInts (commit k).1.guesses (commit k).1.guesses (Nat.le_trans hd8 (by decide))) ?_
   refine zEG [0, 1, 2, 3, 4, 5, 6, 7, 8, 9, 10, 11] [3, 4, 5, 56] ?_
   clear hK K hL
   refine zQ ?_ ?_
   · intro c2
     try simp only [cnd] at c2
     first | done | cases c2 | (simp at c2)
   · intro c2
     try simp only [cnd] at c2
     intro ρ hL
     refine awl_skip ?_
     refine zA ?_
     intro K hK
     refine zF (sat_spec_CoreOk k hf) ?_
     refine zEG [0, 1, 2, 3, 4, 5, 6, 7, 8, 9, 10, 11] [3, 4, 5, 59] ?_
     clear hK K hL
     refine zC ?_ ?_
     · intro c3
       refine zG [] [2] ?_
       refine zR ?_
       try simp only [go_sem, simprocAttr]
       all_goals (rw [commit_no c3]; rfl)
     · intro c3
       have hok := c3
       intro ρ hL
       refine awl_skip ?_
       revert ρ hL
       refine zG [0, 1, 2, 3, 4, 5, 6, 7, 8, 9, 10, 11] [3, 4, 66] ?_
       refine zC ?_ ?_
       · intro c4
         intro ρ hL
         refine zA ?_
         intro K hK
         refine zF (sat_impl_Alike (commit k).1.s k.s hd9.1) ?_
         refine zL [3, 4, 72] ?_
         clear hL
         intro ρ hL
         refine grp_andN (tc := 72) (tv := 79) (td := 80) (v := ?v1) 7 rfl [] hL.2.2 rfl (fun hb K1 hK1 => ?run) (fun hb => ?skip) (fun ρ hP hM => ?_)
         case skip => exact skA (want := true) (b := _) (by rw [hb]; rfl) hL.2.2 rfl
         case run =>
          simp only [List.take_succ_cons, List.take_zero]
          rw [hb] at hL
          try simp only [go_sem, simprocAttr, hL, hX]
          repeat' refine And.intro (by first | rfl | omega | (simp; done)) ?_
          refine hK1 _ ?_ ?_ ?_ <;> simp only [go_sem, simprocAttr, hL, hX] <;> exact rfl
         simp only [List.drop_succ_cons, List.drop_zero]
         clear hM hL
         have hL := hP
         clear hP
         try simp only [go_sem, simprocAttr, hL, hX]
         repeat' refine And.intro (by first | rfl | omega | (simp; done)) ?_
         refine zEG [] [2] ?_
         clear hK K hL
         refine zR ?_
         try simp only [go_sem, simprocAttr]
         all_goals (rw [commit_same hok c4, alike_refl]; simp)
       · intro c4
         have hyes := commit_yes hok c4
         intro ρ hL
         refine awl_skip ?_
         refine awl_seq ?_
         have hp0 := hyes.1
         have hdn := hyes.2.1
         have hd11 := ents_done0 hp0
         have ht12 := ents_trap0 hp0
         have hl0 : (0 : Int) < (k.rob.length : Int) := by omega
         have hr12 := hsc.2.1
         have wl : IntKind.i64.wrap ((k.rob.length : Int) - 1) = (k.rob.length : Int) - 1 := wrap64 (by omega)
         replace hX := And.intro hp0 (And.intro hdn (And.intro hd11 (And.intro ht12 (And.intro hl0 (And.intro wl hX)))))
         have j1 := hL
         refine awl_regDJ mixed _ rfl (fun H0 σ G => (σ 2 = .bool true) ∧ G = H0) (fun K hK => ?inner1) (fun ρ G hJ => ?after1)
         case inner1 =>
          try simp only [go_sem, simprocAttr, hL, hX]
          repeat' refine And.intro (by first | omega | (exact ⟨[0, 1, 3, 7, 15, 31, 63, 127, 255, 63, 575, 1599, 3647, 8191, 16383, 32767, 65535, 131071, 262143, 524287, 1048575, 2097151, 4194303, 8388607, 16777215, 33554431, 67108863, 134217727, 268435455, 536870911, 1073741823, 2147483647, 4294967295, 1073741823, 9663676415, 26843545599, 61203283967, 129922760703, 267361714175, 549755813887, 1099511627775, 2199023255551, 4398046511103, 8796093022207, 17592186044415, 35184372088831, 70368744177663], by kernel_rfl⟩) | kernel_rfl) ?_
          refine awpDS_split (b := ?b2) 86 (by simp only [go_sem, simprocAttr, hL, hX]; exact rfl) (fun hb2 => ?_) (fun hb2 => ?_)
          ·
           replace hX := And.intro hb2 hX
           try simp only [go_sem, simprocAttr, hL, hX]
           repeat' refine And.intro (by first | omega | (exact ⟨[0, 1, 3, 7, 15, 31, 63, 127, 255, 63, 575, 1599, 3647, 8191, 16383, 32767, 65535, 131071, 262143, 524287, 1048575, 2097151, 4194303, 8388607, 16777215, 33554431, 67108863, 134217727, 268435455, 536870911, 1073741823, 2147483647, 4294967295, 1073741823, 9663676415, 26843545599, 61203283967, 129922760703, 267361714175, 549755813887, 1099511627775, 2199023255551, 4398046511103, 8796093022207, 17592186044415, 35184372088831, 70368744177663], by kernel_rfl⟩) | kernel_rfl) ?_
           refine awpDS_split (b := ?b3) 95 (by simp only [go_sem, simprocAttr, hL, hX]; exact rfl) (fun hb3 => ?_) (fun hb3 => ?_)
           ·
            replace hX := And.intro hb3 hX
            try simp only [go_sem, simprocAttr, hL, hX]
            repeat' refine And.intro (by first | omega | (exact ⟨[0, 1, 3, 7, 15, 31, 63, 127, 255, 63, 575, 1599, 3647, 8191, 16383, 32767, 65535, 131071, 262143, 524287, 1048575, 2097151, 4194303, 8388607, 16777215, 33554431, 67108863, 134217727, 268435455, 536870911, 1073741823, 2147483647, 4294967295, 1073741823, 9663676415, 26843545599, 61203283967, 129922760703, 267361714175, 549755813887, 1099511627775, 2199023255551, 4398046511103, 8796093022207, 17592186044415, 35184372088831, 70368744177663], by kernel_rfl⟩) | kernel_rfl) ?_
            refine awpDS_split (b := ?b4) 110 (by simp only [go_sem, simprocAttr, hL, hX]; exact rfl) (fun hb4 => ?_) (fun hb4 => ?_)
            ·
             replace hX := And.intro hb4 hX
             try simp only [go_sem, simprocAttr, hL, hX]
             repeat' refine And.intro (by first | omega | (exact ⟨[0, 1, 3, 7, 15, 31, 63, 127, 255, 63, 575, 1599, 3647, 8191, 16383, 32767, 65535, 131071, 262143, 524287, 1048575, 2097151, 4194303, 8388607, 16777215, 33554431, 67108863, 134217727, 268435455, 536870911, 1073741823, 2147483647, 4294967295, 1073741823, 9663676415, 26843545599, 61203283967, 129922760703, 267361714175, 549755813887, 1099511627775, 2199023255551, 4398046511103, 8796093022207, 17592186044415, 35184372088831, 70368744177663], by kernel_rfl⟩) | kernel_rfl) ?_
             exact hK _ _ ⟨(by simp only [go_sem, simprocAttr, hL, hX, j1]; first | done | rfl), (by first | rfl | (simp only [hX]; done) | (simp only [hX]; rfl))⟩
            ·
             replace hX := And.intro hb4 hX
             have hz2 := commit_trap hok c4 (by simpa using hb4)
             have hz3 := decide_eq_true hz2.1
             have hz4 := hz2.2
             replace hX := And.intro hz3 (And.intro hz4 hX)
             try simp only [go_sem, simprocAttr, hL, hX]
             repeat' refine And.intro (by first | omega | (exact ⟨[0, 1, 3, 7, 15, 31, 63, 127, 255, 63, 575, 1599, 3647, 8191, 16383, 32767, 65535, 131071, 262143, 524287, 1048575, 2097151, 4194303, 8388607, 16777215, 33554431, 67108863, 134217727, 268435455, 536870911, 1073741823, 2147483647, 4294967295, 1073741823, 9663676415, 26843545599, 61203283967, 129922760703, 267361714175, 549755813887, 1099511627775, 2199023255551, 4398046511103, 8796093022207, 17592186044415, 35184372088831, 70368744177663], by kernel_rfl⟩) | kernel_rfl) ?_
             exact hK _ _ ⟨(by simp only [go_sem, simprocAttr, hL, hX, j1]; first | done | rfl), (by first | rfl | (simp only [hX]; done) | (simp only [hX]; rfl))⟩
           ·
            replace hX := And.intro hb3 hX
            have hz := decide_eq_true (commit_rob hok c4 (by simpa using hb3))
            replace hX := And.intro hz hX
            try simp only [go_sem, simprocAttr, hL, hX]
            repeat' refine And.intro (by first | omega | (exact ⟨[0, 1, 3, 7, 15, 31, 63, 127, 255, 63, 575, 1599, 3647, 8191, 16383, 32767, 65535, 131071, 262143, 524287, 1048575, 2097151, 4194303, 8388607, 16777215, 33554431, 67108863, 134217727, 268435455, 536870911, 1073741823, 2147483647, 4294967295, 1073741823, 9663676415, 26843545599, 61203283967, 129922760703, 267361714175, 549755813887, 1099511627775, 2199023255551, 4398046511103, 8796093022207, 17592186044415, 35184372088831, 70368744177663], by kernel_rfl⟩) | kernel_rfl) ?_
            refine awpDS_split (b := ?b5) 110 (by simp only [go_sem, simprocAttr, hL, hX]; exact rfl) (fun hb5 => ?_) (fun hb5 => ?_)
            ·
             replace hX := And.intro hb5 hX
             try simp only [go_sem, simprocAttr, hL, hX]
             repeat' refine And.intro (by first | omega | (exact ⟨[0, 1, 3, 7, 15, 31, 63, 127, 255, 63, 575, 1599, 3647, 8191, 16383, 32767, 65535, 131071, 262143, 524287, 1048575, 2097151, 4194303, 8388607, 16777215, 33554431, 67108863, 134217727, 268435455, 536870911, 1073741823, 2147483647, 4294967295, 1073741823, 9663676415, 26843545599, 61203283967, 129922760703, 267361714175, 549755813887, 1099511627775, 2199023255551, 4398046511103, 8796093022207, 17592186044415, 35184372088831, 70368744177663], by kernel_rfl⟩) | kernel_rfl) ?_
             exact hK _ _ ⟨(by simp only [go_sem, simprocAttr, hL, hX, j1]; first | done | rfl), (by first | rfl | (simp only [hX]; done) | (simp only [hX]; rfl))⟩
            ·
             replace hX := And.intro hb5 hX
             have hz2 := commit_trap hok c4 (by simpa using hb5)
             have hz3 := decide_eq_true hz2.1
             have hz4 := hz2.2
             replace hX := And.intro hz3 (And.intro hz4 hX)
             try simp only [go_sem, simprocAttr, hL, hX]
             repeat' refine And.intro (by first | omega | (exact ⟨[0, 1, 3, 7, 15, 31, 63, 127, 255, 63, 575, 1599, 3647, 8191, 16383, 32767, 65535, 131071, 262143, 524287, 1048575, 2097151, 4194303, 8388607, 16777215, 33554431, 67108863, 134217727, 268435455, 536870911, 1073741823, 2147483647, 4294967295, 1073741823, 9663676415, 26843545599, 61203283967, 129922760703, 267361714175, 549755813887, 1099511627775, 2199023255551, 4398046511103, 8796093022207, 17592186044415, 35184372088831, 70368744177663], by kernel_rfl⟩) | kernel_rfl) ?_
             exact hK _ _ ⟨(by simp only [go_sem, simprocAttr, hL, hX, j1]; first | done | rfl), (by first | rfl | (simp only [hX]; done) | (simp only [hX]; rfl))⟩
          ·
           cases hb2
         case after1 =>
          clear hL
          obtain ⟨hL, hG⟩ := hJ
          subst hG
          revert ρ hL
          refine zR ?_
          try simp only [go_sem, simprocAttr]
          all_goals (rfl)
end
end Go.Proofs.YteojcehneipgdaaGreat.AM
