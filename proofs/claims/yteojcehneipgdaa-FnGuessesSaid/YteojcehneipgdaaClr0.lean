/- The law on guesses, of what is drawn. No conditions but those each theorem bears. -/
import Derived.Test.YteojcehneipgdaaFa
import Derived.Test.YteojcehneipgdaaSp25
import Derived.Test.YteojcehneipgdaaCa60
import Derived.Test.YteojcehneipgdaaCa52
import Derived.Test.YteojcehneipgdaaCa5b
set_option linter.unusedSimpArgs false
set_option linter.unusedVariables false
namespace Go.Proofs.Yteojcehneipgdaa.AM
open Go
set_option maxHeartbeats 8000000
set_option maxRecDepth 100000

theorem sat_laws_sameInts (xs : List Int) (ys : List Int) (hb : xs.length ≤ 1099511627776) : Sat Try.prog 7 [.sl xs.length xs.length (ints xs), .sl ys.length ys.length (ints ys)] [] (.bool (decide (xs = ys))) [] := by
 have hX := trivial
 refine sat_mk [.tmp 4] 0 26 Try.call7 Try.func7 Try.ntmps7 rfl rfl rfl rfl rfl ?_
 refine zI [0, 1] ?_
 refine zS [0, 1] ?_
 refine zS [0, 1, 10] ?_
 refine zC ?_ ?_
 · intro c1
   refine zS [4] ?_
   refine zR ?_
   try simp only [go_sem, simprocAttr]
   all_goals (rw [decide_eq_false]; rintro rfl; exact c1 rfl)
 · intro c1
   intro ρ hL
   refine awl_skip ?_
   revert ρ hL
   refine zS [0, 1, 5] ?_
   intro ρ hL
   have e1 := hL
   refine awl_loopH (fun H0 n σ G => ∃ (i : Nat), n = xs.length - i ∧ (i ≤ xs.length) ∧ (xs.take i = ys.take i) ∧ (liveE [0, 1] σ ρ ∧ σ 5 = .int .i64 (i : Int)) ∧ G = H0) (fun H0 σ G => (xs = ys) ∧ (True) ∧ G = H0) ((fun (i : Nat) => xs.length - i) 0) ?init1 (fun n ρ G hI => ?round1) (fun ρ G hJ => ?after1)
   case init1 => exact ⟨0, rfl, (Nat.zero_le _), (by simp), ⟨liveE_refl _ _, (hL.2.2)⟩, rfl⟩
   case round1 =>
    clear hL
    obtain ⟨i, hn, i1_0, i1_1, hL, hG⟩ := hI
    subst hG
    try simp only [go_sem, simprocAttr, e1, hX] at hL
    revert ρ hL
    refine zS [0, 1, 5, 14] ?_
    refine zC ?_ ?_
    · intro c2
      have hi1 : i < xs.length := by omega
      replace hX := And.intro hi1 hX
      intro ρ hL
      refine awl_skip ?_
      refine awl_seq ?_
      refine awl_block fun R1 hw1 hR1 => ?_
      have hj : i < ys.length := by omega
      have hX0 := hX
      replace hX := And.intro hj hX
      revert ρ hL
      refine zD [0, 0, 3, 7, 0, 0, 48, 112, 255] [0, 1, 5, 25] ?_
      clear hX
      have hX := hX0
      clear hX0
      refine zC ?_ ?_
      · intro c3
        refine zS [4] ?_
        refine zR ?_
        try simp only [go_sem, simprocAttr]
        all_goals try clear hR1
        all_goals (rw [decide_eq_false]; rintro rfl; first | exact c3 rfl | (simp at c3; done))
      · intro c3
        intro ρ hL
        refine awl_skip ?_
        refine awl_nil ?_
        refine blk_normal (hR1 _ _ (.mk ?_))
        have w1 : IntKind.i64.wrap ((i : Int) + 1) = ((i + 1 : Nat) : Int) := by rw [wrap64 (by omega)]; omega
        replace hX := And.intro w1 hX
        revert ρ hL
        refine zS [0, 1, 5] ?_
        intro ρ hL
        refine awl_nil ?_
        refine loop_again _ ?meas ⟨i + 1, rfl, (by omega), (by exact take_succ_eq (d := 0) hi1 hj i1_1 (by simpa using c3)), ⟨(by simp only [go_sem, simprocAttr, hL, hX, e1]), (hL.2.2)⟩, rfl⟩
        case meas => subst hn; omega
    · intro c2
      intro ρ hL
      refine awl_exit ?_
      refine loop_break ?_
      exact ⟨(by exact eq_of_take (i := i) (by omega) (by omega) i1_1), trivial, rfl⟩
   case after1 =>
    clear hL
    obtain ⟨j1_0, hL, hG⟩ := hJ
    subst hG
    refine zA ?_
    intro K hK
    refine zE [4] ?_
    clear hK K hL
    refine zR ?_
    try simp only [go_sem, simprocAttr]
    all_goals try clear hR1
    all_goals (rw [decide_eq_true j1_0])
section
attribute [local go_sem] learn_len word_deq
theorem sat_laws_FnGuesses (bs : List UInt8) (hs : bs.length ≤ 9223372036854775807) : Sat Try.prog 3 [.sl bs.length bs.length (bytesV bs)] [] (.bool true) [] := by
 have hX := trivial
 refine sat_mk [.tmp 2] 0 106 Try.call3 Try.func3 Try.ntmps3 rfl rfl rfl rfl rfl ?_
 refine zI [0] ?_
 refine zG [] [0] ?_
 intro ρ hL
 refine zA ?_
 intro K hK
 refine zF (sat_laws_big _) ?_
 refine zEG [] [0, 12] ?_
 clear hK K hL
 refine zC ?_ ?_
 · intro c1
   refine zG [] [2] ?_
   refine zR ?_
   try simp only [go_sem, simprocAttr]
   all_goals (rfl)
 · intro c1
   have hb : bs.length ≤ 1048576 := by omega
   intro ρ hL
   refine awl_skip ?_
   obtain ⟨ys, xs, o, w, v, hla, hs1⟩ := sat_spec_DrawLearn bs hb
   obtain ⟨hl1, hl2, hl3⟩ := hla
   have hb9 : xs.length ≤ 1099511627776 := by omega
   replace hX := And.intro hl1 hX
   have hb8 : (learn xs w v).length ≤ 1099511627776 := by rw [learn_len]; omega
   refine zA ?_
   intro K hK
   refine zFJ [] (hs1) ?_
   refine zEG [0, 1, 2] [0, 3, 4, 5] ?_
   clear hK K hL
   intro ρ hL
   refine zA ?_
   intro K hK
   refine zF (sat_impl_Learn xs w v xs.length hb9) ?_
   refine zEG [0, 1, 2, 3] [0, 3, 4, 5, 6] ?_
   clear hK K hL
   intro ρ hL
   refine zA ?_
   intro K hK
   refine zF (sat_spec_Learn xs w v xs.length hb9) ?_
   refine zF (sat_laws_sameInts (learn xs w v) (learn xs w v) hb8) ?_
   refine zL [0, 3, 4, 5, 6, 30] ?_
   clear hL
   intro ρ hL
   refine grp_orN (tc := 30) (tv := 35) (td := 36) (v := ?v1) 5 rfl [0, 3, 4, 5, 6] hL.2.2.2.2.2 rfl (fun hb K1 hK1 => ?run) (fun hb => ?skip) (fun ρ hP hM => ?_)
   case skip => exact skA (want := false) (b := _) (by rw [hb]; rfl) hL.2.2.2.2.2 rfl
   case run =>
    simp only [List.take_succ_cons, List.take_zero]
    rw [hb] at hL
    try simp only [go_sem, simprocAttr, hL, hX]
    repeat' refine And.intro (by first | rfl | omega | (simp; done)) ?_
    refine zF (sat_impl_GuessOk xs xs.length hb9) ?_
    refine zF (sat_spec_GuessOk xs xs.length hb9) ?_
    refine hK1 _ ?_ ?_ ?_ <;> simp only [go_sem, simprocAttr, hL, hX] <;> exact rfl
   simp only [List.drop_succ_cons, List.drop_zero]
   try simp only [go_sem, simprocAttr, hL, hX] at hM
   replace hL := And.intro hP hM
   clear hP hM
   try simp only [go_sem, simprocAttr, hL, hX]
   repeat' refine And.intro (by first | rfl | omega | (simp; done)) ?_
   refine zEG [0, 1, 2, 3] [0, 3, 4, 5, 6, 36] ?_
   clear hK K hL
   refine zC ?_ ?_
   · intro c2
     first | done | (simp at c2; done) | (simp at c2; omega) | omega
   · intro c2
     intro ρ hL
     refine awl_skip ?_
     obtain ⟨ys2, xs2, o2, w2, hlb, hs2⟩ := sat_spec_DrawGuess bs hb
     obtain ⟨hl12, hl22, hl32⟩ := hlb
     have hb92 : xs2.length ≤ 1099511627776 := by omega
     replace hX := And.intro hl12 hX
     refine zA ?_
     intro K hK
     refine zFJ [] (hs2) ?_
     refine zEG [0, 1, 2, 3, 4, 5] [0, 3, 4, 5, 6, 7, 8] ?_
     clear hK K hL
     obtain ⟨ys3, xs3, o3, hlc, hs3⟩ := sat_spec_DrawGuessOk bs hb
     obtain ⟨hl13, hl23, hl33⟩ := hlc
     have hb93 : xs3.length ≤ 1099511627776 := by omega
     replace hX := And.intro hl13 hX
     intro ρ hL
     refine zA ?_
     intro K hK
     refine zFJ [] (hs3) ?_
     refine zEG [0, 1, 2, 3, 4, 5, 6] [3, 4, 5, 6, 7, 8, 9] ?_
     clear hK K hL
     intro ρ hL
     refine awl_seq (awl_seq ?_)
     have kG : decide (guess xs2 w2 = guess xs2 w2) = true := decide_eq_true rfl
     have kN : guessOk guessNew = true := guessOk_new
     replace hX := And.intro kG (And.intro kN (And.intro gl48 hX))
     have j1 := hL
     refine awl_regDJ mixed _ rfl (fun H0 σ G => (liveE [3, 4, 5, 6] σ ρ ∧ σ 62 = .bool false) ∧ G = H0 ++ [⟨1, ints guessNew, true, false⟩]) (fun K hK => ?inner1) (fun ρ G hJ => ?after1)
     case inner1 =>
      try simp only [go_sem, simprocAttr, hL, hX]
      repeat' refine And.intro (by first | omega | (exact ⟨[0, 0, 3, 0, 0, 31, 63, 127, 255, 511, 255, 2047, 4095, 8191, 16383, 32767, 65535, 131071, 262143], by kernel_rfl⟩) | kernel_rfl) ?_
      refine zFD [0, 0, 3, 0, 0, 31, 63, 127, 255, 511, 255, 2047, 4095, 8191, 16383, 32767, 65535, 131071, 262143] (sat_impl_Guess xs2 w2 (by omega)) ?_
      refine zFD [0, 0, 3, 0, 0, 31, 63, 127, 255, 511, 255, 2047, 4095, 8191, 16383, 32767, 65535, 131071, 262143] (sat_spec_Guess xs2 w2 (by omega)) ?_
      refine awpDS_split (b := ?b2) 51 (by simp only [go_sem, simprocAttr, hL, hX]; exact rfl) (fun hb2 => ?_) (fun hb2 => ?_)
      ·
       cases hb2
      ·
       replace hX := And.intro hb2 hX
       try simp only [go_sem, simprocAttr, hL, hX]
       repeat' refine And.intro (by first | omega | (exact ⟨[0, 0, 3, 0, 0, 31, 63, 127, 255, 511, 255, 2047, 4095, 8191, 16383, 32767, 65535, 131071, 262143], by kernel_rfl⟩) | kernel_rfl) ?_
       refine zFD [0, 0, 3, 0, 0, 31, 63, 127, 255, 511, 255, 2047, 4095, 8191, 16383, 32767, 65535, 131071, 262143] (sat_impl_GuessOk xs3 xs3.length hb93) ?_
       refine zFD [0, 0, 3, 0, 0, 31, 63, 127, 255, 511, 255, 2047, 4095, 8191, 16383, 32767, 65535, 131071, 262143] (sat_spec_GuessOk xs3 xs3.length hb93) ?_
       refine awpDS_split (b := ?b3) 58 (by simp only [go_sem, simprocAttr, hL, hX]; exact rfl) (fun hb3 => ?_) (fun hb3 => ?_)
       ·
        cases hb3
       ·
        replace hX := And.intro hb3 hX
        try simp only [go_sem, simprocAttr, hL, hX]
        repeat' refine And.intro (by first | omega | (exact ⟨[0, 0, 3, 0, 0, 31, 63, 127, 255, 511, 255, 2047, 4095, 8191, 16383, 32767, 65535, 131071, 262143], by kernel_rfl⟩) | kernel_rfl) ?_
        refine zFD [0, 0, 3, 0, 0, 31, 63, 127, 255, 511, 255, 2047, 4095, 8191, 16383, 32767, 65535, 131071, 262143] (sat_impl_GuessNew) ?_
        refine zFD [0, 0, 3, 0, 0, 31, 63, 127, 255, 511, 255, 2047, 4095, 8191, 16383, 32767, 65535, 131071, 262143] (sat_impl_GuessOk guessNew 48 (by rw [gl48]; decide)) ?_
        exact hK _ _ ⟨⟨(by simp only [go_sem, simprocAttr, hL, hX, j1]), (by simp only [go_sem, simprocAttr, hL, hX, j1]; first | done | rfl)⟩, rfl⟩
     case after1 =>
      clear hL
      obtain ⟨hL, hG⟩ := hJ
      subst hG
      try simp only [go_sem, simprocAttr, j1, hX] at hL
      revert ρ hL
      refine zQ ?_ ?_
      · intro c3
        try simp only [cnd] at c3
        first | done | cases c3 | (simp at c3; done) | (simp at c3)
      · intro c3
        try simp only [cnd] at c3
        intro ρ hL
        refine awl_skip ?_
        refine zA ?_
        intro K hK
        refine zL [3, 4, 5, 6, 66] ?_
        clear hL
        intro ρ hL
        refine grp_orN (tc := 66) (tv := 71) (td := 72) (v := ?v4) 5 rfl [3, 4, 5, 6] hL.2.2.2.2 rfl (fun hb K1 hK1 => ?run) (fun hb => ?skip) (fun ρ hP hM => ?_)
        case skip => exact skA (want := false) (b := _) (by rw [hb]; rfl) hL.2.2.2.2 rfl
        case run =>
         simp only [List.take_succ_cons, List.take_zero]
         rw [hb] at hL
         try simp only [go_sem, simprocAttr, hL, hX]
         repeat' refine And.intro (by first | rfl | omega | (simp; done)) ?_
         refine hK1 _ ?_ ?_ ?_ <;> simp only [go_sem, simprocAttr, hL, hX] <;> exact rfl
        simp only [List.drop_succ_cons, List.drop_zero]
        try simp only [go_sem, simprocAttr, hL, hX] at hM
        replace hL := And.intro hP hM
        clear hP hM
        try simp only [go_sem, simprocAttr, hL, hX]
        repeat' refine And.intro (by first | rfl | omega | (simp; done)) ?_
        refine zEG [0, 1, 2, 3] [3, 4, 5, 6, 72] ?_
        clear hK K hL
        refine zC ?_ ?_
        · intro c4
          intro ρ hL
          refine zA ?_
          intro K hK
          refine zF (sat_laws_sameInts (learn xs w v) xs hb8) ?_
          refine zEG [] [2] ?_
          clear hK K hL
          refine zR ?_
          try simp only [go_sem, simprocAttr]
          all_goals (rw [learn_out (by omega), decide_eq_true rfl])
        · intro c4
          intro ρ hL
          refine awl_skip ?_
          revert ρ hL
          refine zG [0, 1, 2, 3] [3, 4, 5, 6, 10] ?_
          intro ρ hL
          have e2 := hL
          refine awl_loopH (fun H0 n σ G => ∃ (i : Nat), n = xs.length - i ∧ (i ≤ xs.length) ∧ (liveE [3, 4, 5, 6] σ ρ ∧ σ 10 = .int .i64 (i : Int)) ∧ G = H0) (fun H0 σ G => (liveE [4, 5, 6] σ ρ) ∧ G = H0) ((fun (i : Nat) => xs.length - i) 0) ?init2 (fun n ρ G hI => ?round2) (fun ρ G hJ => ?after2)
          case init2 => exact ⟨0, rfl, (Nat.zero_le _), ⟨liveE_refl _ _, (hL.2.2.2.2)⟩, rfl⟩
          case round2 =>
           clear hL
           obtain ⟨i, hn, i2_0, hL, hG⟩ := hI
           subst hG
           try simp only [go_sem, simprocAttr, e2, hX] at hL
           revert ρ hL
           refine zG [0, 1, 2, 3] [3, 4, 5, 6, 10, 79] ?_
           refine zC ?_ ?_
           · intro c5
             have hi2 : i < xs.length := by omega
             replace hX := And.intro hi2 hX
             intro ρ hL
             refine awl_skip ?_
             refine awl_seq ?_
             refine awl_block fun R1 hw1 hR1 => ?_
             refine awl_seq ?_
             have hat := ints_cut_at hl1 (by omega)
             have hX0 := hX
             replace hX := And.intro hat hX
             have j3 := hL
             refine awl_regDJ mixed _ rfl (fun H0 σ G => (liveE [3, 4, 5, 6, 10] σ ρ ∧ σ 96 = .bool false) ∧ G = H0) (fun K hK => ?inner3) (fun ρ G hJ => ?after3)
             case inner3 =>
              try simp only [go_sem, simprocAttr, hL, hX]
              repeat' refine And.intro (by first | omega | (exact ⟨[0, 0, 2, 7, 15, 31, 31, 127, 255, 31, 31, 1567, 3615, 8191, 16383], by kernel_rfl⟩) | kernel_rfl) ?_
              refine awpDS_split (b := ?b5) 86 (by simp only [go_sem, simprocAttr, hL, hX]; exact rfl) (fun hb5 => ?_) (fun hb5 => ?_)
              ·
               replace hX := And.intro hb5 hX
               have kO := learn_other (xs := xs) (w := w) (v := v) (i := i) (by simpa using hb5)
               have kP : decide (xs.getD i 0 = xs.getD i 0) = true := decide_eq_true rfl
               replace hX := And.intro kO (And.intro kP hX)
               try simp only [go_sem, simprocAttr, hL, hX]
               repeat' refine And.intro (by first | omega | (exact ⟨[0, 0, 2, 7, 15, 31, 31, 127, 255, 31, 31, 1567, 3615, 8191, 16383], by kernel_rfl⟩) | kernel_rfl) ?_
               exact hK _ _ ⟨⟨(by simp only [go_sem, simprocAttr, hL, hX, j3]), (by simp only [go_sem, simprocAttr, hL, hX, j3]; first | done | rfl)⟩, rfl⟩
              ·
               replace hX := And.intro hb5 hX
               try simp only [go_sem, simprocAttr, hL, hX]
               repeat' refine And.intro (by first | omega | (exact ⟨[0, 0, 2, 7, 15, 31, 31, 127, 255, 31, 31, 1567, 3615, 8191, 16383], by kernel_rfl⟩) | kernel_rfl) ?_
               exact hK _ _ ⟨⟨(by simp only [go_sem, simprocAttr, hL, hX, j3]), (by simp only [go_sem, simprocAttr, hL, hX, j3]; first | done | rfl)⟩, rfl⟩
             case after3 =>
              clear hL
              obtain ⟨hL, hG⟩ := hJ
              subst hG
              try simp only [go_sem, simprocAttr, j3, hX] at hL
              clear hX
              have hX := hX0
              clear hX0
              revert ρ hL
              refine zQ ?_ ?_
              · intro c6
                try simp only [cnd] at c6
                first | done | cases c6 | (simp at c6; done) | (simp at c6)
              · intro c6
                try simp only [cnd] at c6
                intro ρ hL
                refine awl_skip ?_
                refine awl_nil ?_
                refine blk_normal (hR1 _ _ (.mk ?_))
                have w2 : IntKind.i64.wrap ((i : Int) + 1) = ((i + 1 : Nat) : Int) := by rw [wrap64 (by omega)]; omega
                replace hX := And.intro w2 hX
                revert ρ hL
                refine zG [0, 1, 2, 3] [3, 4, 5, 6, 10] ?_
                intro ρ hL
                refine awl_nil ?_
                refine loop_again _ ?meas ⟨i + 1, rfl, (by omega), ⟨(by simp only [go_sem, simprocAttr, hL, hX, e2]), (hL.2.2.2.2)⟩, rfl⟩
                case meas => subst hn; omega
           · intro c5
             intro ρ hL
             refine awl_exit ?_
             refine loop_break ?_
             exact ⟨(by simp only [go_sem, simprocAttr, hL, hX, e2]), rfl⟩
          case after2 =>
           clear hL
           obtain ⟨hL, hG⟩ := hJ
           subst hG
           try simp only [go_sem, simprocAttr, e2, hX] at hL
           refine zAD [0, 0, 3, 7, 0, 16, 55, 119, 255, 511] ?_
           intro K hK
           refine zFD [0, 0, 3, 7, 0, 16, 55, 119, 255, 511] (sat_impl_Guess (learn xs w v) w (by rw [learn_len]; omega)) ?_
           refine zFD [0, 0, 3, 7, 0, 16, 55, 119, 255, 511] (sat_impl_Plain _) ?_
           refine zEG [] [2] ?_
           clear hK K hL
           refine zR ?_
           try simp only [go_sem, simprocAttr]
           all_goals try clear hR1
           all_goals (rw [AV.bool.injEq, decide_eq_true_eq]; exact guess_learn (by omega))
end
end Go.Proofs.Yteojcehneipgdaa.AM
