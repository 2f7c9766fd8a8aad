/- The law Step, of what is drawn. No conditions but those each theorem bears. -/
import Derived.Test.YteojcehneipgdaaGreatFa
import Derived.Test.YteojcehneipgdaaGreatSp25
import Derived.Test.YteojcehneipgdaaGreatCa60
import Derived.Test.YteojcehneipgdaaGreatCa56
import Derived.Test.YteojcehneipgdaaGreatCa30
import Derived.Test.YteojcehneipgdaaGreatCa19
import Derived.Test.YteojcehneipgdaaGreatCa8
set_option linter.unusedSimpArgs false
set_option linter.unusedVariables false
namespace Go.Proofs.YteojcehneipgdaaGreat.AM
open Go
set_option maxHeartbeats 8000000
set_option maxRecDepth 100000

section
attribute [local go_sem] word_deq
theorem sat_laws_FnStep (bs : List UInt8) (hs : bs.length ≤ 9223372036854775807) : Sat Tryz.prog 3 [.sl bs.length bs.length (bytesV bs)] [] (.bool true) [] := by
 have hX := trivial
 refine sat_mk [.tmp 2] 0 110 Tryz.call3 Tryz.func3 Tryz.ntmps3 rfl rfl rfl rfl rfl ?_
 refine zI [0] ?_
 refine zG [] [0] ?_
 intro ρ hL
 refine zA ?_
 intro K hK
 refine zF (sat_laws_big _) ?_
 refine zEG [] [0, 10] ?_
 clear hK K hL
 refine zC ?_ ?_
 · intro c1
   refine zG [] [2] ?_
   refine zR ?_
   try simp only [go_sem, simprocAttr]
   all_goals (rfl)
 · intro c1
   have hb : bs.length ≤ 1048576 := by omega
   intro ρ hL
   refine awl_skip ?_
   obtain ⟨l, s, rs, ws, p, o, hls, hs1⟩ := sat_spec_DrawStep bs hb
   obtain ⟨hl, hcr, hcw, hsm⟩ := hls
   have hf := small_fit hsm
   have hl9 : l.length ≤ 1048576 := by omega
   have hq1 := hcr.1
   have hq2 := hcw.1
   replace hX := And.intro hq1 (And.intro hq2 hX)
   refine zA ?_
   intro K hK
   refine zFJ [] (hs1) ?_
   refine zEG [0, 4, 1, 2, 3] [3, 4] ?_
   clear hK K hL
   intro ρ hL
   refine zA ?_
   intro K hK
   refine zF (sat_impl_Step l s hl9 hf) ?_
   refine zEG [0, 1, 2, 3, 4, 8, 5, 6, 7] [3, 4, 5] ?_
   clear hK K hL
   intro ρ hL
   refine zAD [0, 0, 0, 6, 15, 31] ?_
   intro K hK
   refine zFD [0, 0, 0, 6, 15, 31] (sat_spec_Step l s hl9 hf) ?_
   refine zFD [0, 0, 0, 6, 15, 31] (sat_impl_Alike (step l s) (step l s) (step_fit hf)) ?_
   refine zEG [1, 2, 3, 4, 5, 6, 7, 8] [4, 5, 24] ?_
   clear hK K hL
   refine zC ?_ ?_
   · intro c2
     first | done | (rw [alike_refl] at c2; cases c2; done) | (simp at c2; done) | omega
   · intro c2
     intro ρ hL
     refine awl_skip ?_
     refine zA ?_
     intro K hK
     refine zF (sat_spec_StateOk s hf) ?_
     refine zEG [0, 1, 2, 3, 4, 5, 6, 7] [4, 5, 27] ?_
     clear hK K hL
     refine zC ?_ ?_
     · intro c3
       refine zG [] [2] ?_
       refine zR ?_
       try simp only [go_sem, simprocAttr]
       all_goals (rw [step_no c3]; rfl)
     · intro c3
       have hk := c3
       intro ρ hL
       refine awl_skip ?_
       revert ρ hL
       refine zG [0, 1, 2, 3, 4, 5, 6, 7] [4, 5, 6] ?_
       refine zG [0, 1, 2, 3, 4, 5, 6, 7] [4, 5, 6, 7] ?_
       intro ρ hL
       have e1 := hL
       refine awl_loopH (fun H0 n σ G => ∃ (i : Nat), n = 8 - i ∧ (i ≤ 8) ∧ (liveE [4, 5] σ ρ ∧ σ 6 = .int .i64 ((dif noWord (step l s).regs s.regs i : Nat) : Int) ∧ σ 7 = .int .i64 (i : Int)) ∧ G = H0) (fun H0 σ G => (liveE [4, 5] σ ρ ∧ σ 6 = .int .i64 ((dif noWord (step l s).regs s.regs 8 : Nat) : Int)) ∧ G = H0) ((fun (i : Nat) => 8 - i) 0) ?init1 (fun n ρ G hI => ?round1) (fun ρ G hJ => ?after1)
       case init1 => exact ⟨0, rfl, (Nat.zero_le _), ⟨liveE_refl _ _, (hL.2.2.1), (hL.2.2.2)⟩, rfl⟩
       case round1 =>
        clear hL
        obtain ⟨i, hn, i1_0, hL, hG⟩ := hI
        subst hG
        try simp only [go_sem, simprocAttr, e1, hX] at hL
        revert ρ hL
        refine zG [0, 1, 2, 3, 4, 5, 6, 7] [4, 5, 6, 7, 33] ?_
        refine zC ?_ ?_
        · intro c4
          have hi1 : i < 8 := by omega
          replace hX := And.intro hi1 hX
          intro ρ hL
          refine awl_skip ?_
          refine awl_seq ?_
          refine awl_block fun R1 hw1 hR1 => ?_
          have h8 := (sttOk_iff.1 hk).2.1
          have h8t := (sttOk_iff.1 (step_ok (l := l) hk)).2.1
          have hi8 : i < s.regs.length := by omega
          have hi9 : i < (step l s).regs.length := by omega
          have hat := words_cut_at hcr.1 hi8
          have hX0 := hX
          replace hX := And.intro hi8 (And.intro hi9 (And.intro hat hX))
          revert ρ hL
          refine zGD [0, 1, 0, 7, 15, 0, 32, 0, 224, 480, 1023] [0, 1, 2, 3, 4, 5, 6, 7] [4, 5, 6, 7, 46] ?_
          clear hX
          have hX := hX0
          clear hX0
          refine zC ?_ ?_
          · intro c5
            have b0 := dif_le (d := noWord) (xs := (step l s).regs) (ys := s.regs) i
            have wt : IntKind.i64.wrap (((dif noWord (step l s).regs s.regs i : Nat) : Int) + 1) = ((dif noWord (step l s).regs s.regs i : Nat) : Int) + 1 := wrap64 (by omega)
            have hX0 := hX
            replace hX := And.intro wt hX
            refine zG [0, 1, 2, 3, 4, 5, 6, 7] [4, 5, 6, 7] ?_
            clear hX
            have hX := hX0
            clear hX0
            intro ρ hL
            refine awl_nil ?_
            refine blk_normal (hR1 _ _ (.mk ?_))
            have wi : IntKind.i64.wrap ((i : Int) + 1) = ((i + 1 : Nat) : Int) := by rw [wrap64 (by omega)]; omega
            have hX0 := hX
            replace hX := And.intro wi hX
            have w1 : IntKind.i64.wrap ((i : Int) + 1) = ((i + 1 : Nat) : Int) := by rw [wrap64 (by omega)]; omega
            replace hX := And.intro w1 hX
            revert ρ hL
            refine zG [0, 1, 2, 3, 4, 5, 6, 7] [4, 5, 6, 7] ?_
            clear hX
            have hX := hX0
            clear hX0
            intro ρ hL
            refine awl_nil ?_
            have h6 := hL.2.2.1
            refine loop_again _ ?meas ⟨i + 1, rfl, (by omega), ⟨(by simp only [go_sem, simprocAttr, hL, hX, e1]), ((by rw [h6, dif_ne c5]; rfl)), (hL.2.2.2)⟩, rfl⟩
            case meas => subst hn; omega
          · intro c5
            intro ρ hL
            refine awl_skip ?_
            refine awl_nil ?_
            refine blk_normal (hR1 _ _ (.mk ?_))
            have wi : IntKind.i64.wrap ((i : Int) + 1) = ((i + 1 : Nat) : Int) := by rw [wrap64 (by omega)]; omega
            have hX0 := hX
            replace hX := And.intro wi hX
            have w1 : IntKind.i64.wrap ((i : Int) + 1) = ((i + 1 : Nat) : Int) := by rw [wrap64 (by omega)]; omega
            replace hX := And.intro w1 hX
            revert ρ hL
            refine zG [0, 1, 2, 3, 4, 5, 6, 7] [4, 5, 6, 7] ?_
            clear hX
            have hX := hX0
            clear hX0
            intro ρ hL
            refine awl_nil ?_
            have h6 := hL.2.2.1
            refine loop_again _ ?meas ⟨i + 1, rfl, (by omega), ⟨(by simp only [go_sem, simprocAttr, hL, hX, e1]), ((by rw [h6, dif_eq c5])), (hL.2.2.2)⟩, rfl⟩
            case meas => subst hn; omega
        · intro c4
          intro ρ hL
          refine awl_exit ?_
          refine loop_break ?_
          have h6 := hL.2.2.1
          exact ⟨⟨(by simp only [go_sem, simprocAttr, hL, hX, e1]), (by rw [h6, show i = 8 by omega])⟩, rfl⟩
       case after1 =>
        clear hL
        obtain ⟨hL, hG⟩ := hJ
        subst hG
        try simp only [go_sem, simprocAttr, e1, hX] at hL
        revert ρ hL
        refine zG [0, 1, 2, 3, 4, 5, 6, 7] [4, 5, 6, 8] ?_
        intro ρ hL
        have e2 := hL
        refine awl_loopH (fun H0 n σ G => ∃ (i : Nat), n = 24 - i ∧ (i ≤ 24) ∧ (liveE [4, 5] σ ρ ∧ σ 6 = .int .i64 ((dif noWord (step l s).regs s.regs 8 + dif noWord (step l s).mem.words s.mem.words i + dif false (step l s).mem.gone s.mem.gone i : Nat) : Int) ∧ σ 8 = .int .i64 (i : Int)) ∧ G = H0) (fun H0 σ G => (liveE [4, 5] σ ρ ∧ σ 6 = .int .i64 ((dif noWord (step l s).regs s.regs 8 + dif noWord (step l s).mem.words s.mem.words 24 + dif false (step l s).mem.gone s.mem.gone 24 : Nat) : Int)) ∧ G = H0) ((fun (i : Nat) => 24 - i) 0) ?init2 (fun n ρ G hI => ?round2) (fun ρ G hJ => ?after2)
        case init2 => exact ⟨0, rfl, (Nat.zero_le _), ⟨liveE_refl _ _, (hL.2.2.1), (hL.2.2.2)⟩, rfl⟩
        case round2 =>
         clear hL
         obtain ⟨i, hn, i2_0, hL, hG⟩ := hI
         subst hG
         try simp only [go_sem, simprocAttr, e2, hX] at hL
         revert ρ hL
         refine zG [0, 1, 2, 3, 4, 5, 6, 7] [4, 5, 6, 8, 50] ?_
         refine zC ?_ ?_
         · intro c6
           have hi2 : i < 24 := by omega
           replace hX := And.intro hi2 hX
           intro ρ hL
           refine awl_skip ?_
           refine awl_seq ?_
           refine awl_block fun R2 hw2 hR2 => ?_
           have hm4 := (memOk_iff.1 (sttOk_iff.1 hk).2.2.2.1)
           have hm5 := (memOk_iff.1 (sttOk_iff.1 (step_ok (l := l) hk)).2.2.2.1)
           have hm6 := hm4.1
           have hm7 := hm5.1
           have hg6 := hm4.2.1
           have hg7 := hm5.2.1
           have hi8 : i < s.mem.words.length := by omega
           have hi9 : i < (step l s).mem.words.length := by omega
           have hat := words_cut_at hcw.1 hi8
           have hX0 := hX
           replace hX := And.intro hi8 (And.intro hi9 (And.intro hat hX))
           revert ρ hL
           refine zGD [0, 1, 3, 0, 15, 31, 0, 64, 192, 0, 960, 1984, 4095] [0, 1, 2, 3, 4, 5, 6, 7] [4, 5, 6, 8, 65] ?_
           clear hX
           have hX := hX0
           clear hX0
           refine zC ?_ ?_
           · intro c7
             have b1 := dif_le (d := noWord) (xs := (step l s).regs) (ys := s.regs) 8
             have b2 := dif_le (d := noWord) (xs := (step l s).mem.words) (ys := s.mem.words) i
             have b3 := dif_le (d := false) (xs := (step l s).mem.gone) (ys := s.mem.gone) i
             have wt : IntKind.i64.wrap (((dif noWord (step l s).regs s.regs 8 + dif noWord (step l s).mem.words s.mem.words i + dif false (step l s).mem.gone s.mem.gone i : Nat) : Int) + 1) = ((dif noWord (step l s).regs s.regs 8 + dif noWord (step l s).mem.words s.mem.words i + dif false (step l s).mem.gone s.mem.gone i : Nat) : Int) + 1 := wrap64 (by omega)
             have hX0 := hX
             replace hX := And.intro wt hX
             refine zG [0, 1, 2, 3, 4, 5, 6, 7] [4, 5, 6, 8] ?_
             clear hX
             have hX := hX0
             clear hX0
             have hj8 : i < s.mem.gone.length := by omega
             have hj9 : i < (step l s).mem.gone.length := by omega
             have hX0 := hX
             replace hX := And.intro hj8 (And.intro hj9 hX)
             refine zGD [0, 1, 3, 0, 15, 31, 0, 64, 192, 0, 960, 1984, 4095] [0, 1, 2, 3, 4, 5, 6, 7] [4, 5, 6, 8, 80] ?_
             clear hX
             have hX := hX0
             clear hX0
             refine zC ?_ ?_
             · intro c8
               have b1 := dif_le (d := noWord) (xs := (step l s).regs) (ys := s.regs) 8
               have b2 := dif_le (d := noWord) (xs := (step l s).mem.words) (ys := s.mem.words) i
               have b3 := dif_le (d := false) (xs := (step l s).mem.gone) (ys := s.mem.gone) i
               have wu : IntKind.i64.wrap (((dif noWord (step l s).regs s.regs 8 + dif noWord (step l s).mem.words s.mem.words i + dif false (step l s).mem.gone s.mem.gone i : Nat) : Int) + 1 + 1) = ((dif noWord (step l s).regs s.regs 8 + dif noWord (step l s).mem.words s.mem.words i + dif false (step l s).mem.gone s.mem.gone i : Nat) : Int) + 1 + 1 := wrap64 (by omega)
               have wv : IntKind.i64.wrap (((dif noWord (step l s).regs s.regs 8 + dif noWord (step l s).mem.words s.mem.words i + dif false (step l s).mem.gone s.mem.gone i : Nat) : Int) + 1) = ((dif noWord (step l s).regs s.regs 8 + dif noWord (step l s).mem.words s.mem.words i + dif false (step l s).mem.gone s.mem.gone i : Nat) : Int) + 1 := wrap64 (by omega)
               have hX0 := hX
               replace hX := And.intro wu (And.intro wv hX)
               refine zG [0, 1, 2, 3, 4, 5, 6, 7] [4, 5, 6, 8] ?_
               clear hX
               have hX := hX0
               clear hX0
               intro ρ hL
               refine awl_nil ?_
               refine blk_normal (hR2 _ _ (.mk ?_))
               have wi : IntKind.i64.wrap ((i : Int) + 1) = ((i + 1 : Nat) : Int) := by rw [wrap64 (by omega)]; omega
               have hX0 := hX
               replace hX := And.intro wi hX
               have w2 : IntKind.i64.wrap ((i : Int) + 1) = ((i + 1 : Nat) : Int) := by rw [wrap64 (by omega)]; omega
               replace hX := And.intro w2 hX
               revert ρ hL
               refine zG [0, 1, 2, 3, 4, 5, 6, 7] [4, 5, 6, 8] ?_
               clear hX
               have hX := hX0
               clear hX0
               intro ρ hL
               refine awl_nil ?_
               have h6 := hL.2.2.1
               refine loop_again _ ?meas ⟨i + 1, rfl, (by omega), ⟨(by simp only [go_sem, simprocAttr, hL, hX, e2]), ((by rw [h6, dif_ne c7, dif_ne (d := false) (xs := (step l s).mem.gone) (ys := s.mem.gone) (n := i) (by simpa using c8)]; first | done | rfl | (congr 1; omega))), (hL.2.2.2)⟩, rfl⟩
               case meas => subst hn; omega
             · intro c8
               intro ρ hL
               refine awl_skip ?_
               refine awl_nil ?_
               refine blk_normal (hR2 _ _ (.mk ?_))
               have wi : IntKind.i64.wrap ((i : Int) + 1) = ((i + 1 : Nat) : Int) := by rw [wrap64 (by omega)]; omega
               have hX0 := hX
               replace hX := And.intro wi hX
               have w2 : IntKind.i64.wrap ((i : Int) + 1) = ((i + 1 : Nat) : Int) := by rw [wrap64 (by omega)]; omega
               replace hX := And.intro w2 hX
               revert ρ hL
               refine zG [0, 1, 2, 3, 4, 5, 6, 7] [4, 5, 6, 8] ?_
               clear hX
               have hX := hX0
               clear hX0
               intro ρ hL
               refine awl_nil ?_
               have h6 := hL.2.2.1
               refine loop_again _ ?meas ⟨i + 1, rfl, (by omega), ⟨(by simp only [go_sem, simprocAttr, hL, hX, e2]), ((by rw [h6, dif_ne c7, dif_eq (d := false) (xs := (step l s).mem.gone) (ys := s.mem.gone) (n := i) (by simpa using c8)]; first | done | rfl | (congr 1; omega))), (hL.2.2.2)⟩, rfl⟩
               case meas => subst hn; omega
           · intro c7
             intro ρ hL
             refine awl_skip ?_
             have hj8 : i < s.mem.gone.length := by omega
             have hj9 : i < (step l s).mem.gone.length := by omega
             have hX0 := hX
             replace hX := And.intro hj8 (And.intro hj9 hX)
             revert ρ hL
             refine zGD [0, 1, 3, 0, 15, 31, 0, 64, 192, 0, 960, 1984, 4095] [0, 1, 2, 3, 4, 5, 6, 7] [4, 5, 6, 8, 80] ?_
             clear hX
             have hX := hX0
             clear hX0
             refine zC ?_ ?_
             · intro c9
               have b1 := dif_le (d := noWord) (xs := (step l s).regs) (ys := s.regs) 8
               have b2 := dif_le (d := noWord) (xs := (step l s).mem.words) (ys := s.mem.words) i
               have b3 := dif_le (d := false) (xs := (step l s).mem.gone) (ys := s.mem.gone) i
               have wu : IntKind.i64.wrap (((dif noWord (step l s).regs s.regs 8 + dif noWord (step l s).mem.words s.mem.words i + dif false (step l s).mem.gone s.mem.gone i : Nat) : Int) + 1 + 1) = ((dif noWord (step l s).regs s.regs 8 + dif noWord (step l s).mem.words s.mem.words i + dif false (step l s).mem.gone s.mem.gone i : Nat) : Int) + 1 + 1 := wrap64 (by omega)
               have wv : IntKind.i64.wrap (((dif noWord (step l s).regs s.regs 8 + dif noWord (step l s).mem.words s.mem.words i + dif false (step l s).mem.gone s.mem.gone i : Nat) : Int) + 1) = ((dif noWord (step l s).regs s.regs 8 + dif noWord (step l s).mem.words s.mem.words i + dif false (step l s).mem.gone s.mem.gone i : Nat) : Int) + 1 := wrap64 (by omega)
               have hX0 := hX
               replace hX := And.intro wu (And.intro wv hX)
               refine zG [0, 1, 2, 3, 4, 5, 6, 7] [4, 5, 6, 8] ?_
               clear hX
               have hX := hX0
               clear hX0
               intro ρ hL
               refine awl_nil ?_
               refine blk_normal (hR2 _ _ (.mk ?_))
               have wi : IntKind.i64.wrap ((i : Int) + 1) = ((i + 1 : Nat) : Int) := by rw [wrap64 (by omega)]; omega
               have hX0 := hX
               replace hX := And.intro wi hX
               have w2 : IntKind.i64.wrap ((i : Int) + 1) = ((i + 1 : Nat) : Int) := by rw [wrap64 (by omega)]; omega
               replace hX := And.intro w2 hX
               revert ρ hL
               refine zG [0, 1, 2, 3, 4, 5, 6, 7] [4, 5, 6, 8] ?_
               clear hX
               have hX := hX0
               clear hX0
               intro ρ hL
               refine awl_nil ?_
               have h6 := hL.2.2.1
               refine loop_again _ ?meas ⟨i + 1, rfl, (by omega), ⟨(by simp only [go_sem, simprocAttr, hL, hX, e2]), ((by rw [h6, dif_eq c7, dif_ne (d := false) (xs := (step l s).mem.gone) (ys := s.mem.gone) (n := i) (by simpa using c9)]; first | done | rfl | (congr 1; omega))), (hL.2.2.2)⟩, rfl⟩
               case meas => subst hn; omega
             · intro c9
               intro ρ hL
               refine awl_skip ?_
               refine awl_nil ?_
               refine blk_normal (hR2 _ _ (.mk ?_))
               have wi : IntKind.i64.wrap ((i : Int) + 1) = ((i + 1 : Nat) : Int) := by rw [wrap64 (by omega)]; omega
               have hX0 := hX
               replace hX := And.intro wi hX
               have w2 : IntKind.i64.wrap ((i : Int) + 1) = ((i + 1 : Nat) : Int) := by rw [wrap64 (by omega)]; omega
               replace hX := And.intro w2 hX
               revert ρ hL
               refine zG [0, 1, 2, 3, 4, 5, 6, 7] [4, 5, 6, 8] ?_
               clear hX
               have hX := hX0
               clear hX0
               intro ρ hL
               refine awl_nil ?_
               have h6 := hL.2.2.1
               refine loop_again _ ?meas ⟨i + 1, rfl, (by omega), ⟨(by simp only [go_sem, simprocAttr, hL, hX, e2]), ((by rw [h6, dif_eq c7, dif_eq (d := false) (xs := (step l s).mem.gone) (ys := s.mem.gone) (n := i) (by simpa using c9)]; first | done | rfl | (congr 1; omega))), (hL.2.2.2)⟩, rfl⟩
               case meas => subst hn; omega
         · intro c6
           intro ρ hL
           refine awl_exit ?_
           refine loop_break ?_
           have h6 := hL.2.2.1
           exact ⟨⟨(by simp only [go_sem, simprocAttr, hL, hX, e2]), (by rw [h6, show i = 24 by omega])⟩, rfl⟩
        case after2 =>
         clear hL
         obtain ⟨hL, hG⟩ := hJ
         subst hG
         try simp only [go_sem, simprocAttr, e2, hX] at hL
         refine zA ?_
         intro K hK
         refine zF (sat_impl_StateOk (step l s) (step_fit hf)) ?_
         refine zL [4, 5, 6, 85] ?_
         clear hL
         intro ρ hL
         refine grp_andN (tc := 85) (tv := 87) (td := 88) (v := ?v1) 2 rfl [4, 5, 6] hL.2.2.2 rfl (fun hb K1 hK1 => ?run) (fun hb => ?skip) (fun ρ hP hM => ?_)
         case skip => exact skA (want := true) (b := _) (by rw [hb]; rfl) hL.2.2.2 rfl
         case run =>
          simp only [List.take_succ_cons, List.take_zero]
          rw [hb] at hL
          try simp only [go_sem, simprocAttr, hL, hX]
          repeat' refine And.intro (by first | rfl | omega | (simp; done)) ?_
          refine hK1 _ ?_ ?_ ?_ <;> simp only [go_sem, simprocAttr, hL, hX] <;> exact rfl
         simp only [List.drop_succ_cons, List.drop_zero]
         try simp only [go_sem, simprocAttr, hL, hX] at hM
         replace hL := And.intro hP hM
         clear hP hM
         try simp only [go_sem, simprocAttr, hL, hX]
         repeat' refine And.intro (by first | rfl | omega | (simp; done)) ?_
         refine zL [4, 5, 6, 89] ?_
         clear hL
         intro ρ hL
         refine grp_andN (tc := 89) (tv := 103) (td := 104) (v := ?v2) 14 rfl [4, 5] hL.2.2.2 rfl (fun hb K1 hK1 => ?run) (fun hb => ?skip) (fun ρ hP hM => ?_)
         case skip => exact skA (want := true) (b := _) (by rw [hb]; rfl) hL.2.2.2 rfl
         case run =>
          simp only [List.take_succ_cons, List.take_zero]
          rw [hb] at hL
          have g3 := hL
          have hK1_3 := hK1
          try simp only [go_sem, simprocAttr, hL, hX]
          repeat' refine And.intro (by first | rfl | omega | (simp; done)) ?_
          refine zL [4, 5, 6, 89, 93] ?_
          clear hL
          intro ρ hL
          refine grp_orGN (tc := 93) (tv := 102) (td := 103) (v := ?v4) 9 89 true rfl hL.2.2.2.1 [4, 5, 89] rfl hL.2.2.2.2 rfl (fun hb K1 hK1 => ?run) (fun hb => ?skip) (fun ρ hP hM => ?_)
          case skip => exact skA (want := false) (b := _) (by rw [hb]; rfl) hL.2.2.2.2 rfl
          case run =>
           simp only [List.take_succ_cons, List.take_zero]
           rw [hb] at hL
           have g5 := hL
           have hK1_5 := hK1
           try simp only [go_sem, simprocAttr, hL, hX]
           repeat' refine And.intro (by first | rfl | omega | (simp; done)) ?_
           refine zL [4, 5, 89, 93, 96] ?_
           clear hL
           intro ρ hL
           refine grp_andGN (tc := 96) (tv := 101) (td := 102) (v := ?v6) 5 93 false rfl hL.2.2.2.1 [4, 5, 89, 93] rfl hL.2.2.2.2 rfl (fun hb K1 hK1 => ?run) (fun hb => ?skip) (fun ρ hP hM => ?_)
           case skip => exact skA (want := true) (b := _) (by rw [hb]; rfl) hL.2.2.2.2 rfl
           case run =>
            simp only [List.take_succ_cons, List.take_zero]
            rw [hb] at hL
            try simp only [go_sem, simprocAttr, hL, hX]
            repeat' refine And.intro (by first | rfl | omega | (simp; done)) ?_
            refine hK1 _ ?_ ?_ ?_ <;> simp only [go_sem, simprocAttr, hL, hX] <;> exact rfl
           simp only [List.drop_succ_cons, List.drop_zero]
           try simp only [go_sem, simprocAttr, hL, hX] at hM
           replace hL := And.intro hP hM
           clear hP hM
           try simp only [go_sem, simprocAttr, hL, hX]
           repeat' refine And.intro (by first | rfl | omega | (simp; done)) ?_
           refine hK1_5 _ ?_ ?_ ?_ <;> simp only [go_sem, simprocAttr, hL, hX, g5] <;> exact rfl
          simp only [List.drop_succ_cons, List.drop_zero]
          try simp only [go_sem, simprocAttr, hL, hX] at hM
          replace hL := And.intro hP hM
          clear hP hM
          try simp only [go_sem, simprocAttr, hL, hX]
          repeat' refine And.intro (by first | rfl | omega | (simp; done)) ?_
          refine hK1_3 _ ?_ ?_ ?_ <;> simp only [go_sem, simprocAttr, hL, hX, g3] <;> exact rfl
         simp only [List.drop_succ_cons, List.drop_zero]
         try simp only [go_sem, simprocAttr, hL, hX] at hM
         replace hL := And.intro hP hM
         clear hP hM
         try simp only [go_sem, simprocAttr, hL, hX]
         repeat' refine And.intro (by first | rfl | omega | (simp; done)) ?_
         refine zL [4, 5, 105] ?_
         clear hL
         intro ρ hL
         refine grp_andN (tc := 105) (tv := 108) (td := 109) (v := ?v7) 3 rfl [] hL.2.2 rfl (fun hb K1 hK1 => ?run) (fun hb => ?skip) (fun ρ hP hM => ?_)
         case skip => exact skA (want := true) (b := _) (by rw [hb]; rfl) hL.2.2 rfl
         case run =>
          simp only [List.take_succ_cons, List.take_zero]
          rw [hb] at hL
          try simp only [go_sem, simprocAttr, hL, hX]
          repeat' refine And.intro (by first | rfl | omega | (simp; done)) ?_
          refine zF (sat_impl_Closed s (step l s) hf (step_fit hf)) ?_
          refine hK1 _ ?_ ?_ ?_ <;> simp only [go_sem, simprocAttr, hL, hX] <;> exact rfl
         simp only [List.drop_succ_cons, List.drop_zero]
         clear hM hL
         have hL := hP
         clear hP
         try simp only [go_sem, simprocAttr, hL, hX]
         repeat' refine And.intro (by first | rfl | omega | (simp; done)) ?_
         refine zEG [] [2] ?_
         clear hK K hL
         refine zR ?_
         try simp only [go_sem, simprocAttr]
         all_goals try clear hR1
         all_goals try clear hR2
         all_goals (have kA := step_ok (l := l) hk; have kB := closed_step (l := l) hk; have kC := step_little (l := l) hk; unfold difS at kC; simp only [kA, kB, AV.bool.injEq, Bool.and_true, Bool.true_and, Bool.and_eq_true, Bool.or_eq_true, decide_eq_true_eq]; exact ⟨by omega, kC.2.imp id (fun g => ⟨by omega, g.2⟩)⟩)
end
end Go.Proofs.YteojcehneipgdaaGreat.AM
