/- The law SettledRight, of what is drawn. No conditions but those each theorem bears. -/
import Derived.Test.YtdifphcihhbjlaaGreatFa
import Derived.Test.YtdifphcihhbjlaaGreatM9
import Derived.Test.YtdifphcihhbjlaaGreatCa64
import Derived.Test.YtdifphcihhbjlaaGreatCa41
import Derived.Test.YtdifphcihhbjlaaGreatCa40
import Derived.Test.YtdifphcihhbjlaaGreatCa32
import Derived.Test.YtdifphcihhbjlaaGreatCa8
set_option linter.unusedSimpArgs false
set_option linter.unusedVariables false
namespace Go.Proofs.YtdifphcihhbjlaaGreat.AM
open Go
set_option maxHeartbeats 8000000
set_option maxRecDepth 100000

section
attribute [local go_sem] decide_true
theorem sat_laws_FnSettledRight (bs : List UInt8) (hs : bs.length ≤ 9223372036854775807) : Sat Tryz.prog 9 [.sl bs.length bs.length (bytesV bs)] [] (.bool true) [] := by
 have hX := trivial
 refine sat_mk [.tmp 2] 0 64 Tryz.call9 Tryz.func9 Tryz.ntmps9 rfl rfl rfl rfl rfl ?_
 refine zI [0] ?_
 refine zG [] [0] ?_
 intro ρ hL
 refine zA ?_
 intro K hK
 refine zF (sat_laws_big _) ?_
 refine zEG [] [0, 14] ?_
 clear hK K hL
 refine zC ?_ ?_
 · intro c1
   refine zG [] [2] ?_
   refine zR ?_
   try simp only [go_sem, simprocAttr]
   all_goals (rfl)
 · intro c1
   have hb : bs.length ≤ 1048576 := by omega
   intro ρ hL
   refine awl_skip ?_
   obtain ⟨l, s, ps, hk9, hs1⟩ := sat_spec_DrawPlayed bs hb
   obtain ⟨⟨hl, hok⟩, hps⟩ := hk9
   have hl9 : l.length ≤ 1048576 := by omega
   have hf := ok_fit hok
   have hps9 : ps.length ≤ 1048576 := by omega
   have hfr := (runC_fit (l := l) (ps := ps) hf)
   have hmo := run_more (l := l) hok (ps := ps) (by omega)
   have hfs := (settle_fit hfr)
   refine zA ?_
   intro K hK
   refine zFJ [] (hs1) ?_
   refine zEG [0, 5, 1, 2, 3, 4] [3, 4, 5] ?_
   clear hK K hL
   intro ρ hL
   refine zA ?_
   intro K hK
   refine zF (sat_impl_CoreRun l s ps hl9 hf hps9) ?_
   refine zEG [0, 1, 2, 3, 4, 12, 6, 7, 8, 9, 10, 11] [3, 4, 6, 7] ?_
   clear hK K hL
   intro ρ hL
   refine zA ?_
   intro K hK
   refine zF (sat_impl_Settle l (corRun l s ps).1 hfr) ?_
   refine zEG [0, 1, 2, 3, 4, 5, 6, 7, 8, 9, 10, 11, 17, 12, 13, 14, 15, 16] [3, 4, 6, 7, 8, 9] ?_
   clear hK K hL
   intro ρ hL
   refine zA ?_
   intro K hK
   refine zF (sat_spec_Settle l (corRun l s ps).1 hfr) ?_
   refine zEG [0, 1, 2, 3, 4, 11, 12, 13, 14, 15, 16, 17] [3, 4, 7, 8, 9, 11] ?_
   clear hK K hL
   have kR : decide (((settle (corRun l s ps).1).1.rob.length : Int) = 0) = true := decide_eq_true (by rw [hmo.1]; rfl)
   intro ρ hL
   replace hX := And.intro kR hX
   refine zA ?_
   intro K hK
   refine zEG [0, 1, 2, 3, 4, 5, 6, 7, 8, 9, 10, 11] [3, 4, 7, 8, 9, 48] ?_
   clear hK K hL
   refine zQ ?_ ?_
   · intro c2
     try simp only [cnd] at c2
     first | done | cases c2 | (simp at c2)
   · intro c2
     try simp only [cnd] at c2
     intro ρ hL
     refine awl_skip ?_
     revert ρ hL
     refine zG [0, 1, 2, 3, 4, 5, 6, 7, 8, 9, 10, 11] [3, 4, 7, 8, 9, 12] ?_
     intro ρ hL
     have e1 := hL
     refine awl_loopH (fun H0 n σ G => ∃ (o : List Int) (i : Nat), n = (settle (corRun l s ps).1).2.toNat - i ∧ (i ≤ (settle (corRun l s ps).1).2.toNat) ∧ (o = (corRun l s ps).2 ++ List.replicate i (-1)) ∧ (liveE [3, 4, 8, 9] σ ρ ∧ σ 7 = .slice 5 0 o.length 0 ∧ σ 12 = .int .i64 (i : Int)) ∧ G = [⟨5, rows l, true, false⟩, ⟨10, s.own 2 3 4, true, false⟩, ⟨6, rows s.regs, true, false⟩, ⟨6, rows s.mem.words, true, false⟩, ⟨1, rows s.mem.gone, true, false⟩, ⟨1, ints o, true, false⟩, ⟨19, (settle (corRun l s ps).1).1.own 7 8 9 10 11, true, false⟩, ⟨6, rows (settle (corRun l s ps).1).1.s.regs, true, false⟩, ⟨6, rows (settle (corRun l s ps).1).1.s.mem.words, true, false⟩, ⟨1, rows (settle (corRun l s ps).1).1.s.mem.gone, true, false⟩, ⟨40, rows (settle (corRun l s ps).1).1.rob, true, false⟩, ⟨1, ints (settle (corRun l s ps).1).1.guesses, true, false⟩]) (fun H0 σ G => ∃ (o : List Int), (o = (corRun l s ps).2 ++ List.replicate (settle (corRun l s ps).1).2.toNat (-1)) ∧ (liveE [3, 4, 8] σ ρ ∧ σ 7 = .slice 5 0 o.length 0) ∧ G = [⟨5, rows l, true, false⟩, ⟨10, s.own 2 3 4, true, false⟩, ⟨6, rows s.regs, true, false⟩, ⟨6, rows s.mem.words, true, false⟩, ⟨1, rows s.mem.gone, true, false⟩, ⟨1, ints o, true, false⟩, ⟨19, (settle (corRun l s ps).1).1.own 7 8 9 10 11, true, false⟩, ⟨6, rows (settle (corRun l s ps).1).1.s.regs, true, false⟩, ⟨6, rows (settle (corRun l s ps).1).1.s.mem.words, true, false⟩, ⟨1, rows (settle (corRun l s ps).1).1.s.mem.gone, true, false⟩, ⟨40, rows (settle (corRun l s ps).1).1.rob, true, false⟩, ⟨1, ints (settle (corRun l s ps).1).1.guesses, true, false⟩]) ((fun (o : List Int) (i : Nat) => (settle (corRun l s ps).1).2.toNat - i) (corRun l s ps).2  0) ?init1 (fun n ρ G hI => ?round1) (fun ρ G hJ => ?after1)
     case init1 => exact ⟨(corRun l s ps).2, 0, rfl, (Nat.zero_le _), (by simp), ⟨liveE_refl _ _, (hL.2.2.1), (hL.2.2.2.2.2)⟩, rfl⟩
     case round1 =>
      clear hL
      obtain ⟨o, i, hn, i1_0, i1_1, hL, hG⟩ := hI
      subst hG
      try simp only [go_sem, simprocAttr, e1, hX] at hL
      revert ρ hL
      refine zG [0, 1, 2, 3, 4, 5, 6, 7, 8, 9, 10, 11] [3, 4, 7, 8, 9, 12, 51] ?_
      refine zC ?_ ?_
      · intro c3
        intro ρ hL
        refine awl_skip ?_
        refine awl_seq ?_
        refine awl_block fun R1 hw1 hR1 => ?_
        have hrl := runC_len (l := l) (s := s) (ps := ps)
        have hol : o.length ≤ 1048576 := by rw [i1_1, List.length_append, List.length_replicate]; omega
        revert ρ hL
        refine zG [0, 1, 2, 3, 4, 13, 6, 7, 8, 9, 10, 11] [3, 4, 7, 8, 9, 12] ?_
        intro ρ hL
        refine awl_nil ?_
        refine blk_normal (hR1 _ _ (.mk ?_))
        have wi : IntKind.i64.wrap ((i : Int) + 1) = ((i + 1 : Nat) : Int) := by rw [wrap64 (by omega)]; omega
        have hX0 := hX
        replace hX := And.intro wi hX
        revert ρ hL
        refine zG [0, 1, 2, 3, 4, 5, 6, 7, 8, 9, 10, 11] [3, 4, 7, 8, 9, 12] ?_
        clear hX
        have hX := hX0
        clear hX0
        intro ρ hL
        refine awl_nil ?_
        refine loop_again _ ?meas ⟨(o ++ [-1]), (i + 1), rfl, (by omega), (by rw [i1_1, List.append_assoc, List.replicate_succ']), ⟨(by simp only [go_sem, simprocAttr, hL, hX, e1]), ((by simp only [go_sem, simprocAttr, hL, hX, e1]; rw [List.length_append]; rfl)), (hL.2.2.2.2.2)⟩, (by first | rfl | rw [ints_snoc] | (simp only [go_sem, simprocAttr, hL, hX, e1]; rw [ints_snoc]))⟩
        case meas => subst hn; omega
      · intro c3
        intro ρ hL
        refine awl_exit ?_
        refine loop_break ?_
        exact ⟨o, (by rw [show (settle (corRun l s ps).1).2.toNat = i by omega]; exact i1_1), ⟨(by simp only [go_sem, simprocAttr, hL, hX, e1]), (hL.2.2.1)⟩, rfl⟩
     case after1 =>
      clear hL
      obtain ⟨o, j1_0, hL, hG⟩ := hJ
      subst hG
      try simp only [go_sem, simprocAttr, e1, hX] at hL
      have hrl := runC_len (l := l) (s := s) (ps := ps)
      have hol : o.length ≤ 1048576 := by rw [j1_0, List.length_append, List.length_replicate]; omega
      refine zAD [0, 1, 0, 0, 0, 28, 63, 127] ?_
      intro K hK
      refine zFD [0, 1, 0, 0, 0, 28, 63, 127] (sat_impl_Run l s o hl9 hf hol) ?_
      refine zFD [0, 1, 0, 0, 0, 28, 63, 127] (sat_impl_Alike (settle (corRun l s ps).1).1.s (run l s o) hfs.1) ?_
      refine zEG [] [2] ?_
      clear hK K hL
      refine zR ?_
      try simp only [go_sem, simprocAttr]
      all_goals try clear hR1
      all_goals (rw [j1_0]; exact congrArg AV.bool (alike_of hmo.2.2))
end
end Go.Proofs.YtdifphcihhbjlaaGreat.AM
