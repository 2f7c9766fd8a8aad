/- The law Each, of what is drawn. No conditions but those each theorem bears. -/
import Derived.Test.YtdifphcihhbjlaaGreatFa
import Derived.Test.YtdifphcihhbjlaaGreatM8
import Derived.Test.YtdifphcihhbjlaaGreatCa64
import Derived.Test.YtdifphcihhbjlaaGreatCa39
import Derived.Test.YtdifphcihhbjlaaGreatCb5
import Derived.Test.YtdifphcihhbjlaaGreatCa8
set_option linter.unusedSimpArgs false
set_option linter.unusedVariables false
namespace Go.Proofs.YtdifphcihhbjlaaGreat.AM
open Go
set_option maxHeartbeats 8000000
set_option maxRecDepth 100000

theorem piks_atO {xs : List Pik} {i o : Nat} (h : i < xs.length) : (rows xs).drop (i * 2 + o) = (Pik.cells (xs.getD i noPik) ++ rows (xs.drop (i + 1))).drop o := by rw [← List.drop_drop, piks_at h]
section
attribute [local go_sem] decide_true
theorem sat_laws_FnEach (bs : List UInt8) (hs : bs.length ≤ 9223372036854775807) : Sat Tryz.prog 6 [.sl bs.length bs.length (bytesV bs)] [] (.bool true) [] := by
 have hX := trivial
 refine sat_mk [.tmp 2] 0 84 Tryz.call6 Tryz.func6 Tryz.ntmps6 rfl rfl rfl rfl rfl ?_
 refine zI [0] ?_
 refine zG [] [0] ?_
 intro ρ hL
 refine zA ?_
 intro K hK
 refine zF (sat_laws_big _) ?_
 refine zEG [] [0, 12] ?_
 clear hK K hL
 refine zC ?_ ?_
 · intro c1
   refine zG [] [2] ?_
   refine zR ?_
   try simp only [go_sem, simprocAttr]
   all_goals (rfl)
 · intro c1
   have hb : bs.length ≤ 1048576 := by omega
   intro ρ hL
   refine awl_skip ?_
   obtain ⟨l, s, ps, hk9, hs1⟩ := sat_spec_DrawPlayed bs hb
   obtain ⟨⟨hl, hok⟩, hps⟩ := hk9
   have hl9 : l.length ≤ 1048576 := by omega
   have hf := ok_fit hok
   have hnf := corNew_fit hf
   refine zA ?_
   intro K hK
   refine zFJ [] (hs1) ?_
   refine zEG [0, 5, 1, 2, 3, 4] [3, 4, 5] ?_
   clear hK K hL
   intro ρ hL
   refine zA ?_
   intro K hK
   refine zF (sat_impl_CoreNew s hf) ?_
   refine zEG [0, 1, 2, 3, 4, 5, 11, 6, 7, 8, 9, 10] [3, 4, 5, 6] ?_
   clear hK K hL
   intro ρ hL
   refine zAD [0, 1, 0, 4, 12, 31, 63] ?_
   intro K hK
   refine zFD [0, 1, 0, 4, 12, 31, 63] (sat_spec_CoreNew s hf) ?_
   refine zFD [0, 1, 0, 4, 12, 31, 63] (sat_impl_Alike (corNew s).s (corNew s).s hnf.1) ?_
   refine zEG [0, 5, 6, 7, 8, 9, 10, 11] [3, 5, 6, 27] ?_
   clear hK K hL
   refine zQ ?_ ?_
   · intro c2
     try simp only [cnd] at c2
     first | done | (rw [alike_refl] at c2; cases c2; done) | (simp at c2)
   · intro c2
     try simp only [cnd] at c2
     intro ρ hL
     refine awl_skip ?_
     revert ρ hL
     refine zG [0, 1, 2, 3, 4, 5, 6, 7] [3, 5, 6, 7] ?_
     intro ρ hL
     have e1 := hL
     refine awl_loopH (fun H0 n σ G => ∃ (u : Cor) (i : Nat), n = ps.length - i ∧ (i ≤ ps.length) ∧ (CInv l u) ∧ (liveE [3, 5, 6] σ ρ ∧ σ 7 = .int .i64 (i : Int)) ∧ G = [⟨5, rows l, true, false⟩, ⟨2, rows ps, true, false⟩, ⟨19, u.own 3 4 5 6 7, true, false⟩, ⟨6, rows u.s.regs, true, false⟩, ⟨6, rows u.s.mem.words, true, false⟩, ⟨1, rows u.s.mem.gone, true, false⟩, ⟨40, rows u.rob, true, false⟩, ⟨1, ints u.guesses, true, false⟩]) (fun H0 σ G => ∃ (u : Cor), (corOk u = true) ∧ (σ 5 = .slice 1 0 ps.length 0) ∧ G = [⟨5, rows l, true, false⟩, ⟨2, rows ps, true, false⟩, ⟨19, u.own 3 4 5 6 7, true, false⟩, ⟨6, rows u.s.regs, true, false⟩, ⟨6, rows u.s.mem.words, true, false⟩, ⟨1, rows u.s.mem.gone, true, false⟩, ⟨40, rows u.rob, true, false⟩, ⟨1, ints u.guesses, true, false⟩]) ((fun (u : Cor) (i : Nat) => ps.length - i) (corNew s)  0) ?init1 (fun n ρ G hI => ?round1) (fun ρ G hJ => ?after1)
     case init1 => exact ⟨(corNew s), 0, rfl, (Nat.zero_le _), (inv_new hok), ⟨liveE_refl _ _, (hL.2.2.2)⟩, rfl⟩
     case round1 =>
      clear hL
      obtain ⟨u, i, hn, i1_0, i1_1, hL, hG⟩ := hI
      subst hG
      try simp only [go_sem, simprocAttr, e1, hX] at hL
      revert ρ hL
      refine zG [0, 1, 2, 3, 4, 5, 6, 7] [3, 5, 6, 7, 31] ?_
      refine zC ?_ ?_
      · intro c3
        have hi1 : i < ps.length := by omega
        replace hX := And.intro hi1 hX
        intro ρ hL
        refine awl_skip ?_
        refine awl_seq ?_
        refine awl_block fun R1 hw1 hR1 => ?_
        have hfu := okC_fit i1_1.ok
        have hps1 := pick_s (p := (ps.getD i noPik)) i1_1
        have hpi := pick_inv (p := (ps.getD i noPik)) i1_1
        have hfn := okC_fit hpi.ok
        have hat := piks_at hi1
        have hX0 := hX
        replace hX := And.intro hat hX
        refine zAD [0, 0, 0, 0, 12, 28, 63, 127, 255, 255, 0, 1535, 4095] ?_
        intro K hK
        refine zFD [0, 0, 0, 0, 12, 28, 63, 127, 255, 255, 0, 1535, 4095] (sat_impl_CorePick l u (ps.getD i noPik) hl9 hfu) ?_
        refine zEG [0, 1, 2, 3, 4, 5, 6, 7, 13, 8, 9, 10, 11, 12] [3, 5, 6, 7, 8, 9] ?_
        clear hK K hL
        clear hX
        have hX := hX0
        clear hX0
        refine zG [0, 1, 2, 3, 4, 5, 6, 7, 8, 9, 10, 11, 12, 13, 14] [3, 5, 6, 7, 8, 9, 10] ?_
        intro ρ hL
        refine zA ?_
        intro K hK
        refine zL [3, 5, 6, 7, 8, 9, 10, 47] ?_
        clear hL
        intro ρ hL
        refine grp_andN (tc := 47) (tv := 53) (td := 54) (v := ?v1) 6 rfl [3, 5, 6, 7, 8, 9, 10] hL.2.2.2.2.2.2.2 rfl (fun hb K1 hK1 => ?run) (fun hb => ?skip) (fun ρ hP hM => ?_)
        case skip => exact skA (want := true) (b := _) (by rw [hb]; rfl) hL.2.2.2.2.2.2.2 rfl
        case run =>
         simp only [List.take_succ_cons, List.take_zero]
         rw [hb] at hL
         try simp only [go_sem, simprocAttr, hL, hX]
         repeat' refine And.intro (by first | rfl | omega | (simp; done)) ?_
         refine hK1 _ ?_ ?_ ?_ <;> simp only [go_sem, simprocAttr, hL, hX] <;> exact rfl
        simp only [List.drop_succ_cons, List.drop_zero]
        try simp only [go_sem, simprocAttr, hL, hX] at hM
        replace hL := And.intro hP hM
        clear hP hM
        try simp only [go_sem, simprocAttr, hL, hX]
        repeat' refine And.intro (by first | rfl | omega | (simp; done)) ?_
        refine zEG [0, 1, 2, 3, 4, 5, 6, 7, 8, 9, 10, 11, 12, 13, 14] [3, 5, 6, 7, 8, 9, 10, 54] ?_
        clear hK K hL
        refine zC ?_ ?_
        · intro c4
          intro ρ hL
          refine zA ?_
          intro K hK
          refine zF (sat_impl_Step l u.s hl9 hfu.1) ?_
          refine zEG [0, 1, 2, 3, 4, 5, 6, 7, 8, 9, 10, 11, 12, 13, 14, 15, 16, 17] [3, 5, 6, 7, 8, 9, 10] ?_
          clear hK K hL
          intro ρ hL
          refine zA ?_
          intro K hK
          refine zL [3, 5, 6, 7, 8, 10, 60] ?_
          clear hL
          intro ρ hL
          refine grp_andN (tc := 60) (tv := 66) (td := 67) (v := ?v2) 6 rfl [3, 5, 6, 7, 8, 10] hL.2.2.2.2.2.2 rfl (fun hb K1 hK1 => ?run) (fun hb => ?skip) (fun ρ hP hM => ?_)
          case skip => exact skA (want := true) (b := _) (by rw [hb]; rfl) hL.2.2.2.2.2.2 rfl
          case run =>
           simp only [List.take_succ_cons, List.take_zero]
           rw [hb] at hL
           try simp only [go_sem, simprocAttr, hL, hX]
           repeat' refine And.intro (by first | rfl | omega | (simp; done)) ?_
           refine hK1 _ ?_ ?_ ?_ <;> simp only [go_sem, simprocAttr, hL, hX] <;> exact rfl
          simp only [List.drop_succ_cons, List.drop_zero]
          try simp only [go_sem, simprocAttr, hL, hX] at hM
          replace hL := And.intro hP hM
          clear hP hM
          try simp only [go_sem, simprocAttr, hL, hX]
          repeat' refine And.intro (by first | rfl | omega | (simp; done)) ?_
          refine zEG [0, 1, 2, 3, 4, 5, 6, 7, 8, 9, 10, 11, 12, 13, 14, 15, 16, 17] [3, 5, 6, 7, 8, 10, 67] ?_
          clear hK K hL
          refine zQ ?_ ?_
          · intro c5
            try simp only [cnd] at c5
            exact absurd (c4.2.symm.trans c5.2) (by decide)
          · intro c5
            try simp only [cnd] at c5
            intro ρ hL
            refine awl_skip ?_
            refine zA ?_
            intro K hK
            refine zF (sat_impl_Alike (corPick l u (ps.getD i noPik)).1.s (step l u.s) hfn.1) ?_
            refine zEG [0, 1, 2, 3, 4, 5, 6, 7, 8, 9, 10, 11, 12, 13] [3, 5, 6, 7, 8, 82] ?_
            clear hK K hL
            refine zC ?_ ?_
            · intro c6
              (exfalso; rw [hps1] at c6; unfold pickS at c6; first | (rw [if_pos (And.intro c4.1 c4.2), alike_refl] at c6; cases c6; done) | (rw [if_neg (fun g => absurd (g.2.symm.trans c7.2) (by decide)), if_pos (And.intro c7.1 c7.2), alike_refl] at c6; cases c6; done) | (rw [if_neg (fun g => c4.elim (fun h => by rw [g.1] at h; cases h) (fun h => h g.2)), if_neg (fun g => c7.elim (fun h => by rw [g.1] at h; cases h) (fun h => h g.2)), alike_refl] at c6; cases c6; done))
            · intro c6
              intro ρ hL
              refine awl_skip ?_
              revert ρ hL
              refine zG [0, 1, 2, 9, 10, 11, 12, 13] [3, 5, 6, 7] ?_
              intro ρ hL
              refine awl_nil ?_
              refine blk_normal (hR1 _ _ (.mk ?_))
              have w1 : IntKind.i64.wrap ((i : Int) + 1) = ((i + 1 : Nat) : Int) := by rw [wrap64 (by omega)]; omega
              replace hX := And.intro w1 hX
              revert ρ hL
              refine zG [0, 1, 2, 3, 4, 5, 6, 7] [3, 5, 6, 7] ?_
              intro ρ hL
              refine awl_nil ?_
              refine loop_again _ ?meas ⟨(corPick l u (ps.getD i noPik)).1, (i + 1), rfl, (by omega), (by exact hpi), ⟨(by simp only [go_sem, simprocAttr, hL, hX, e1]), (hL.2.2.2)⟩, rfl⟩
              case meas => subst hn; omega
        · intro c4
          intro ρ hL
          refine awl_skip ?_
          refine zA ?_
          intro K hK
          refine zL [3, 5, 6, 7, 8, 10, 60] ?_
          clear hL
          intro ρ hL
          refine grp_andN (tc := 60) (tv := 66) (td := 67) (v := ?v3) 6 rfl [3, 5, 6, 7, 8, 10] hL.2.2.2.2.2.2 rfl (fun hb K1 hK1 => ?run) (fun hb => ?skip) (fun ρ hP hM => ?_)
          case skip => exact skA (want := true) (b := _) (by rw [hb]; rfl) hL.2.2.2.2.2.2 rfl
          case run =>
           simp only [List.take_succ_cons, List.take_zero]
           rw [hb] at hL
           try simp only [go_sem, simprocAttr, hL, hX]
           repeat' refine And.intro (by first | rfl | omega | (simp; done)) ?_
           refine hK1 _ ?_ ?_ ?_ <;> simp only [go_sem, simprocAttr, hL, hX] <;> exact rfl
          simp only [List.drop_succ_cons, List.drop_zero]
          try simp only [go_sem, simprocAttr, hL, hX] at hM
          replace hL := And.intro hP hM
          clear hP hM
          try simp only [go_sem, simprocAttr, hL, hX]
          repeat' refine And.intro (by first | rfl | omega | (simp; done)) ?_
          refine zEG [0, 1, 2, 3, 4, 5, 6, 7, 8, 9, 10, 11, 12, 13, 14] [3, 5, 6, 7, 8, 10, 67] ?_
          clear hK K hL
          refine zC ?_ ?_
          · intro c7
            have hato := piks_atO (o := 1) hi1
            have hX0 := hX
            replace hX := And.intro hato hX
            intro ρ hL
            refine zAD [0, 1, 3, 0, 0, 24, 56, 120, 255, 511, 1023] ?_
            intro K hK
            refine zFD [0, 1, 3, 0, 0, 24, 56, 120, 255, 511, 1023] (sat_impl_Sweep u.s.mem (ps.getD i noPik).n hfu.1.2) ?_
            refine zEG [0, 1, 2, 3, 4, 5, 6, 7, 8, 9, 10, 11, 12, 13, 14, 15, 16] [3, 5, 6, 7, 8, 10] ?_
            clear hK K hL
            clear hX
            have hX := hX0
            clear hX0
            intro ρ hL
            refine zA ?_
            intro K hK
            refine zF (sat_impl_Alike (corPick l u (ps.getD i noPik)).1.s (withMem u.s (sweep u.s.mem (ps.getD i noPik).n)) hfn.1) ?_
            refine zEG [0, 1, 2, 3, 4, 5, 6, 7, 8, 9, 10, 11, 12, 13] [3, 5, 6, 7, 8, 82] ?_
            clear hK K hL
            refine zC ?_ ?_
            · intro c8
              (exfalso; rw [hps1] at c8; unfold pickS at c8; first | (rw [if_pos (And.intro c4.1 c4.2), alike_refl] at c8; cases c8; done) | (rw [if_neg (fun g => absurd (g.2.symm.trans c7.2) (by decide)), if_pos (And.intro c7.1 c7.2), alike_refl] at c8; cases c8; done) | (rw [if_neg (fun g => c4.elim (fun h => by rw [g.1] at h; cases h) (fun h => h g.2)), if_neg (fun g => c7.elim (fun h => by rw [g.1] at h; cases h) (fun h => h g.2)), alike_refl] at c8; cases c8; done))
            · intro c8
              intro ρ hL
              refine awl_skip ?_
              revert ρ hL
              refine zG [0, 1, 2, 9, 10, 11, 12, 13] [3, 5, 6, 7] ?_
              intro ρ hL
              refine awl_nil ?_
              refine blk_normal (hR1 _ _ (.mk ?_))
              have w1 : IntKind.i64.wrap ((i : Int) + 1) = ((i + 1 : Nat) : Int) := by rw [wrap64 (by omega)]; omega
              replace hX := And.intro w1 hX
              revert ρ hL
              refine zG [0, 1, 2, 3, 4, 5, 6, 7] [3, 5, 6, 7] ?_
              intro ρ hL
              refine awl_nil ?_
              refine loop_again _ ?meas ⟨(corPick l u (ps.getD i noPik)).1, (i + 1), rfl, (by omega), (by exact hpi), ⟨(by simp only [go_sem, simprocAttr, hL, hX, e1]), (hL.2.2.2)⟩, rfl⟩
              case meas => subst hn; omega
          · intro c7
            intro ρ hL
            refine awl_skip ?_
            refine zA ?_
            intro K hK
            refine zF (sat_impl_Alike (corPick l u (ps.getD i noPik)).1.s u.s hfn.1) ?_
            refine zEG [0, 1, 2, 3, 4, 5, 6, 7, 8, 9, 10, 11, 12, 13] [3, 5, 6, 7, 8, 82] ?_
            clear hK K hL
            refine zC ?_ ?_
            · intro c9
              (exfalso; rw [hps1] at c9; unfold pickS at c9; first | (rw [if_pos (And.intro c4.1 c4.2), alike_refl] at c9; cases c9; done) | (rw [if_neg (fun g => absurd (g.2.symm.trans c7.2) (by decide)), if_pos (And.intro c7.1 c7.2), alike_refl] at c9; cases c9; done) | (rw [if_neg (fun g => c4.elim (fun h => by rw [g.1] at h; cases h) (fun h => h g.2)), if_neg (fun g => c7.elim (fun h => by rw [g.1] at h; cases h) (fun h => h g.2)), alike_refl] at c9; cases c9; done))
            · intro c9
              intro ρ hL
              refine awl_skip ?_
              revert ρ hL
              refine zG [0, 1, 2, 9, 10, 11, 12, 13] [3, 5, 6, 7] ?_
              intro ρ hL
              refine awl_nil ?_
              refine blk_normal (hR1 _ _ (.mk ?_))
              have w1 : IntKind.i64.wrap ((i : Int) + 1) = ((i + 1 : Nat) : Int) := by rw [wrap64 (by omega)]; omega
              replace hX := And.intro w1 hX
              revert ρ hL
              refine zG [0, 1, 2, 3, 4, 5, 6, 7] [3, 5, 6, 7] ?_
              intro ρ hL
              refine awl_nil ?_
              refine loop_again _ ?meas ⟨(corPick l u (ps.getD i noPik)).1, (i + 1), rfl, (by omega), (by exact hpi), ⟨(by simp only [go_sem, simprocAttr, hL, hX, e1]), (hL.2.2.2)⟩, rfl⟩
              case meas => subst hn; omega
      · intro c3
        intro ρ hL
        refine awl_exit ?_
        refine loop_break ?_
        exact ⟨u, (by exact i1_1.ok), (hL.2.1), rfl⟩
     case after1 =>
      clear hL
      obtain ⟨u, j1_0, hL, hG⟩ := hJ
      subst hG
      revert ρ hL
      refine zG [] [2] ?_
      refine zR ?_
      try simp only [go_sem, simprocAttr]
      all_goals try clear hR1
      all_goals (rfl)
end
end Go.Proofs.YtdifphcihhbjlaaGreat.AM
