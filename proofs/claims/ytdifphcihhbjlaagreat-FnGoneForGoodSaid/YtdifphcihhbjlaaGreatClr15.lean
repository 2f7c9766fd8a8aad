/- The law GoneForGood, of what is drawn. No conditions but those each theorem bears. -/
import Derived.Test.YtdifphcihhbjlaaGreatFa
import Derived.Test.YtdifphcihhbjlaaGreatSp32
import Derived.Test.YtdifphcihhbjlaaGreatCa64
import Derived.Test.YtdifphcihhbjlaaGreatCa67
import Derived.Test.YtdifphcihhbjlaaGreatCa32o
import Derived.Test.YtdifphcihhbjlaaGreatCa8
set_option linter.unusedSimpArgs false
set_option linter.unusedVariables false
namespace Go.Proofs.YtdifphcihhbjlaaGreat.AM
open Go
set_option maxHeartbeats 8000000
set_option maxRecDepth 100000

theorem sat_impl_Root   : Sat Tryz.prog 42 [] [] (.agg [.int .i64 0, .int .i64 4096, .int .i64 63, .int .i64 0]) [] := by
 have hX := trivial
 refine sat_mk [.cell 0 26] 0 2 Tryz.call42 Tryz.func42 Tryz.ntmps42 rfl rfl rfl rfl rfl ?_
 refine awl_live' [] fun ρ hL => ?_
 clear hL
 have hL := trivial
 refine zA ?_
 intro K hK
 refine zE [0] ?_
 clear hK K hL
 refine zS [0] ?_
 refine zR ?_
 try simp only [go_sem, simprocAttr]
 all_goals (first | done | rfl | (simp; done) | (simp [inR]; done) | (simp_all [inR]; done) | (simp [inR]; grind))
theorem sat_impl_KeyWord (k : Key) (n : Int)  : Sat Tryz.prog 41 [.agg k.cells, .int .i64 n] [] (.agg (keyWord k n).cells) [] := by
 have hX := trivial
 refine sat_mk [.cell 4 28] 0 14 Tryz.call41 Tryz.func41 Tryz.ntmps41 rfl rfl rfl rfl rfl ?_
 refine zI [0, 1] ?_
 refine zS [1, 2, 4] ?_
 refine zSF [2, 4, 5] (sat_impl_Plain _) ?_
 refine zSF [2, 4, 5, 9] (sat_impl_KeyOk _) ?_
 refine zC ?_ ?_
 · intro c1
   refine zD [0, 0, 2, 7, 15] [4, 5] ?_
   refine zS [4] ?_
   refine zR ?_
   try simp only [go_sem, simprocAttr]
   all_goals (rw [keyWord, if_pos c1] <;> rfl)
 · intro c1
   intro ρ hL
   refine awl_skip ?_
   revert ρ hL
   refine zS [4] ?_
   refine zR ?_
   try simp only [go_sem, simprocAttr]
   all_goals (rw [keyWord, if_neg (by rw [c1]; exact Bool.noConfusion)] <;> rfl)
theorem dropM_no {m : Mem} {n : Int} (h : memOk m = false) : dropM m n = noMem := by rw [dropM, if_neg (by rw [h]; exact Bool.noConfusion)]
theorem dropM_in {m : Mem} {n : Int} (h : memOk m = true) (hn : inR n 0 23 = true) : dropM m n = ⟨m.words, m.gone.set n.toNat true⟩ := by rw [dropM, if_pos h, if_pos hn]
theorem dropM_out {m : Mem} {n : Int} (h : memOk m = true) (hn : inR n 0 23 = false) : dropM m n = m := by rw [dropM, if_pos h, if_neg (by rw [hn]; exact Bool.noConfusion)]
theorem sat_impl_Drop (m : Mem) (n : Int) (hf : m.fit) : Sat Tryz.prog 37 [.agg m.cells, .int .i64 n] [] (.agg ((dropM m n).own 0 1)) (dropM m n).blks := by
 have hX := trivial
 refine sat_mk [.cell 4 31] 0 19 Tryz.call37 Tryz.func37 Tryz.ntmps37 rfl rfl rfl rfl rfl ?_
 refine zI [0, 1] ?_
 refine zS [1, 2, 4] ?_
 refine zSF [1, 2, 4, 8] (sat_impl_MemoryOk m hf) ?_
 refine zC ?_ ?_
 · intro c1
   refine zS [4] ?_
   intro ρ hL
   refine awl_ret ?_
   refine retN (v := .agg [.nilsl, .nilsl]) [6, 1] [2, 3] [2, 3] rfl (by simp only [go_sem, simprocAttr, hL, hX]; exact rfl) (by first | rfl | (simp only [go_sem, simprocAttr, hL, hX]; first | done | rfl)) (Ref.agg (RefL.cons (Ref.nil 2 ⟨Nat.le_of_ble_eq_true rfl, Nat.le_of_ble_eq_true rfl⟩) (RefL.cons (Ref.nil 3 ⟨Nat.le_of_ble_eq_true rfl, Nat.le_of_ble_eq_true rfl⟩) (RefL.same [])))) rfl (by decide) rfl rfl ?_ ?_
   all_goals try simp only [go_sem, simprocAttr, hL, hX]
   all_goals (rw [dropM_no c1] <;> rfl)
 · intro c1
   intro ρ hL
   refine awl_skip ?_
   revert ρ hL
   refine zSF [1, 4, 5] (sat_impl_cloneMemory m hf) ?_
   refine zSF [1, 4, 5, 13] (sat_impl_in _ _ _) ?_
   refine zC ?_ ?_
   · intro c2
     have hr := inR_iff.1 c2
     have h24 := (memOk_parts c1).2.1
     have hn2 : n.toNat < m.gone.length := by omega
     intro ρ hL
     repeat refine awl_seq ?_
     refine awl_regS _ rfl fun K hK => ?_
     try simp only [go_sem, simprocAttr, hL, hX, hn2, bools_put hn2]
     repeat' refine And.intro (by first | rfl | omega | (simp; done)) ?_
     refine hK _ _ (.mk (awl_live' [4, 5] fun ρ hM => ?_))
     try simp only [go_sem, simprocAttr, hL, hX, hn2, bools_put hn2] at hM
     clear hK K hL
     revert ρ hM
     refine zS [4] ?_
     refine zK [2, 3] [2, 3] ?_ ?_
     all_goals try simp only [go_sem, simprocAttr, hX]
     all_goals ((rw [dropM_in c1 c2] <;> (try simp only [List.length_set])) <;> first | done | rfl)
   · intro c2
     intro ρ hL
     refine awl_skip ?_
     revert ρ hL
     refine zS [4] ?_
     refine zK [2, 3] [2, 3] ?_ ?_
     all_goals try simp only [go_sem, simprocAttr, hX]
     all_goals (rw [dropM_out c1 c2] <;> rfl)
section
attribute [local go_sem] decide_true
theorem sat_laws_FnGoneForGood (bs : List UInt8) (hs : bs.length ≤ 9223372036854775807) : Sat Tryz.prog 5 [.sl bs.length bs.length (bytesV bs)] [] (.bool true) [] := by
 have hX := trivial
 refine sat_mk [.tmp 2] 0 83 Tryz.call5 Tryz.func5 Tryz.ntmps5 rfl rfl rfl rfl rfl ?_
 refine zI [0] ?_
 refine zG [] [0] ?_
 intro ρ hL
 refine zA ?_
 intro K hK
 refine zF (sat_laws_big _) ?_
 refine zEG [] [0, 15] ?_
 clear hK K hL
 refine zC ?_ ?_
 · intro c1
   refine zG [] [2] ?_
   refine zR ?_
   try simp only [go_sem, simprocAttr]
   all_goals (rfl)
 · intro c1
   have hb : bs.length ≤ 1048576 := by omega
   intro ρ hL
   refine awl_skip ?_
   obtain ⟨l, s, ps, hk9, hs1⟩ := sat_spec_DrawPlayed bs hb
   obtain ⟨⟨hl, hok⟩, hps⟩ := hk9
   have hl9 : l.length ≤ 1048576 := by omega
   have hf := ok_fit hok
   have hmk := (sttOk_iff.1 hok).2.2.2.1
   refine zA ?_
   intro K hK
   refine zFJ [] (hs1) ?_
   refine zEG [0, 5, 1, 2, 3] [0, 3, 4] ?_
   clear hK K hL
   obtain ⟨x, hx, hs2⟩ := sat_laws_at bs hb
   have hr0 := Int.tmod_nonneg 24 hx
   have hr1 := Int.tmod_lt_of_pos x (show (0 : Int) < 24 by decide)
   obtain ⟨y, hn⟩ : ∃ y : Int, x.tmod 24 = y := ⟨_, rfl⟩
   rw [hn] at hr0 hr1
   have hnr : inR y 0 23 = true := inR_iff.2 (by omega)
   have hs1 : sttOk (⟨s.regs, s.pc, dropM s.mem y, s.trap⟩ : Stt) = true := stt_mem hok (drop_ok hmk)
   have hf1 := ok_fit hs1
   have hg0 := drop_gone hmk hnr
   have hgo := gone_ord (l := l) (min (30 : Int) 600).toNat (k := 0) hs1 hg0
   rw [← inOrder_go hs1] at hgo
   have hf2 := ok_fit hgo.2
   have hm2 := (sttOk_iff.1 hgo.2).2.2.2.1
   replace hX := And.intro hn hX
   intro ρ hL
   refine zA ?_
   intro K hK
   refine zFJ [] (hs2) ?_
   refine zEG [0, 1, 2, 3, 4] [3, 4, 6] ?_
   clear hK K hL
   intro ρ hL
   refine zA ?_
   intro K hK
   refine zF (sat_impl_Drop s.mem y hf.2) ?_
   refine zEG [0, 1, 2, 5, 6] [3, 4, 6] ?_
   clear hK K hL
   intro ρ hL
   refine zA ?_
   intro K hK
   refine zF (sat_impl_InOrder l (⟨s.regs, s.pc, dropM s.mem y, s.trap⟩ : Stt) 30 hl9 hf1) ?_
   refine zEG [0, 1, 2, 3, 4, 8, 5, 6, 7] [3, 4, 6, 7, 8] ?_
   clear hK K hL
   intro ρ hL
   refine zA ?_
   intro K hK
   refine zF (sat_spec_InOrder l (⟨s.regs, s.pc, dropM s.mem y, s.trap⟩ : Stt) 30 hl9 hf1) ?_
   refine zEG [5, 6, 7, 8, 12, 9, 10, 11] [6, 7, 8, 9, 10] ?_
   clear hK K hL
   have kA : alike (inOrder l (⟨s.regs, s.pc, dropM s.mem y, s.trap⟩ : Stt) 30).1 (inOrder l (⟨s.regs, s.pc, dropM s.mem y, s.trap⟩ : Stt) 30).1 = true := alike_refl
   intro ρ hL
   replace hX := And.intro kA hX
   refine zA ?_
   intro K hK
   refine zF (sat_impl_Alike (inOrder l (⟨s.regs, s.pc, dropM s.mem y, s.trap⟩ : Stt) 30).1 (inOrder l (⟨s.regs, s.pc, dropM s.mem y, s.trap⟩ : Stt) 30).1 hf2) ?_
   refine zEG [0, 1, 2, 3] [6, 7, 50] ?_
   clear hK K hL
   refine zQ ?_ ?_
   · intro c2
     try simp only [cnd] at c2
     first | done | cases c2 | (simp at c2)
   · intro c2
     try simp only [cnd] at c2
     intro ρ hL
     refine awl_skip ?_
     revert ρ hL
     refine zG [0, 1, 2, 3] [6, 7, 11] ?_
     intro ρ hL
     have e1 := hL
     refine awl_loopH (fun H0 n σ G => ∃ (i : Nat), n = 24 - i ∧ (i ≤ 24) ∧ (liveE [6, 7] σ ρ ∧ σ 11 = .int .i64 (i : Int)) ∧ G = H0) (fun H0 σ G => (liveE [6, 7] σ ρ) ∧ G = H0) ((fun (i : Nat) => 24 - i) 0) ?init1 (fun n ρ G hI => ?round1) (fun ρ G hJ => ?after1)
     case init1 => exact ⟨0, rfl, (Nat.zero_le _), ⟨liveE_refl _ _, (hL.2.2)⟩, rfl⟩
     case round1 =>
      clear hL
      obtain ⟨i, hn, i1_0, hL, hG⟩ := hI
      subst hG
      try simp only [go_sem, simprocAttr, e1, hX] at hL
      revert ρ hL
      refine zG [0, 1, 2, 3] [6, 7, 11, 52] ?_
      refine zC ?_ ?_
      · intro c3
        have hi1 : i < 24 := by omega
        replace hX := And.intro hi1 hX
        intro ρ hL
        refine awl_skip ?_
        refine awl_seq ?_
        refine awl_block fun R1 hw1 hR1 => ?_
        have hgr := gone_read (i := (i : Int)) hm2 hnr hgo.1 (by omega)
        refine zAD [0, 1, 0, 4, 0, 31, 63, 127, 127, 0, 767, 2047] ?_
        intro K hK
        refine zFD [0, 1, 0, 4, 0, 31, 63, 127, 127, 0, 767, 2047] (sat_impl_Root) ?_
        refine zFD [0, 1, 0, 4, 0, 31, 63, 127, 127, 0, 767, 2047] (sat_impl_KeyWord ⟨0, 4096, 63, 0⟩ 0) ?_
        refine zFD [0, 1, 0, 4, 0, 31, 63, 127, 127, 0, 767, 2047] (sat_impl_Read (inOrder l (⟨s.regs, s.pc, dropM s.mem y, s.trap⟩ : Stt) 30).1.mem (keyWord ⟨0, 4096, 63, 0⟩ 0) (i : Int) hf2.2) ?_
        refine zEG [0, 1, 2, 3, 4] [6, 7, 11, 12, 13] ?_
        clear hK K hL
        intro ρ hL
        refine zA ?_
        intro K hK
        refine zL [6, 7, 11, 12, 66] ?_
        clear hL
        intro ρ hL
        refine grp_orN (tc := 66) (tv := 75) (td := 76) (v := ?v1) 9 rfl [6, 7, 11] hL.2.2.2.2 rfl (fun hb K1 hK1 => ?run) (fun hb => ?skip) (fun ρ hP hM => ?_)
        case skip => exact skA (want := false) (b := _) (by rw [hb]; rfl) hL.2.2.2.2 rfl
        case run =>
         simp only [List.take_succ_cons, List.take_zero]
         rw [hb] at hL
         have g2 := hL
         have hK1_2 := hK1
         try simp only [go_sem, simprocAttr, hL, hX]
         repeat' refine And.intro (by first | rfl | omega | (simp; done)) ?_
         refine zL [6, 7, 11, 12, 66, 69] ?_
         clear hL
         intro ρ hL
         refine grp_andGN (tc := 69) (tv := 74) (td := 75) (v := ?v3) 5 66 false rfl hL.2.2.2.2.1 [6, 7, 11, 66] rfl hL.2.2.2.2.2 rfl (fun hb K1 hK1 => ?run) (fun hb => ?skip) (fun ρ hP hM => ?_)
         case skip => exact skA (want := true) (b := _) (by rw [hb]; rfl) hL.2.2.2.2.2 rfl
         case run =>
          simp only [List.take_succ_cons, List.take_zero]
          rw [hb] at hL
          try simp only [go_sem, simprocAttr, hL, hX]
          repeat' refine And.intro (by first | rfl | omega | (simp; done)) ?_
          refine hK1 _ ?_ ?_ ?_ <;> simp only [go_sem, simprocAttr, hL, hX] <;> exact rfl
         simp only [List.drop_succ_cons, List.drop_zero]
         try simp only [go_sem, simprocAttr, hL, hX] at hM
         replace hL := And.intro hP hM
         clear hP hM
         try simp only [go_sem, simprocAttr, hL, hX]
         repeat' refine And.intro (by first | rfl | omega | (simp; done)) ?_
         refine hK1_2 _ ?_ ?_ ?_ <;> simp only [go_sem, simprocAttr, hL, hX, g2] <;> exact rfl
        simp only [List.drop_succ_cons, List.drop_zero]
        try simp only [go_sem, simprocAttr, hL, hX] at hM
        replace hL := And.intro hP hM
        clear hP hM
        try simp only [go_sem, simprocAttr, hL, hX]
        repeat' refine And.intro (by first | rfl | omega | (simp; done)) ?_
        refine zEG [0, 1, 2, 3] [6, 7, 11, 76] ?_
        clear hK K hL
        refine zQ ?_ ?_
        · intro c4
          try simp only [cnd] at c4
          first | done | (exfalso; rcases c4 with c4 | c4; exact c4 hgr.1; exact hgr.2 c4)
        · intro c4
          try simp only [cnd] at c4
          intro ρ hL
          refine awl_skip ?_
          refine awl_nil ?_
          refine blk_normal (hR1 _ _ (.mk ?_))
          have w1 : IntKind.i64.wrap ((i : Int) + 1) = ((i + 1 : Nat) : Int) := by rw [wrap64 (by omega)]; omega
          replace hX := And.intro w1 hX
          revert ρ hL
          refine zG [0, 1, 2, 3] [6, 7, 11] ?_
          intro ρ hL
          refine awl_nil ?_
          refine loop_again _ ?meas ⟨i + 1, rfl, (by omega), ⟨(by simp only [go_sem, simprocAttr, hL, hX, e1]), (hL.2.2)⟩, rfl⟩
          case meas => subst hn; omega
      · intro c3
        intro ρ hL
        refine awl_exit ?_
        refine loop_break ?_
        exact ⟨(by simp only [go_sem, simprocAttr, hL, hX, e1]), rfl⟩
     case after1 =>
      clear hL
      obtain ⟨hL, hG⟩ := hJ
      subst hG
      try simp only [go_sem, simprocAttr, e1, hX] at hL
      have hgl : y.toNat < (inOrder l (⟨s.regs, s.pc, dropM s.mem y, s.trap⟩ : Stt) 30).1.mem.gone.length := by rw [(memOk_iff.1 hm2).2.1]; omega
      have hn0 : (0 : Int) ≤ y := hr0
      have hn1 : y < ((inOrder l (⟨s.regs, s.pc, dropM s.mem y, s.trap⟩ : Stt) 30).1.mem.gone.length : Int) := by omega
      replace hX := And.intro hgl (And.intro hn0 (And.intro hn1 hX))
      revert ρ hL
      refine zG [] [2] ?_
      refine zR ?_
      try simp only [go_sem, simprocAttr]
      all_goals try clear hR1
      all_goals (rw [hgo.1])
end
end Go.Proofs.YtdifphcihhbjlaaGreat.AM
