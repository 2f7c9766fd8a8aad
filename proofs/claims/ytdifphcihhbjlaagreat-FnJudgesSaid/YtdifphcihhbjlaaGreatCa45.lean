/- Are keys judged to be under keys. No conditions but those each theorem bears. -/
import Derived.Test.YtdifphcihhbjlaaGreatFa
import Derived.Test.YtdifphcihhbjlaaGreatM5
import Derived.Test.YtdifphcihhbjlaaGreatCa44
import Derived.Test.YtdifphcihhbjlaaGreatCa21
import Derived.Test.YtdifphcihhbjlaaGreatCa19
set_option linter.unusedSimpArgs false
set_option linter.unusedVariables false
namespace Go.Proofs.YtdifphcihhbjlaaGreat.AM
open Go
set_option maxHeartbeats 8000000
set_option maxRecDepth 100000

theorem sat_spec_JudgeKeys (l : List Ins) (s : Stt) (ps : List Pik) (hl : l.length ≤ 1048576) (hf : s.fit) (hp_ : ps.length ≤ 1048576) : Sat Tryz.prog 63 [.sl l.length l.length (rows l), .agg s.cells, .sl ps.length ps.length (rows ps)] [] (.bool (judgeKeys l s ps)) [] := by
 have hX := trivial
 refine sat_mk [.tmp 6] 0 43 Tryz.call63 Tryz.func63 Tryz.ntmps63 rfl rfl rfl rfl rfl ?_
 refine zI [0, 1, 2] ?_
 refine zS [0, 2, 4] ?_
 intro ρ hL
 refine zA ?_
 intro K hK
 refine zF (sat_spec_StateOk s hf) ?_
 refine zL [0, 2, 4, 13] ?_
 clear hL
 intro ρ hL
 refine grp_orN (tc := 13) (tv := 16) (td := 17) (v := ?v1) 3 rfl [0, 2, 4] hL.2.2.2 rfl (fun hb K1 hK1 => ?run) (fun hb => ?skip) (fun ρ hP hM => ?_)
 case skip => exact skA (want := false) (b := _) (by rw [hb]; rfl) hL.2.2.2 rfl
 case run =>
  simp only [List.take_succ_cons, List.take_zero]
  rw [hb] at hL
  try simp only [go_sem, simprocAttr, hL, hX]
  repeat' refine And.intro (by first | rfl | omega | (simp; done)) ?_
  refine hK1 _ ?_ ?_ ?_ <;> simp only [go_sem, simprocAttr, hL, hX] <;> exact rfl
 simp only [List.drop_succ_cons, List.drop_zero]
 try simp only [go_sem, simprocAttr, hL, hX] at hM
 replace hL := And.intro hP hM
 clear hP hM
 try simp only [go_sem, simprocAttr, hL, hX]
 repeat' refine And.intro (by first | rfl | omega | (simp; done)) ?_
 refine zE [0, 2, 4, 17] ?_
 clear hK K hL
 refine zC ?_ ?_
 · intro c1
   refine zS [6] ?_
   refine zR ?_
   try simp only [go_sem, simprocAttr]
   all_goals (rw [keysJ_no (judged_no c1)])
 · intro c1
   intro ρ hL
   refine awl_skip ?_
   revert ρ hL
   refine zSF [0, 2, 4, 7] (sat_spec_Keys s hf) ?_
   refine zSF [0, 2, 7, 8] (sat_spec_CoreNew s hf) ?_
   refine zS [0, 2, 7, 8, 9] ?_
   intro ρ hL
   have e1 := hL
   refine awl_loopH (fun H0 n σ G => ∃ (u : Cor) (i : Nat), n = ps.length - i ∧ (i ≤ ps.length) ∧ (u.fit) ∧ (judgeGo l (keys s) (ps.drop i) u = judgeGo l (keys s) ps (corNew s)) ∧ (liveE [0, 2, 7, 8] σ ρ ∧ σ 9 = .int .i64 (i : Int)) ∧ G = [⟨10, s.cells, true, false⟩, ⟨6, rows (keys s), true, false⟩, ⟨6, rows u.s.regs, true, false⟩, ⟨6, rows u.s.mem.words, true, false⟩, ⟨1, rows u.s.mem.gone, true, false⟩, ⟨40, rows u.rob, true, false⟩, ⟨1, ints u.guesses, true, false⟩, ⟨19, u.own 2 3 4 5 6, true, false⟩]) (fun H0 σ G => ∃ (u : Cor), (judgeGo l (keys s) ps (corNew s) = true) ∧ (True) ∧ G = [⟨10, s.cells, true, false⟩, ⟨6, rows (keys s), true, false⟩, ⟨6, rows u.s.regs, true, false⟩, ⟨6, rows u.s.mem.words, true, false⟩, ⟨1, rows u.s.mem.gone, true, false⟩, ⟨40, rows u.rob, true, false⟩, ⟨1, ints u.guesses, true, false⟩, ⟨19, u.own 2 3 4 5 6, true, false⟩]) ((fun (u : Cor) (i : Nat) => ps.length - i) (corNew s)  0) ?init1 (fun n ρ G hI => ?round1) (fun ρ G hJ => ?after1)
   case init1 => exact ⟨(corNew s), 0, rfl, (Nat.zero_le _), (corNew_fit hf), (rfl), ⟨liveE_refl _ _, (hL.2.2.2.2)⟩, rfl⟩
   case round1 =>
    clear hL
    obtain ⟨u, i, hn, i1_0, i1_1, i1_2, hL, hG⟩ := hI
    subst hG
    try simp only [go_sem, simprocAttr, e1, hX] at hL
    revert ρ hL
    refine zS [0, 2, 7, 8, 9, 25] ?_
    refine zC ?_ ?_
    · intro c2
      have hi1 : i < ps.length := by omega
      replace hX := And.intro hi1 hX
      intro ρ hL
      refine awl_skip ?_
      refine awl_seq ?_
      refine awl_block fun R1 hw1 hR1 => ?_
      refine zAD [0, 0, 0, 0, 12, 28, 63, 127, 255, 255, 511] ?_
      intro K hK
      refine zFD [0, 0, 0, 0, 12, 28, 63, 127, 255, 255, 511] (sat_spec_CorePick l u (ps.getD i noPik) hl i1_1) ?_
      refine zE [0, 2, 7, 8, 9] ?_
      clear hK K hL
      intro ρ hL
      refine zA ?_
      intro K hK
      refine zF (sat_spec_Held (corPick l u (ps.getD i noPik)).1 (pick_fit i1_1)) ?_
      refine zF (sat_spec_l10Under (held (corPick l u (ps.getD i noPik)).1) (keys s) (Nat.le_trans (held_len (pick_fit i1_1)) (by decide)) (Nat.le_trans (keys_len hf) (by decide))) ?_
      refine zE [0, 2, 7, 8, 9, 42] ?_
      clear hK K hL
      refine zC ?_ ?_
      · intro c3
        refine zS [6] ?_
        refine zR ?_
        try simp only [go_sem, simprocAttr]
        all_goals try clear hR1
        all_goals (rw [keysJ_go (judged_go c1), ← i1_2, jg_step hi1, c3, Bool.false_and])
      · intro c3
        intro ρ hL
        refine awl_skip ?_
        refine awl_nil ?_
        refine blk_normal (hR1 _ _ (.mk ?_))
        have w1 : IntKind.i64.wrap ((i : Int) + 1) = ((i + 1 : Nat) : Int) := by rw [wrap64 (by omega)]; omega
        replace hX := And.intro w1 hX
        revert ρ hL
        refine zS [0, 2, 7, 8, 9] ?_
        intro ρ hL
        refine awl_nil ?_
        refine loop_againW (Wk.keep [0, 1, 8, 9, 10, 11, 12, 7] rfl) _ ?meas ⟨(corPick l u (ps.getD i noPik)).1, (i + 1), rfl, (by omega), (by exact pick_fit i1_1), (by rw [← i1_2, jg_step hi1, c3, Bool.true_and]), ⟨(by simp only [go_sem, simprocAttr, hL, hX, e1]), (by simp only [go_sem, simprocAttr, hL, hX, e1]; first | done | rfl)⟩, (by simp only [go_sem, simprocAttr, hL, hX, e1]; first | done | rfl)⟩
        case meas => subst hn; omega
    · intro c2
      intro ρ hL
      refine awl_exit ?_
      refine loop_break ?_
      exact ⟨u, (by rw [← i1_2, jg_stop (by omega)]), trivial, rfl⟩
   case after1 =>
    clear hL
    obtain ⟨u, j1_0, hL, hG⟩ := hJ
    subst hG
    refine zA ?_
    intro K hK
    refine zE [6] ?_
    clear hK K hL
    refine zR ?_
    try simp only [go_sem, simprocAttr]
    all_goals try clear hR1
    all_goals (rw [keysJ_go (judged_go c1), j1_0])
theorem sat_impl_JudgeKeys (l : List Ins) (s : Stt) (ps : List Pik) (hl : l.length ≤ 1048576) (hf : s.fit) (hp_ : ps.length ≤ 1048576) : Sat Tryz.prog 61 [.sl l.length l.length (rows l), .agg s.cells, .sl ps.length ps.length (rows ps)] [] (.bool (judgeKeys l s ps)) [] := by
 have hX := trivial
 refine sat_mk [.tmp 6] 0 38 Tryz.call61 Tryz.func61 Tryz.ntmps61 rfl rfl rfl rfl rfl ?_
 refine zI [0, 1, 2] ?_
 refine zS [0, 2, 4] ?_
 refine zSF [0, 2, 4, 14] (sat_impl_judged s ps hf) ?_
 refine zC ?_ ?_
 · intro c1
   refine zS [6] ?_
   refine zR ?_
   try simp only [go_sem, simprocAttr]
   all_goals (rw [keysJ_no (judged_no (c1.imp id (fun h => by omega)))])
 · intro c1
   intro ρ hL
   refine awl_skip ?_
   refine zAD [0, 1, 0, 7, 0, 31, 63] ?_
   intro K hK
   refine zFD [0, 1, 0, 7, 0, 31, 63] (sat_impl_CoreNew s hf) ?_
   refine zFD [0, 1, 0, 7, 0, 31, 63] (sat_impl_Keys s hf) ?_
   refine zE [0, 2, 7, 8] ?_
   clear hK K hL
   refine zS [0, 7, 8, 19, 20, 21] ?_
   intro ρ hL
   have e1 := hL
   refine awl_loopH (fun H0 n σ G => ∃ (u : Cor) (i : Nat), n = ps.length - i ∧ (i ≤ ps.length) ∧ (u.fit) ∧ (judgeGo l (keys s) (ps.drop i) u = judgeGo l (keys s) ps (corNew s)) ∧ (liveE [0, 7, 8, 19, 20] σ ρ ∧ σ 21 = .int .i64 (i : Int)) ∧ G = [⟨10, s.cells, true, false⟩, ⟨6, rows u.s.regs, true, false⟩, ⟨6, rows u.s.mem.words, true, false⟩, ⟨1, rows u.s.mem.gone, true, false⟩, ⟨40, rows u.rob, true, false⟩, ⟨1, ints u.guesses, true, false⟩, ⟨6, rows (keys s), true, false⟩, ⟨19, u.own 1 2 3 4 5, true, false⟩]) (fun H0 σ G => ∃ (u : Cor), (judgeGo l (keys s) ps (corNew s) = true) ∧ (True) ∧ G = [⟨10, s.cells, true, false⟩, ⟨6, rows u.s.regs, true, false⟩, ⟨6, rows u.s.mem.words, true, false⟩, ⟨1, rows u.s.mem.gone, true, false⟩, ⟨40, rows u.rob, true, false⟩, ⟨1, ints u.guesses, true, false⟩, ⟨6, rows (keys s), true, false⟩, ⟨19, u.own 1 2 3 4 5, true, false⟩]) ((fun (u : Cor) (i : Nat) => ps.length - i) (corNew s)  0) ?init1 (fun n ρ G hI => ?round1) (fun ρ G hJ => ?after1)
   case init1 => exact ⟨(corNew s), 0, rfl, (Nat.zero_le _), (corNew_fit hf), (rfl), ⟨liveE_refl _ _, (hL.2.2.2.2.2)⟩, rfl⟩
   case round1 =>
    clear hL
    obtain ⟨u, i, hn, i1_0, i1_1, i1_2, hL, hG⟩ := hI
    subst hG
    try simp only [go_sem, simprocAttr, e1, hX] at hL
    revert ρ hL
    refine zS [0, 7, 8, 19, 20, 21, 22] ?_
    refine zC ?_ ?_
    · intro c2
      have hi1 : i < ps.length := by omega
      replace hX := And.intro hi1 hX
      intro ρ hL
      refine awl_skip ?_
      refine awl_seq ?_
      refine awl_block fun R1 hw1 hR1 => ?_
      revert ρ hL
      refine zS [0, 7, 8, 10, 19, 20, 21] ?_
      refine zSF [0, 7, 8, 19, 20, 21] (sat_impl_CorePick l u (ps.getD i noPik) hl i1_1) ?_
      intro ρ hL
      refine zA ?_
      intro K hK
      refine zF (sat_impl_Held (corPick l u (ps.getD i noPik)).1 (pick_fit i1_1)) ?_
      refine zF (sat_impl_allUnder (held (corPick l u (ps.getD i noPik)).1) (keys s) (Nat.le_trans (held_len (pick_fit i1_1)) (by decide)) (Nat.le_trans (keys_len hf) (by decide))) ?_
      refine zE [0, 7, 8, 19, 20, 21, 36] ?_
      clear hK K hL
      refine zC ?_ ?_
      · intro c3
        refine zS [6] ?_
        refine zR ?_
        try simp only [go_sem, simprocAttr]
        all_goals try clear hR1
        all_goals (rw [keysJ_go (judged_go ⟨c1.1, by omega⟩), ← i1_2, jg_step hi1, c3, Bool.false_and])
      · intro c3
        intro ρ hL
        refine awl_skip ?_
        refine awl_nil ?_
        refine blk_normal (hR1 _ _ (.mk ?_))
        have w1 : IntKind.i64.wrap ((i : Int) + 1) = ((i + 1 : Nat) : Int) := by rw [wrap64 (by omega)]; omega
        replace hX := And.intro w1 hX
        revert ρ hL
        refine zS [0, 7, 8, 19, 20, 21] ?_
        intro ρ hL
        refine awl_nil ?_
        refine loop_againW (Wk.keep [0, 9, 10, 11, 12, 13, 6, 7] rfl) _ ?meas ⟨(corPick l u (ps.getD i noPik)).1, (i + 1), rfl, (by omega), (by exact pick_fit i1_1), (by rw [← i1_2, jg_step hi1, c3, Bool.true_and]), ⟨(by simp only [go_sem, simprocAttr, hL, hX, e1]), (by simp only [go_sem, simprocAttr, hL, hX, e1]; first | done | rfl)⟩, (by simp only [go_sem, simprocAttr, hL, hX, e1]; first | done | rfl)⟩
        case meas => subst hn; omega
    · intro c2
      intro ρ hL
      refine awl_exit ?_
      refine loop_break ?_
      exact ⟨u, (by rw [← i1_2, jg_stop (by omega)]), trivial, rfl⟩
   case after1 =>
    clear hL
    obtain ⟨u, j1_0, hL, hG⟩ := hJ
    subst hG
    refine zA ?_
    intro K hK
    refine zE [6] ?_
    clear hK K hL
    refine zR ?_
    try simp only [go_sem, simprocAttr]
    all_goals try clear hR1
    all_goals (rw [keysJ_go (judged_go ⟨c1.1, by omega⟩), j1_0])
end Go.Proofs.YtdifphcihhbjlaaGreat.AM
