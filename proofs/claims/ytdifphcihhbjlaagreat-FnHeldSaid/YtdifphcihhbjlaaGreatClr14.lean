/- The law Held, of what is drawn. No conditions but those each theorem bears. -/
import Derived.Test.YtdifphcihhbjlaaGreatFa
import Derived.Test.YtdifphcihhbjlaaGreatM8
import Derived.Test.YtdifphcihhbjlaaGreatCa64
import Derived.Test.YtdifphcihhbjlaaGreatCa39
import Derived.Test.YtdifphcihhbjlaaGreatCa40
import Derived.Test.YtdifphcihhbjlaaGreatCb5
import Derived.Test.YtdifphcihhbjlaaGreatCa19
import Derived.Test.YtdifphcihhbjlaaGreatCa21
set_option linter.unusedSimpArgs false
set_option linter.unusedVariables false
namespace Go.Proofs.YtdifphcihhbjlaaGreat.AM
open Go
set_option maxHeartbeats 8000000
set_option maxRecDepth 100000

section
attribute [local go_sem] decide_true
theorem sat_laws_FnHeld (bs : List UInt8) (hs : bs.length ≤ 9223372036854775807) : Sat Tryz.prog 8 [.sl bs.length bs.length (bytesV bs)] [] (.bool true) [] := by
 have hX := trivial
 refine sat_mk [.tmp 2] 0 74 Tryz.call8 Tryz.func8 Tryz.ntmps8 rfl rfl rfl rfl rfl ?_
 refine zI [0] ?_
 refine zG [] [0] ?_
 intro ρ hL
 refine zA ?_
 intro K hK
 refine zF (sat_laws_big _) ?_
 refine zEG [] [0, 16] ?_
 clear hK K hL
 refine zC ?_ ?_
 · intro c1
   refine zG [] [2] ?_
   refine zR ?_
   try simp only [go_sem, simprocAttr]
   all_goals (rfl)
 · intro c1
   have hb : bs.length ≤ 1048576 := by omega
   intro ρ hL
   refine awl_skip ?_
   obtain ⟨l, s, ps, hk9, hs1⟩ := sat_spec_DrawPlayed bs hb
   obtain ⟨⟨hl, hok⟩, hps⟩ := hk9
   have hl9 : l.length ≤ 1048576 := by omega
   have hf := ok_fit hok
   have hnf := corNew_fit hf
   have hkl := keys_len hf
   refine zA ?_
   intro K hK
   refine zFJ [] (hs1) ?_
   refine zEG [0, 5, 1, 2, 3, 4] [3, 4, 5] ?_
   clear hK K hL
   intro ρ hL
   refine zA ?_
   intro K hK
   refine zF (sat_impl_Keys s hf) ?_
   refine zEG [0, 1, 2, 3, 4, 5, 6] [3, 4, 5, 6] ?_
   clear hK K hL
   intro ρ hL
   refine zA ?_
   intro K hK
   refine zF (sat_impl_CoreNew s hf) ?_
   refine zEG [0, 5, 6, 12, 7, 8, 9, 10, 11] [3, 5, 6, 7] ?_
   clear hK K hL
   refine zG [0, 1, 2, 3, 4, 5, 6, 7, 8] [3, 5, 6, 7, 8] ?_
   intro ρ hL
   have e1 := hL
   refine awl_loopH (fun H0 n σ G => ∃ (u : Cor) (i : Nat), n = ps.length - i ∧ (i ≤ ps.length) ∧ (CInv l u) ∧ (fromC (keys s) u) ∧ (liveE [3, 5, 6, 7] σ ρ ∧ σ 8 = .int .i64 (i : Int)) ∧ G = [⟨5, rows l, true, false⟩, ⟨2, rows ps, true, false⟩, ⟨6, rows (keys s), true, false⟩, ⟨19, u.own 4 5 6 7 8, true, false⟩, ⟨6, rows u.s.regs, true, false⟩, ⟨6, rows u.s.mem.words, true, false⟩, ⟨1, rows u.s.mem.gone, true, false⟩, ⟨40, rows u.rob, true, false⟩, ⟨1, ints u.guesses, true, false⟩]) (fun H0 σ G => ∃ (u : Cor), (corOk u = true) ∧ (liveE [7] σ ρ) ∧ G = [⟨5, rows l, true, false⟩, ⟨2, rows ps, true, false⟩, ⟨6, rows (keys s), true, false⟩, ⟨19, u.own 4 5 6 7 8, true, false⟩, ⟨6, rows u.s.regs, true, false⟩, ⟨6, rows u.s.mem.words, true, false⟩, ⟨1, rows u.s.mem.gone, true, false⟩, ⟨40, rows u.rob, true, false⟩, ⟨1, ints u.guesses, true, false⟩]) ((fun (u : Cor) (i : Nat) => ps.length - i) (corNew s)  0) ?init1 (fun n ρ G hI => ?round1) (fun ρ G hJ => ?after1)
   case init1 => exact ⟨(corNew s), 0, rfl, (Nat.zero_le _), (inv_new hok), (from_new hok), ⟨liveE_refl _ _, (hL.2.2.2.2)⟩, rfl⟩
   case round1 =>
    clear hL
    obtain ⟨u, i, hn, i1_0, i1_1, i1_2, hL, hG⟩ := hI
    subst hG
    try simp only [go_sem, simprocAttr, e1, hX] at hL
    revert ρ hL
    refine zG [0, 1, 2, 3, 4, 5, 6, 7, 8] [3, 5, 6, 7, 8, 30] ?_
    refine zC ?_ ?_
    · intro c2
      have hi1 : i < ps.length := by omega
      replace hX := And.intro hi1 hX
      intro ρ hL
      refine awl_skip ?_
      refine awl_seq ?_
      refine awl_block fun R1 hw1 hR1 => ?_
      have hfu := okC_fit i1_1.ok
      have hpi := pick_inv (p := (ps.getD i noPik)) i1_1
      have hpf := from_pick (l := l) (p := (ps.getD i noPik)) i1_2
      have hfn := okC_fit hpi.ok
      have hat := piks_at hi1
      have hhl := held_len hfn
      have hhu := held_from hpf
      have hX0 := hX
      replace hX := And.intro hat hX
      refine zAD [0, 0, 0, 0, 12, 28, 63, 127, 255, 255, 0, 1535, 4095] ?_
      intro K hK
      refine zFD [0, 0, 0, 0, 12, 28, 63, 127, 255, 255, 0, 1535, 4095] (sat_impl_CorePick l u (ps.getD i noPik) hl9 hfu) ?_
      refine zEG [0, 1, 2, 3, 4, 5, 6, 7, 8, 14, 9, 10, 11, 12, 13] [3, 5, 6, 7, 8, 9, 10] ?_
      clear hK K hL
      clear hX
      have hX := hX0
      clear hX0
      have hX0 := hX
      replace hX := And.intro hat hX
      intro ρ hL
      refine zAD [0, 0, 0, 0, 12, 28, 63, 127, 255, 255, 0, 1535, 4095] ?_
      intro K hK
      refine zFD [0, 0, 0, 0, 12, 28, 63, 127, 255, 255, 0, 1535, 4095] (sat_spec_CorePick l u (ps.getD i noPik) hl9 hfu) ?_
      refine zEG [0, 1, 2, 3, 4, 5, 6, 7, 8, 9, 10, 11, 12, 13, 14] [3, 5, 6, 7, 8, 9, 10, 12] ?_
      clear hK K hL
      clear hX
      have hX := hX0
      clear hX0
      refine zG [0, 1, 2, 3, 4, 5, 6, 7, 8, 9, 10, 11, 12, 13, 14] [3, 5, 6, 7, 8, 9, 55] ?_
      refine zQ ?_ ?_
      · intro c3
        try simp only [cnd] at c3
        first | done | cases c3 | (simp at c3)
      · intro c3
        try simp only [cnd] at c3
        intro ρ hL
        refine awl_skip ?_
        revert ρ hL
        refine zG [0, 1, 2, 3, 10, 11, 12, 13, 14] [3, 5, 6, 7, 8] ?_
        intro ρ hL
        refine zA ?_
        intro K hK
        refine zF (sat_impl_Held (corPick l u (ps.getD i noPik)).1 hfn) ?_
        refine zEG [0, 1, 2, 3, 4, 5, 6, 7, 8, 9] [3, 5, 6, 7, 8, 13] ?_
        clear hK K hL
        refine zG [0, 1, 2, 3, 4, 5, 6, 7, 8, 9] [3, 5, 6, 7, 8, 13, 14] ?_
        intro ρ hL
        have e2 := hL
        refine awl_loopH (fun H0 n σ G => ∃ (k : Nat), n = (held (corPick l u (ps.getD i noPik)).1).length - k ∧ (k ≤ (held (corPick l u (ps.getD i noPik)).1).length) ∧ (liveE [3, 5, 6, 7, 8, 13] σ ρ ∧ σ 14 = .int .i64 (k : Int)) ∧ G = H0) (fun H0 σ G => (liveE [3, 5, 6, 7, 8] σ ρ) ∧ G = H0) ((fun (k : Nat) => (held (corPick l u (ps.getD i noPik)).1).length - k) 0) ?init2 (fun n ρ G hI => ?round2) (fun ρ G hJ => ?after2)
        case init2 => exact ⟨0, rfl, (Nat.zero_le _), ⟨liveE_refl _ _, (hL.2.2.2.2.2.2)⟩, rfl⟩
        case round2 =>
         clear hL
         obtain ⟨k, hn, i2_0, hL, hG⟩ := hI
         subst hG
         try simp only [go_sem, simprocAttr, e2, hX] at hL
         revert ρ hL
         refine zG [0, 1, 2, 3, 4, 5, 6, 7, 8, 9] [3, 5, 6, 7, 8, 13, 14, 62] ?_
         refine zC ?_ ?_
         · intro c4
           have hi2 : k < (held (corPick l u (ps.getD i noPik)).1).length := by omega
           replace hX := And.intro hi2 hX
           intro ρ hL
           refine awl_skip ?_
           refine awl_seq ?_
           refine awl_block fun R2 hw2 hR2 => ?_
           have hun : unders ((held (corPick l u (ps.getD i noPik)).1).getD k noWord) (keys s) = true := by rw [List.getD_eq_getElem?_getD, List.getElem?_eq_getElem hi2]; exact List.all_eq_true.1 hhu _ (List.getElem_mem hi2)
           have hwk := words_at hi2
           have hX0 := hX
           replace hX := And.intro hwk hX
           refine zA ?_
           intro K hK
           refine zF (sat_impl_Unders ((held (corPick l u (ps.getD i noPik)).1).getD k noWord) (keys s) (Nat.le_trans hkl (by decide))) ?_
           refine zEG [0, 1, 2, 3, 4, 5, 6, 7, 8, 9] [3, 5, 6, 7, 8, 13, 14, 71] ?_
           clear hK K hL
           clear hX
           have hX := hX0
           clear hX0
           refine zQ ?_ ?_
           · intro c5
             try simp only [cnd] at c5
             exfalso; rw [hun] at c5; cases c5
           · intro c5
             try simp only [cnd] at c5
             intro ρ hL
             refine awl_skip ?_
             refine awl_nil ?_
             refine blk_normal (hR2 _ _ (.mk ?_))
             have w2 : IntKind.i64.wrap ((k : Int) + 1) = ((k + 1 : Nat) : Int) := by rw [wrap64 (by omega)]; omega
             replace hX := And.intro w2 hX
             revert ρ hL
             refine zG [0, 1, 2, 3, 4, 5, 6, 7, 8, 9] [3, 5, 6, 7, 8, 13, 14] ?_
             intro ρ hL
             refine awl_nil ?_
             refine loop_again _ ?meas ⟨(k + 1), rfl, (by omega), ⟨(by simp only [go_sem, simprocAttr, hL, hX, e2]), (hL.2.2.2.2.2.2)⟩, rfl⟩
             case meas => subst hn; omega
         · intro c4
           intro ρ hL
           refine awl_exit ?_
           refine loop_break ?_
           exact ⟨(by simp only [go_sem, simprocAttr, hL, hX, e2]), rfl⟩
        case after2 =>
         clear hL
         obtain ⟨hL, hG⟩ := hJ
         subst hG
         try simp only [go_sem, simprocAttr, e2, hX] at hL
         refine awl_nil ?_
         refine blk_normal (hR1 _ _ (.mk ?_))
         have w1 : IntKind.i64.wrap ((i : Int) + 1) = ((i + 1 : Nat) : Int) := by rw [wrap64 (by omega)]; omega
         replace hX := And.intro w1 hX
         revert ρ hL
         refine zG [0, 1, 2, 3, 4, 5, 6, 7, 8] [3, 5, 6, 7, 8] ?_
         intro ρ hL
         refine awl_nil ?_
         refine loop_again _ ?meas ⟨(corPick l u (ps.getD i noPik)).1, (i + 1), rfl, (by omega), (by exact hpi), (by exact hpf), ⟨(by simp only [go_sem, simprocAttr, hL, hX, e1]), (hL.2.2.2.2)⟩, rfl⟩
         case meas => subst hn; omega
    · intro c2
      intro ρ hL
      refine awl_exit ?_
      refine loop_break ?_
      exact ⟨u, (by exact i1_1.ok), (by simp only [go_sem, simprocAttr, hL, hX, e1]), rfl⟩
   case after1 =>
    clear hL
    obtain ⟨u, j1_0, hL, hG⟩ := hJ
    subst hG
    try simp only [go_sem, simprocAttr, e1, hX] at hL
    refine zA ?_
    intro K hK
    refine zF (sat_impl_CoreOk u (okC_fit j1_0)) ?_
    refine zEG [] [2] ?_
    clear hK K hL
    refine zR ?_
    try simp only [go_sem, simprocAttr]
    all_goals try clear hR1
    all_goals try clear hR2
    all_goals (rw [j1_0])
end
end Go.Proofs.YtdifphcihhbjlaaGreat.AM
