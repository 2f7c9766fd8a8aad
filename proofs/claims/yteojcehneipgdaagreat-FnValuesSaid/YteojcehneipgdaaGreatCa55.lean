/- What is drawn: a state that steps have led to. No conditions but those each theorem bears. -/
import Derived.Test.YteojcehneipgdaaGreatFa
import Derived.Test.YteojcehneipgdaaGreatM6
import Derived.Test.YteojcehneipgdaaGreatCa54
set_option linter.unusedSimpArgs false
set_option linter.unusedVariables false
namespace Go.Proofs.YteojcehneipgdaaGreat.AM
open Go
set_option maxHeartbeats 8000000
set_option maxRecDepth 100000

theorem sat_spec_l9DrawState (c : Cu)  : ∃ (l : List Ins) (s : Stt) (d : Cu), ((0 < l.length ∧ l.length ≤ 24) ∧ sttOk s = true) ∧ Sat Tryz.prog 136 [.ptr 0 0] [⟨3, c.cells, true, false⟩] (.tuple [.slice 1 0 l.length 0, .agg (s.own 2 3 4)]) (⟨3, d.cells, true, false⟩ :: ⟨5, rows l, true, false⟩ :: s.blks) := by
 suffices hE : ∃ zv zh, (∃ (l : List Ins) (s : Stt) (d : Cu), ((0 < l.length ∧ l.length ≤ 24) ∧ sttOk s = true) ∧ zv = (.tuple [.slice 1 0 l.length 0, .agg (s.own 2 3 4)]) ∧ zh = (⟨3, d.cells, true, false⟩ :: ⟨5, rows l, true, false⟩ :: s.blks)) ∧ Sat Tryz.prog 136 [.ptr 0 0] [⟨3, c.cells, true, false⟩] zv zh from by
   obtain ⟨_, _, ⟨l, s, d, hq, rfl, rfl⟩, hs⟩ := hE
   exact ⟨l, s, d, hq, hs⟩
 have hX := trivial
 refine sat_ex [.tmp 2, .cell 3 34] 1 41 Tryz.call136 Tryz.func136 Tryz.ntmps136 rfl rfl rfl rfl rfl ?_
 refine zI [0] ?_
 refine zS [0, 3] ?_
 obtain ⟨l, c, hl, hs1⟩ := sat_spec_l6DrawCode c
 have hl9 : l.length ≤ 1048576 := by omega
 intro ρ hL
 refine zA ?_
 intro K hK
 refine zFJ [0] (hs1) ?_
 refine zE [0, 3, 4] ?_
 clear hK K hL
 obtain ⟨s, hk, hs2⟩ := sat_spec_StateNew
 intro ρ hL
 refine zA ?_
 intro K hK
 refine zFJ [] (hs2) ?_
 refine zE [0, 3, 4, 5] ?_
 clear hK K hL
 obtain ⟨q1, c, hq1, hs3⟩ := sat_spec_l1Once c 2
 intro ρ hL
 refine zA ?_
 intro K hK
 refine zFJ [0] (hs3) ?_
 refine zE [0, 3, 4, 5, 13] ?_
 clear hK K hL
 refine zC ?_ ?_
 · intro c1
   obtain ⟨m, c, hm, hs4⟩ := sat_spec_l8DrawRight c
   intro ρ hL
   refine zA ?_
   intro K hK
   refine zFJ [0] (hs4) ?_
   refine zE [0, 3, 4, 5] ?_
   clear hK K hL
   obtain ⟨x1, c, hx1, hs5⟩ := sat_spec_l1Below c 4
   have hb1 := hx1.2.1 (by decide)
   obtain ⟨w, c, hw, hs6⟩ := sat_spec_l3DrawRight c
   have h8 := (sttOk_iff.1 hk).2.1
   have w1 : IntKind.i64.wrap (1 + x1) = 1 + x1 := wrap64 (by omega)
   have hn : (1 + x1).toNat < s.regs.length := by omega
   have hn0 : (0 : Int) ≤ 1 + x1 := by omega
   have hn1 : 1 + x1 < (s.regs.length : Int) := by omega
   intro ρ hL
   repeat refine awl_seq ?_
   refine awl_regD mixed _ rfl fun K hK => ?_
   try simp only [go_sem, simprocAttr, hL, hX, w1, hn, hn0, hn1, words_put hn, List.length_set]
   repeat' refine And.intro (by first | omega | (exact ⟨[0, 1, 0, 4, 12, 0, 44, 127, 255], by kernel_rfl⟩) | kernel_rfl) ?_
   refine zFDJ [0, 1, 0, 4, 12, 0, 44, 127, 255] [0] (hs5) ?_
   refine zFDJ [0, 1, 0, 4, 12, 0, 44, 127, 255] [0] (hs6) ?_
   refine hK _ _ ⟨_, _, (Wk.keep [0, 1, 2, 3, 7, 8, 6] rfl), awl_live' [0, 3, 4, 5] fun ρ hM => ?_⟩
   try simp only [go_sem, simprocAttr, hL, hX, w1, hn, hn0, hn1, words_put hn, List.length_set] at hM
   clear hK K hL
   try simp only [go_sem, simprocAttr, hX, w1, hn, hn0, hn1, words_put hn, List.length_set]
   revert ρ hM
   obtain ⟨u, hu, hku⟩ : ∃ u : Stt, u = ⟨s.regs.set (1 + x1).toNat w, s.pc, m, s.trap⟩ ∧ sttOk u = true := ⟨_, rfl, stt_mem (s := ⟨s.regs.set (1 + x1).toNat w, s.pc, s.mem, s.trap⟩) (stt_reg hk hw) hm⟩
   obtain ⟨x9, c, hx9, hs7⟩ := sat_spec_l1Below c 10
   have hb9 := hx9.2.1 (by decide)
   intro ρ hL
   refine zA ?_
   intro K hK
   refine zFJ [0] (hs7) ?_
   refine zE [3, 4, 5, 6] ?_
   clear hK K hL
   refine zS [3, 4, 5, 6, 7] ?_
   intro ρ hL
   have e1 := hL
   refine awl_loopH (fun H0 n σ G => ∃ (s : Stt) (c : Cu) (i : Nat), n = x9.toNat - i ∧ (i ≤ 10) ∧ (sttOk s = true) ∧ (liveE [3, 4, 5, 6] σ ρ ∧ σ 7 = .int .i64 (i : Int)) ∧ G = [⟨3, c.cells, true, false⟩, ⟨10, [.nilsl, .int .i64 0, .bool false, .int .i64 0, .int .i64 0, .int .i64 0, .int .i64 0, .nilsl, .nilsl, .int .i64 0], true, false⟩, ⟨5, rows l, true, false⟩, ⟨6, rows s.regs, true, false⟩, ⟨6, rows s.mem.words, true, false⟩, ⟨1, rows s.mem.gone, true, false⟩, ⟨10, s.own 3 4 5, true, false⟩]) (fun H0 σ G => ∃ (s : Stt) (c : Cu), (sttOk s = true) ∧ (liveE [3, 4, 5] σ ρ) ∧ G = [⟨3, c.cells, true, false⟩, ⟨10, [.nilsl, .int .i64 0, .bool false, .int .i64 0, .int .i64 0, .int .i64 0, .int .i64 0, .nilsl, .nilsl, .int .i64 0], true, false⟩, ⟨5, rows l, true, false⟩, ⟨6, rows s.regs, true, false⟩, ⟨6, rows s.mem.words, true, false⟩, ⟨1, rows s.mem.gone, true, false⟩, ⟨10, s.own 3 4 5, true, false⟩]) ((fun (s : Stt) (c : Cu) (i : Nat) => x9.toNat - i) u  c  0) ?init1 (fun n ρ G hI => ?round1) (fun ρ G hJ => ?after1)
   case init1 => exact ⟨u, c, 0, rfl, (Nat.zero_le _), (hku), ⟨liveE_refl _ _, (hL.2.2.2.2)⟩, (by subst hu; first | rfl | (simp only [go_sem, simprocAttr, Stt.own, Mem.own, List.length_set]; first | done | rfl))⟩
   case round1 =>
    clear hL
    obtain ⟨s, c, i, hn, i1_0, i1_1, hL, hG⟩ := hI
    subst hG
    try simp only [go_sem, simprocAttr, e1, hX] at hL
    revert ρ hL
    refine zS [3, 4, 5, 6, 7, 29] ?_
    refine zC ?_ ?_
    · intro c2
      intro ρ hL
      refine awl_skip ?_
      refine awl_seq ?_
      refine awl_block fun R1 hw1 hR1 => ?_
      have hk9 : sttOk s = true := by assumption
      have hf9 := ok_fit hk9
      revert ρ hL
      refine zSF [3, 4, 5, 6, 7, 8] (sat_spec_Step l s hl9 hf9) ?_
      refine zS [3, 4, 5, 6, 7, 8, 37] ?_
      refine zC ?_ ?_
      · intro c3
        refine zS [3, 4, 5, 6, 7] ?_
        intro ρ hL
        refine awl_nil ?_
        refine blk_normal (hR1 _ _ (.mk ?_))
        have wi : IntKind.i64.wrap ((i : Int) + 1) = ((i + 1 : Nat) : Int) := by rw [wrap64 (by omega)]; omega
        have hX0 := hX
        replace hX := And.intro wi hX
        revert ρ hL
        refine zS [3, 4, 5, 6, 7] ?_
        clear hX
        have hX := hX0
        clear hX0
        intro ρ hL
        refine awl_nil ?_
        refine loop_againW (Wk.keep [0, 1, 2, 7, 8, 9, 6] rfl) _ ?meas ⟨(step l s), c, (i + 1), rfl, (by omega), (by exact step_ok (by assumption)), ⟨(by simp only [go_sem, simprocAttr, hL, hX, e1]), (by simp only [go_sem, simprocAttr, hL, hX, e1]; first | done | rfl)⟩, (by simp only [go_sem, simprocAttr, hL, hX, e1]; first | done | rfl)⟩
        case meas => subst hn; omega
      · intro c3
        intro ρ hL
        refine awl_skip ?_
        refine awl_nil ?_
        refine blk_normal (hR1 _ _ (.mk ?_))
        have wi : IntKind.i64.wrap ((i : Int) + 1) = ((i + 1 : Nat) : Int) := by rw [wrap64 (by omega)]; omega
        have hX0 := hX
        replace hX := And.intro wi hX
        revert ρ hL
        refine zS [3, 4, 5, 6, 7] ?_
        clear hX
        have hX := hX0
        clear hX0
        intro ρ hL
        refine awl_nil ?_
        refine loop_againW (Wk.keep [0, 1, 2, 3, 4, 5, 6] rfl) _ ?meas ⟨s, c, (i + 1), rfl, (by omega), (by assumption), ⟨(by simp only [go_sem, simprocAttr, hL, hX, e1]), (by simp only [go_sem, simprocAttr, hL, hX, e1]; first | done | rfl)⟩, (by simp only [go_sem, simprocAttr, hL, hX, e1]; first | done | rfl)⟩
        case meas => subst hn; omega
    · intro c2
      intro ρ hL
      refine awl_exit ?_
      refine loop_break ?_
      exact ⟨s, c, (by assumption), (by simp only [go_sem, simprocAttr, hL, hX, e1]), rfl⟩
   case after1 =>
    clear hL
    obtain ⟨s, c, j1_0, hL, hG⟩ := hJ
    subst hG
    try simp only [go_sem, simprocAttr, e1, hX] at hL
    revert ρ hL
    refine zD [0, 0, 1, 7] [2, 3] ?_
    refine zX [2, 3, 4, 5] [0, 2, 3, 4, 5] ?_
    refine ⟨l, s, c, ?hq1, ?hv1, ?hh1⟩
    case hv1 => (try simp only [go_sem, simprocAttr, hX]); first | done | rfl
    case hh1 => (try simp only [go_sem, simprocAttr, hX]); first | done | rfl
    all_goals try clear hR1
    all_goals (exact ⟨hl, by assumption⟩)
 · intro c1
   obtain ⟨u, hu, hku⟩ : ∃ u : Stt, u = s ∧ sttOk u = true := ⟨_, rfl, hk⟩
   intro ρ hL
   refine awl_skip ?_
   obtain ⟨x9, c, hx9, hs8⟩ := sat_spec_l1Below c 10
   have hb9 := hx9.2.1 (by decide)
   refine zA ?_
   intro K hK
   refine zFJ [0] (hs8) ?_
   refine zE [3, 4, 5, 6] ?_
   clear hK K hL
   refine zS [3, 4, 5, 6, 7] ?_
   intro ρ hL
   have e2 := hL
   refine awl_loopH (fun H0 n σ G => ∃ (s : Stt) (c : Cu) (i : Nat), n = x9.toNat - i ∧ (i ≤ 10) ∧ (sttOk s = true) ∧ (liveE [3, 4, 5, 6] σ ρ ∧ σ 7 = .int .i64 (i : Int)) ∧ G = [⟨3, c.cells, true, false⟩, ⟨10, [.nilsl, .int .i64 0, .bool false, .int .i64 0, .int .i64 0, .int .i64 0, .int .i64 0, .nilsl, .nilsl, .int .i64 0], true, false⟩, ⟨5, rows l, true, false⟩, ⟨6, rows s.regs, true, false⟩, ⟨6, rows s.mem.words, true, false⟩, ⟨1, rows s.mem.gone, true, false⟩, ⟨10, s.own 3 4 5, true, false⟩]) (fun H0 σ G => ∃ (s : Stt) (c : Cu), (sttOk s = true) ∧ (liveE [3, 4, 5] σ ρ) ∧ G = [⟨3, c.cells, true, false⟩, ⟨10, [.nilsl, .int .i64 0, .bool false, .int .i64 0, .int .i64 0, .int .i64 0, .int .i64 0, .nilsl, .nilsl, .int .i64 0], true, false⟩, ⟨5, rows l, true, false⟩, ⟨6, rows s.regs, true, false⟩, ⟨6, rows s.mem.words, true, false⟩, ⟨1, rows s.mem.gone, true, false⟩, ⟨10, s.own 3 4 5, true, false⟩]) ((fun (s : Stt) (c : Cu) (i : Nat) => x9.toNat - i) u  c  0) ?init2 (fun n ρ G hI => ?round2) (fun ρ G hJ => ?after2)
   case init2 => exact ⟨u, c, 0, rfl, (Nat.zero_le _), (hku), ⟨liveE_refl _ _, (hL.2.2.2.2)⟩, (by subst hu; first | rfl | (simp only [go_sem, simprocAttr, Stt.own, Mem.own, List.length_set]; first | done | rfl))⟩
   case round2 =>
    clear hL
    obtain ⟨s, c, i, hn, i2_0, i2_1, hL, hG⟩ := hI
    subst hG
    try simp only [go_sem, simprocAttr, e2, hX] at hL
    revert ρ hL
    refine zS [3, 4, 5, 6, 7, 29] ?_
    refine zC ?_ ?_
    · intro c4
      intro ρ hL
      refine awl_skip ?_
      refine awl_seq ?_
      refine awl_block fun R2 hw2 hR2 => ?_
      have hk9 : sttOk s = true := by assumption
      have hf9 := ok_fit hk9
      revert ρ hL
      refine zSF [3, 4, 5, 6, 7, 8] (sat_spec_Step l s hl9 hf9) ?_
      refine zS [3, 4, 5, 6, 7, 8, 37] ?_
      refine zC ?_ ?_
      · intro c5
        refine zS [3, 4, 5, 6, 7] ?_
        intro ρ hL
        refine awl_nil ?_
        refine blk_normal (hR2 _ _ (.mk ?_))
        have wi : IntKind.i64.wrap ((i : Int) + 1) = ((i + 1 : Nat) : Int) := by rw [wrap64 (by omega)]; omega
        have hX0 := hX
        replace hX := And.intro wi hX
        revert ρ hL
        refine zS [3, 4, 5, 6, 7] ?_
        clear hX
        have hX := hX0
        clear hX0
        intro ρ hL
        refine awl_nil ?_
        refine loop_againW (Wk.keep [0, 1, 2, 7, 8, 9, 6] rfl) _ ?meas ⟨(step l s), c, (i + 1), rfl, (by omega), (by exact step_ok (by assumption)), ⟨(by simp only [go_sem, simprocAttr, hL, hX, e2]), (by simp only [go_sem, simprocAttr, hL, hX, e2]; first | done | rfl)⟩, (by simp only [go_sem, simprocAttr, hL, hX, e2]; first | done | rfl)⟩
        case meas => subst hn; omega
      · intro c5
        intro ρ hL
        refine awl_skip ?_
        refine awl_nil ?_
        refine blk_normal (hR2 _ _ (.mk ?_))
        have wi : IntKind.i64.wrap ((i : Int) + 1) = ((i + 1 : Nat) : Int) := by rw [wrap64 (by omega)]; omega
        have hX0 := hX
        replace hX := And.intro wi hX
        revert ρ hL
        refine zS [3, 4, 5, 6, 7] ?_
        clear hX
        have hX := hX0
        clear hX0
        intro ρ hL
        refine awl_nil ?_
        refine loop_againW (Wk.keep [0, 1, 2, 3, 4, 5, 6] rfl) _ ?meas ⟨s, c, (i + 1), rfl, (by omega), (by assumption), ⟨(by simp only [go_sem, simprocAttr, hL, hX, e2]), (by simp only [go_sem, simprocAttr, hL, hX, e2]; first | done | rfl)⟩, (by simp only [go_sem, simprocAttr, hL, hX, e2]; first | done | rfl)⟩
        case meas => subst hn; omega
    · intro c4
      intro ρ hL
      refine awl_exit ?_
      refine loop_break ?_
      exact ⟨s, c, (by assumption), (by simp only [go_sem, simprocAttr, hL, hX, e2]), rfl⟩
   case after2 =>
    clear hL
    obtain ⟨s, c, j2_0, hL, hG⟩ := hJ
    subst hG
    try simp only [go_sem, simprocAttr, e2, hX] at hL
    revert ρ hL
    refine zD [0, 0, 1, 7] [2, 3] ?_
    refine zX [2, 3, 4, 5] [0, 2, 3, 4, 5] ?_
    refine ⟨l, s, c, ?hq2, ?hv2, ?hh2⟩
    case hv2 => (try simp only [go_sem, simprocAttr, hX]); first | done | rfl
    case hh2 => (try simp only [go_sem, simprocAttr, hX]); first | done | rfl
    all_goals try clear hR1
    all_goals try clear hR2
    all_goals (exact ⟨hl, by assumption⟩)
end Go.Proofs.YteojcehneipgdaaGreat.AM
