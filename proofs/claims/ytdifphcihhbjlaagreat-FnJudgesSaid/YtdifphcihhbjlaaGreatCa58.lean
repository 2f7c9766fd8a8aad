/- What is drawn: picks and cores. No conditions but those each theorem bears. -/
import Derived.Test.YtdifphcihhbjlaaGreatFa
import Derived.Test.YtdifphcihhbjlaaGreatM7
import Derived.Test.YtdifphcihhbjlaaGreatCb7
import Derived.Test.YtdifphcihhbjlaaGreatCa62
import Derived.Test.YtdifphcihhbjlaaGreatCa39
import Derived.Test.YtdifphcihhbjlaaGreatCb5
set_option linter.unusedSimpArgs false
set_option linter.unusedVariables false
namespace Go.Proofs.YtdifphcihhbjlaaGreat.AM
open Go
set_option maxHeartbeats 8000000
set_option maxRecDepth 100000

theorem sat_spec_l12DrawRight (c : Cu)  : ∃ (l : List Ins) (k : Cor) (d : Cu), ((0 < l.length ∧ l.length ≤ 24) ∧ corOk k = true) ∧ Sat Tryz.prog 165 [.ptr 0 0] [⟨3, c.cells, true, false⟩] (.tuple [.slice 1 0 l.length 0, .agg (k.own 2 3 4 5 6)]) (⟨3, d.cells, true, false⟩ :: ⟨5, rows l, true, false⟩ :: k.blks) := by
 suffices hE : ∃ zv zh, (∃ (l : List Ins) (k : Cor) (d : Cu), ((0 < l.length ∧ l.length ≤ 24) ∧ corOk k = true) ∧ zv = (.tuple [.slice 1 0 l.length 0, .agg (k.own 2 3 4 5 6)]) ∧ zh = (⟨3, d.cells, true, false⟩ :: ⟨5, rows l, true, false⟩ :: k.blks)) ∧ Sat Tryz.prog 165 [.ptr 0 0] [⟨3, c.cells, true, false⟩] zv zh from by
   obtain ⟨_, _, ⟨l, k, d, hq, rfl, rfl⟩, hs⟩ := hE
   exact ⟨l, k, d, hq, hs⟩
 have hX := trivial
 refine sat_ex [.tmp 2, .cell 3 37] 1 36 Tryz.call165 Tryz.func165 Tryz.ntmps165 rfl rfl rfl rfl rfl ?_
 refine zI [0] ?_
 refine zS [0, 3] ?_
 obtain ⟨l, s, c, hls, hs1⟩ := sat_spec_l9DrawState c
 obtain ⟨hl, hk⟩ := hls
 have hl9 : l.length ≤ 1048576 := by omega
 have hf9 := ok_fit hk
 intro ρ hL
 refine zA ?_
 intro K hK
 refine zFJ [0] (hs1) ?_
 refine zE [0, 3, 4, 5] ?_
 clear hK K hL
 refine zSF [0, 3, 4, 6] (sat_spec_CoreNew s hf9) ?_
 obtain ⟨x9, c, hx9, hs2⟩ := sat_spec_l1Below c 40
 have hb9 := hx9.2.1 (by decide)
 intro ρ hL
 refine zA ?_
 intro K hK
 refine zFJ [0] (hs2) ?_
 refine zE [0, 3, 4, 6, 7] ?_
 clear hK K hL
 intro ρ hL
 refine zA ?_
 intro K hK
 refine hK _ _ ⟨_, _, (Wk.keep [0, 1, 2, 7, 8, 9, 10, 11, 12] rfl), awl_live' [0, 3, 4, 6, 7, 8] fun ρ hM => ?_⟩
 try simp only [go_sem, simprocAttr, hL, hX] at hM
 clear hK K hL
 try simp only [go_sem, simprocAttr]
 revert ρ hM
 intro ρ hL
 have e1 := hL
 refine awl_loopH (fun H0 n σ G => ∃ (k : Cor) (c : Cu) (i : Nat), n = x9.toNat - i ∧ (i ≤ 40) ∧ (corOk k = true) ∧ (liveE [0, 3, 4, 6, 7] σ ρ ∧ σ 8 = .int .i64 (i : Int)) ∧ G = [⟨3, c.cells, true, false⟩, ⟨19, [.nilsl, .int .i64 0, .bool false, .int .i64 0, .int .i64 0, .int .i64 0, .int .i64 0, .nilsl, .nilsl, .int .i64 0, .nilsl, .int .i64 0, .bool false, .int .i64 0, .int .i64 0, .int .i64 0, .int .i64 0, .bool false, .nilsl], true, false⟩, ⟨5, rows l, true, false⟩, ⟨6, rows k.s.regs, true, false⟩, ⟨6, rows k.s.mem.words, true, false⟩, ⟨1, rows k.s.mem.gone, true, false⟩, ⟨40, rows k.rob, true, false⟩, ⟨1, ints k.guesses, true, false⟩, ⟨19, k.own 3 4 5 6 7, true, false⟩]) (fun H0 σ G => ∃ (k : Cor) (c : Cu), (corOk k = true) ∧ (liveE [3, 4, 6] σ ρ) ∧ G = [⟨3, c.cells, true, false⟩, ⟨19, [.nilsl, .int .i64 0, .bool false, .int .i64 0, .int .i64 0, .int .i64 0, .int .i64 0, .nilsl, .nilsl, .int .i64 0, .nilsl, .int .i64 0, .bool false, .int .i64 0, .int .i64 0, .int .i64 0, .int .i64 0, .bool false, .nilsl], true, false⟩, ⟨5, rows l, true, false⟩, ⟨6, rows k.s.regs, true, false⟩, ⟨6, rows k.s.mem.words, true, false⟩, ⟨1, rows k.s.mem.gone, true, false⟩, ⟨40, rows k.rob, true, false⟩, ⟨1, ints k.guesses, true, false⟩, ⟨19, k.own 3 4 5 6 7, true, false⟩]) ((fun (k : Cor) (c : Cu) (i : Nat) => x9.toNat - i) (corNew s)  c  0) ?init1 (fun n ρ G hI => ?round1) (fun ρ G hJ => ?after1)
 case init1 => exact ⟨(corNew s), c, 0, rfl, (Nat.zero_le _), (corNew_ok hk), ⟨liveE_refl _ _, (hL.2.2.2.2.2)⟩, rfl⟩
 case round1 =>
  clear hL
  obtain ⟨k, c, i, hn, i1_0, i1_1, hL, hG⟩ := hI
  subst hG
  try simp only [go_sem, simprocAttr, e1, hX] at hL
  revert ρ hL
  refine zS [0, 3, 4, 6, 7, 8, 20] ?_
  refine zC ?_ ?_
  · intro c1
    intro ρ hL
    refine awl_skip ?_
    refine awl_seq ?_
    refine awl_block fun R1 hw1 hR1 => ?_
    obtain ⟨a, b, c, hab, hs3⟩ := sat_spec_l16DrawPick c (k.rob.length : Int)
    have hfk := okC_fit i1_1
    refine zAD [0, 0, 0, 0, 8, 24, 60, 127, 255, 511, 511, 1023] ?_
    intro K hK
    refine zFDJ [0, 0, 0, 0, 8, 24, 60, 127, 255, 511, 511, 1023] [0] (hs3) ?_
    refine zFD [0, 0, 0, 0, 8, 24, 60, 127, 255, 511, 511, 1023] (sat_spec_CorePick l k ⟨a, b⟩ hl9 hfk) ?_
    refine zE [0, 3, 4, 6, 7, 8] ?_
    clear hK K hL
    intro ρ hL
    refine awl_nil ?_
    refine blk_normal (hR1 _ _ (.mk ?_))
    have wi : IntKind.i64.wrap ((i : Int) + 1) = ((i + 1 : Nat) : Int) := by rw [wrap64 (by omega)]; omega
    have hX0 := hX
    replace hX := And.intro wi hX
    revert ρ hL
    refine zS [0, 3, 4, 6, 7, 8] ?_
    clear hX
    have hX := hX0
    clear hX0
    intro ρ hL
    refine awl_nil ?_
    refine loop_againW (Wk.keep [0, 1, 2, 9, 10, 11, 12, 13, 8] rfl) _ ?meas ⟨(corPick l k ⟨a, b⟩).1, c, (i + 1), rfl, (by omega), (by exact pick_ok i1_1), ⟨(by simp only [go_sem, simprocAttr, hL, hX, e1]), (by simp only [go_sem, simprocAttr, hL, hX, e1]; first | done | rfl)⟩, (by simp only [go_sem, simprocAttr, hL, hX, e1]; first | done | rfl)⟩
    case meas => subst hn; omega
  · intro c1
    intro ρ hL
    refine awl_exit ?_
    refine loop_break ?_
    exact ⟨k, c, (by exact i1_1), (by simp only [go_sem, simprocAttr, hL, hX, e1]), rfl⟩
 case after1 =>
  clear hL
  obtain ⟨k, c, j1_0, hL, hG⟩ := hJ
  subst hG
  try simp only [go_sem, simprocAttr, e1, hX] at hL
  revert ρ hL
  refine zD [0, 0, 1, 7] [2, 3] ?_
  refine zX [2, 3, 4, 5, 6, 7] [0, 2, 3, 4, 5, 6, 7] ?_
  refine ⟨l, k, c, ?hq1, ?hv1, ?hh1⟩
  case hv1 => (try simp only [go_sem, simprocAttr, hX]); first | done | rfl
  case hh1 => (try simp only [go_sem, simprocAttr, hX]); first | done | rfl
  all_goals try clear hR1
  all_goals (exact ⟨hl, j1_0⟩)
end Go.Proofs.YtdifphcihhbjlaaGreat.AM
