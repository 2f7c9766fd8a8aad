/- What is drawn: rows of picks, and what they are done to. No conditions but those each theorem bears. -/
import Derived.Test.YtdifphcihhbjlaaGreatFa
import Derived.Test.YtdifphcihhbjlaaGreatCb8
import Derived.Test.YtdifphcihhbjlaaGreatCa57
set_option linter.unusedSimpArgs false
set_option linter.unusedVariables false
namespace Go.Proofs.YtdifphcihhbjlaaGreat.AM
open Go
set_option maxHeartbeats 8000000
set_option maxRecDepth 100000

theorem sat_spec_l1Long (bs : List UInt8) (m : Int) (n : Int) (hb : bs.length ≤ 1048576) (hm : 0 ≤ m ∧ m ≤ 1000) (hn9 : 0 ≤ n ∧ n ≤ 1000) : ∃ (x : Int), (0 ≤ x ∧ x ≤ n) ∧ Sat Tryz.prog 108 [.sl bs.length bs.length (bytesV bs), .int .i64 m, .int .i64 n] [] (.int .i64 x) [] := by
 suffices hE : ∃ zv zh, (∃ (x : Int), (0 ≤ x ∧ x ≤ n) ∧ zv = (.int .i64 x) ∧ zh = []) ∧ Sat Tryz.prog 108 [.sl bs.length bs.length (bytesV bs), .int .i64 m, .int .i64 n] [] zv zh from by
   obtain ⟨_, _, ⟨x, hq, rfl, rfl⟩, hs⟩ := hE
   exact ⟨x, hq, hs⟩
 have hX := trivial
 refine sat_ex [.tmp 6] 0 18 Tryz.call108 Tryz.func108 Tryz.ntmps108 rfl rfl rfl rfl rfl ?_
 refine zI [0, 1, 2] ?_
 refine zS [0, 1, 2] ?_
 have hd0 : 0 ≤ (bs.length : Int).tdiv 4 ∧ (bs.length : Int).tdiv 4 ≤ 1048576 := by rw [Int.tdiv_eq_ediv_of_nonneg (by omega)]; omega
 have w0 : IntKind.i64.wrap ((bs.length : Int).tdiv 4) = (bs.length : Int).tdiv 4 := wrap64 (by omega)
 have w1 : IntKind.i64.wrap (m + (bs.length : Int).tdiv 4) = m + (bs.length : Int).tdiv 4 := wrap64 (by omega)
 have hX0 := hX
 replace hX := And.intro w0 (And.intro w1 hX)
 refine zS [2, 7] ?_
 clear hX
 have hX := hX0
 clear hX0
 refine zS [2, 7, 15] ?_
 refine zC ?_ ?_
 · intro c1
   refine zS [6] ?_
   refine zX [] [] ?_
   refine ⟨n, ?hq1, ?hv1, ?hh1⟩
   case hv1 => (try simp only [go_sem, simprocAttr, hX]); first | done | rfl
   case hh1 => (try simp only [go_sem, simprocAttr, hX]); first | done | rfl
   all_goals (exact ⟨hn9.1, Int.le_refl _⟩)
 · intro c1
   intro ρ hL
   refine awl_skip ?_
   revert ρ hL
   refine zS [6] ?_
   refine zX [] [] ?_
   refine ⟨?xl0, ?hq2, ?hv2, ?hh2⟩
   case hv2 => (try simp only [go_sem, simprocAttr, hX]); first | done | rfl
   case hh2 => (try simp only [go_sem, simprocAttr, hX]); first | done | rfl
   all_goals (exact ⟨by omega, by omega⟩)
theorem sat_spec_l16DrawPicks (c : Cu) (n : Int) (h0 : 0 ≤ n ∧ n ≤ 1000) : ∃ (ps : List Pik) (d : Cu), ((ps.length : Int) ≤ n) ∧ Sat Tryz.prog 107 [.ptr 0 0, .int .i64 n] [⟨3, c.cells, true, false⟩] (.slice 1 0 ps.length 0) [⟨3, d.cells, true, false⟩, ⟨2, rows ps, true, false⟩] := by
 suffices hE : ∃ zv zh, (∃ (ps : List Pik) (d : Cu), ((ps.length : Int) ≤ n) ∧ zv = (.slice 1 0 ps.length 0) ∧ zh = [⟨3, d.cells, true, false⟩, ⟨2, rows ps, true, false⟩]) ∧ Sat Tryz.prog 107 [.ptr 0 0, .int .i64 n] [⟨3, c.cells, true, false⟩] zv zh from by
   obtain ⟨_, _, ⟨ps, d, hq, rfl, rfl⟩, hs⟩ := hE
   exact ⟨ps, d, hq, hs⟩
 have hX := trivial
 refine sat_ex [.tmp 4] 1 24 Tryz.call107 Tryz.func107 Tryz.ntmps107 rfl rfl rfl rfl rfl ?_
 refine zI [0, 1] ?_
 refine zS [0, 1] ?_
 intro ρ hL
 refine zA ?_
 intro K hK
 refine hK _ _ ⟨_, _, (Wk.norm [2] (RefE.refl.upd (t := 5) (by simp only [go_sem, simprocAttr]; first | done | rfl) (Ref.esl 1 ⟨Nat.le_refl _, Nat.lt_succ_self _⟩))), awl_live' [0, 1, 5] fun ρ hM => ?_⟩
 try simp only [go_sem, simprocAttr, hL, hX] at hM
 clear hK K hL
 try simp only [go_sem, simprocAttr]
 revert ρ hM
 obtain ⟨p0, hn0, e0⟩ : ∃ p0 : List Pik, p0.length = 0 ∧ rows p0 = [] := ⟨[], rfl, rfl⟩
 intro ρ hL
 rw [show (⟨2, [], true, false⟩ : Blk) = ⟨2, rows p0, true, false⟩ by rw [e0]]
 obtain ⟨x0, c, hx0, hs1⟩ := sat_spec_l1Below c (n + 1)
 have hb0 := hx0.2.1 (by omega)
 have w1 : IntKind.i64.wrap (n + 1) = n + 1 := wrap64 (by omega)
 have hX0 := hX
 replace hX := And.intro w1 hX
 refine zA ?_
 intro K hK
 refine zFJ [0] (hs1) ?_
 refine zE [0, 5, 6] ?_
 clear hK K hL
 clear hX
 have hX := hX0
 clear hX0
 refine zS [0, 5, 6, 7] ?_
 intro ρ hL
 have e1 := hL
 refine awl_loopH (fun H0 n σ G => ∃ (ps : List Pik) (c : Cu) (i : Nat), n = x0.toNat - i ∧ (i ≤ x0.toNat) ∧ (ps.length ≤ i) ∧ (liveE [0, 6] σ ρ ∧ σ 5 = .slice 1 0 ps.length 0 ∧ σ 7 = .int .i64 (i : Int)) ∧ G = [⟨3, c.cells, true, false⟩, ⟨2, rows ps, true, false⟩]) (fun H0 σ G => ∃ (ps : List Pik) (c : Cu), ((ps.length : Int) ≤ n) ∧ (σ 5 = .slice 1 0 ps.length 0) ∧ G = [⟨3, c.cells, true, false⟩, ⟨2, rows ps, true, false⟩]) ((fun (ps : List Pik) (c : Cu) (i : Nat) => x0.toNat - i) p0  c  0) ?init1 (fun n ρ G hI => ?round1) (fun ρ G hJ => ?after1)
 case init1 => exact ⟨p0, c, 0, rfl, (Nat.zero_le _), (by omega), ⟨liveE_refl _ _, (by rw [hL.2.1, hn0]), (hL.2.2.2)⟩, rfl⟩
 case round1 =>
  clear hL
  obtain ⟨ps, c, i, hn, i1_0, i1_1, hL, hG⟩ := hI
  subst hG
  try simp only [go_sem, simprocAttr, e1, hX] at hL
  revert ρ hL
  refine zS [0, 5, 6, 7, 15] ?_
  refine zC ?_ ?_
  · intro c1
    intro ρ hL
    refine awl_skip ?_
    refine awl_seq ?_
    refine awl_block fun R1 hw1 hR1 => ?_
    obtain ⟨a, b, c, hab, hs2⟩ := sat_spec_l16DrawPick c 5
    refine zA ?_
    intro K hK
    refine zFJ [0] (hs2) ?_
    refine zE [0, 5, 6, 7] ?_
    clear hK K hL
    intro ρ hL
    refine awl_nil ?_
    refine blk_normal (hR1 _ _ (.mk ?_))
    have wi : IntKind.i64.wrap ((i : Int) + 1) = ((i + 1 : Nat) : Int) := by rw [wrap64 (by omega)]; omega
    have hX0 := hX
    replace hX := And.intro wi hX
    revert ρ hL
    refine zS [0, 5, 6, 7] ?_
    clear hX
    have hX := hX0
    clear hX0
    intro ρ hL
    refine awl_nil ?_
    refine loop_againW (Wk.keep [0, 3] rfl) _ ?meas ⟨(ps ++ [⟨a, b⟩]), c, (i + 1), rfl, (by omega), (by rw [List.length_append]; simp; omega), ⟨(by simp only [go_sem, simprocAttr, hL, hX, e1]), (by simp only [go_sem, simprocAttr, hL, hX, e1]; rw [List.length_append]; rfl), (by simp only [go_sem, simprocAttr, hL, hX, e1]; first | done | rfl)⟩, (by simp only [go_sem, simprocAttr, hL, hX, e1]; rw [rows_append, rows_one]; rfl)⟩
    case meas => subst hn; omega
  · intro c1
    intro ρ hL
    refine awl_exit ?_
    refine loop_break ?_
    exact ⟨ps, c, (by omega), (hL.2.1), rfl⟩
 case after1 =>
  clear hL
  obtain ⟨ps, c, j1_0, hL, hG⟩ := hJ
  subst hG
  revert ρ hL
  refine zS [4] ?_
  refine zX [1] [0, 1] ?_
  refine ⟨ps, c, ?hq1, ?hv1, ?hh1⟩
  case hv1 => (try simp only [go_sem, simprocAttr, hX]); first | done | rfl
  case hh1 => (try simp only [go_sem, simprocAttr, hX]); first | done | rfl
  all_goals try clear hR1
  all_goals (assumption)
theorem sat_spec_DrawSettle (bs : List UInt8) (hb : bs.length ≤ 1048576) : ∃ (l : List Ins) (k : Cor) (rs ws : List Word) (gs : List Int) (p o g : Nat), ((0 < l.length ∧ l.length ≤ 24) ∧ smallC k ∧ cutW rs p k.s.regs ∧ cutW ws o k.s.mem.words ∧ cutI gs g k.guesses) ∧ Sat Tryz.prog 25 [.sl bs.length bs.length (bytesV bs)] [] (.tuple [.slice 0 0 l.length 0, .agg (k.ownC 1 2 3 4 5 p o g)]) [⟨5, rows l, true, false⟩, ⟨6, rows rs, true, false⟩, ⟨6, rows ws, true, false⟩, ⟨1, rows k.s.mem.gone, true, false⟩, ⟨40, rows k.rob, true, false⟩, ⟨1, ints gs, true, false⟩] := by
 suffices hE : ∃ zv zh, (∃ (l : List Ins) (k : Cor) (rs ws : List Word) (gs : List Int) (p o g : Nat), ((0 < l.length ∧ l.length ≤ 24) ∧ smallC k ∧ cutW rs p k.s.regs ∧ cutW ws o k.s.mem.words ∧ cutI gs g k.guesses) ∧ zv = (.tuple [.slice 0 0 l.length 0, .agg (k.ownC 1 2 3 4 5 p o g)]) ∧ zh = [⟨5, rows l, true, false⟩, ⟨6, rows rs, true, false⟩, ⟨6, rows ws, true, false⟩, ⟨1, rows k.s.mem.gone, true, false⟩, ⟨40, rows k.rob, true, false⟩, ⟨1, ints gs, true, false⟩]) ∧ Sat Tryz.prog 25 [.sl bs.length bs.length (bytesV bs)] [] zv zh from by
   obtain ⟨_, _, ⟨l, k, rs, ws, gs, p, o, g, hq, rfl, rfl⟩, hs⟩ := hE
   exact ⟨l, k, rs, ws, gs, p, o, g, hq, hs⟩
 have hX := trivial
 refine sat_ex [.tmp 2, .cell 3 37] 0 14 Tryz.call25 Tryz.func25 Tryz.ntmps25 rfl rfl rfl rfl rfl ?_
 refine zI [0] ?_
 refine zS [0, 3] ?_
 obtain ⟨c, hc, hs1⟩ := sat_spec_l1New bs hb
 obtain ⟨l, k, rs, ws, gs, p, o, g, c, hlk, hs2⟩ := sat_spec_l12Draw c
 intro ρ hL
 refine zA ?_
 intro K hK
 refine zFJ [] (hs1) ?_
 refine zFJ [1] (hs2) ?_
 refine zE [3, 4, 5] ?_
 clear hK K hL
 refine zD [0, 0, 1, 7] [2, 3] ?_
 refine zX [2, 3, 4, 5, 6, 7] [2, 3, 4, 5, 6, 7] ?_
 refine ⟨l, k, rs, ws, gs, p, o, g, ?hq1, ?hv1, ?hh1⟩
 case hv1 => (try simp only [go_sem, simprocAttr, hX]); first | done | rfl
 case hh1 => (try simp only [go_sem, simprocAttr, hX]); first | done | rfl
 all_goals (exact hlk)
theorem sat_spec_DrawCorePick (bs : List UInt8) (hb : bs.length ≤ 1048576) : ∃ (l : List Ins) (k : Cor) (pk : Pik) (rs ws : List Word) (gs : List Int) (p o g : Nat), ((0 < l.length ∧ l.length ≤ 24) ∧ smallC k ∧ cutW rs p k.s.regs ∧ cutW ws o k.s.mem.words ∧ cutI gs g k.guesses) ∧ Sat Tryz.prog 28 [.sl bs.length bs.length (bytesV bs)] [] (.tuple [.slice 0 0 l.length 0, .agg (k.ownC 1 2 3 4 5 p o g), .agg pk.cells]) [⟨5, rows l, true, false⟩, ⟨6, rows rs, true, false⟩, ⟨6, rows ws, true, false⟩, ⟨1, rows k.s.mem.gone, true, false⟩, ⟨40, rows k.rob, true, false⟩, ⟨1, ints gs, true, false⟩] := by
 suffices hE : ∃ zv zh, (∃ (l : List Ins) (k : Cor) (pk : Pik) (rs ws : List Word) (gs : List Int) (p o g : Nat), ((0 < l.length ∧ l.length ≤ 24) ∧ smallC k ∧ cutW rs p k.s.regs ∧ cutW ws o k.s.mem.words ∧ cutI gs g k.guesses) ∧ zv = (.tuple [.slice 0 0 l.length 0, .agg (k.ownC 1 2 3 4 5 p o g), .agg pk.cells]) ∧ zh = [⟨5, rows l, true, false⟩, ⟨6, rows rs, true, false⟩, ⟨6, rows ws, true, false⟩, ⟨1, rows k.s.mem.gone, true, false⟩, ⟨40, rows k.rob, true, false⟩, ⟨1, ints gs, true, false⟩]) ∧ Sat Tryz.prog 28 [.sl bs.length bs.length (bytesV bs)] [] zv zh from by
   obtain ⟨_, _, ⟨l, k, pk, rs, ws, gs, p, o, g, hq, rfl, rfl⟩, hs⟩ := hE
   exact ⟨l, k, pk, rs, ws, gs, p, o, g, hq, hs⟩
 have hX := trivial
 refine sat_ex [.tmp 2, .cell 3 37, .cell 4 60] 0 30 Tryz.call28 Tryz.func28 Tryz.ntmps28 rfl rfl rfl rfl rfl ?_
 refine zI [0] ?_
 refine zS [0, 3, 4] ?_
 obtain ⟨c, hc, hs1⟩ := sat_spec_l1New bs hb
 intro ρ hL
 refine zA ?_
 intro K hK
 refine zFJ [] (hs1) ?_
 refine zE [3, 4, 5] ?_
 clear hK K hL
 obtain ⟨l, k, rs, ws, gs, p, o, g, c, hlk, hs2⟩ := sat_spec_l12Draw c
 intro ρ hL
 refine zA ?_
 intro K hK
 refine zFJ [2] (hs2) ?_
 refine zE [3, 4, 5, 6, 7] ?_
 clear hK K hL
 obtain ⟨a, b, c, hab, hs3⟩ := sat_spec_l16DrawPick c (k.rob.length : Int)
 intro ρ hL
 refine zA ?_
 intro K hK
 refine zFJ [2] (hs3) ?_
 refine zE [3, 4, 5, 6, 7, 8] ?_
 clear hK K hL
 obtain ⟨q1, c, hq1, hs4⟩ := sat_spec_l1Once c 9
 intro ρ hL
 refine zA ?_
 intro K hK
 refine zFJ [2] (hs4) ?_
 refine zE [3, 4, 5, 6, 7, 8, 22] ?_
 clear hK K hL
 refine zC ?_ ?_
 · intro c1
   obtain ⟨x2, c, hx2, hs5⟩ := sat_spec_l1Below c 7
   have hb2 := hx2.2.1 (by decide)
   have w5 : IntKind.i64.wrap (x2 - 1) = x2 - 1 := wrap64 (by omega)
   have hX0 := hX
   replace hX := And.intro w5 hX
   intro ρ hL
   refine zA ?_
   intro K hK
   refine zFJ [2] (hs5) ?_
   refine zE [3, 4, 6, 7, 8] ?_
   clear hK K hL
   clear hX
   have hX := hX0
   clear hX0
   refine zD [0, 0, 0, 1, 11, 31] [2, 3, 4] ?_
   refine zX [3, 4, 5, 6, 7, 8] [3, 4, 5, 6, 7, 8] ?_
   refine ⟨l, k, ⟨x2 - 1, b⟩, rs, ws, gs, p, o, g, ?hq1, ?hv1, ?hh1⟩
   case hv1 => (try simp only [go_sem, simprocAttr, hX]); first | done | rfl
   case hh1 => (try simp only [go_sem, simprocAttr, hX]); first | done | rfl
   all_goals (exact hlk)
 · intro c1
   intro ρ hL
   refine awl_skip ?_
   revert ρ hL
   refine zD [0, 0, 0, 1, 11, 31] [2, 3, 4] ?_
   refine zX [3, 4, 5, 6, 7, 8] [3, 4, 5, 6, 7, 8] ?_
   refine ⟨l, k, ⟨a, b⟩, rs, ws, gs, p, o, g, ?hq2, ?hv2, ?hh2⟩
   case hv2 => (try simp only [go_sem, simprocAttr, hX]); first | done | rfl
   case hh2 => (try simp only [go_sem, simprocAttr, hX]); first | done | rfl
   all_goals (exact hlk)
theorem sat_spec_DrawCoreRun (bs : List UInt8) (hb : bs.length ≤ 1048576) : ∃ (l : List Ins) (s : Stt) (rs ws : List Word) (p o : Nat) (ps : List Pik), (((0 < l.length ∧ l.length ≤ 24) ∧ cutW rs p s.regs ∧ cutW ws o s.mem.words ∧ smallS s) ∧ ps.length ≤ 1000) ∧ Sat Tryz.prog 31 [.sl bs.length bs.length (bytesV bs)] [] (.tuple [.slice 0 0 l.length 0, .agg (s.ownC 1 2 3 p o), .slice 4 0 ps.length 0]) [⟨5, rows l, true, false⟩, ⟨6, rows rs, true, false⟩, ⟨6, rows ws, true, false⟩, ⟨1, rows s.mem.gone, true, false⟩, ⟨2, rows ps, true, false⟩] := by
 suffices hE : ∃ zv zh, (∃ (l : List Ins) (s : Stt) (rs ws : List Word) (p o : Nat) (ps : List Pik), (((0 < l.length ∧ l.length ≤ 24) ∧ cutW rs p s.regs ∧ cutW ws o s.mem.words ∧ smallS s) ∧ ps.length ≤ 1000) ∧ zv = (.tuple [.slice 0 0 l.length 0, .agg (s.ownC 1 2 3 p o), .slice 4 0 ps.length 0]) ∧ zh = [⟨5, rows l, true, false⟩, ⟨6, rows rs, true, false⟩, ⟨6, rows ws, true, false⟩, ⟨1, rows s.mem.gone, true, false⟩, ⟨2, rows ps, true, false⟩]) ∧ Sat Tryz.prog 31 [.sl bs.length bs.length (bytesV bs)] [] zv zh from by
   obtain ⟨_, _, ⟨l, s, rs, ws, p, o, ps, hq, rfl, rfl⟩, hs⟩ := hE
   exact ⟨l, s, rs, ws, p, o, ps, hq, hs⟩
 have hX := trivial
 refine sat_ex [.tmp 2, .cell 3 33, .tmp 4] 0 29 Tryz.call31 Tryz.func31 Tryz.ntmps31 rfl rfl rfl rfl rfl ?_
 refine zI [0] ?_
 refine zS [0, 3] ?_
 obtain ⟨c, hc, hs1⟩ := sat_spec_l1New bs hb
 intro ρ hL
 refine zA ?_
 intro K hK
 refine zFJ [] (hs1) ?_
 refine zE [0, 3, 5] ?_
 clear hK K hL
 obtain ⟨l, s, rs, ws, p, o, c, hls, hs2⟩ := sat_spec_l9Draw c
 intro ρ hL
 refine zA ?_
 intro K hK
 refine zFJ [1] (hs2) ?_
 refine zE [0, 3, 5, 6, 7] ?_
 clear hK K hL
 obtain ⟨x9, hx9, hs3⟩ := sat_spec_l1Long bs 60 150 hb (by decide) (by decide)
 obtain ⟨ps, c, hps, hs4⟩ := sat_spec_l16DrawPicks c x9 (by omega)
 intro ρ hL
 refine zA ?_
 intro K hK
 refine zFJ [] (hs3) ?_
 refine zFJ [1] (hs4) ?_
 refine zE [3, 5, 6, 7, 8] ?_
 clear hK K hL
 obtain ⟨q1, c, hq1, hs5⟩ := sat_spec_l1Once c 90
 intro ρ hL
 refine zA ?_
 intro K hK
 refine zFJ [1] (hs5) ?_
 refine zE [3, 5, 6, 7, 8, 21] ?_
 clear hK K hL
 refine zC ?_ ?_
 · intro c1
   obtain ⟨x1, c, hx1, hs6⟩ := sat_spec_l1Below c 2
   have hb1 := hx1.2.1 (by decide)
   have w6 : IntKind.i64.wrap (600 + x1) = 600 + x1 := wrap64 (by omega)
   have hp6 : (0 : Int) ≤ 600 + x1 := by omega
   have hq6 : (600 + x1).toNat ≤ 601 := by omega
   have hX0 := hX
   replace hX := And.intro w6 hX
   intro ρ hL
   refine zA ?_
   intro K hK
   refine zFJ [1] (hs6) ?_
   refine zE [3, 6, 7, 8] ?_
   clear hK K hL
   clear hX
   have hX := hX0
   clear hX0
   refine zD [0, 0, 0, 1, 11, 31] [2, 3, 4] ?_
   intro ρ hL
   refine awl_ret ?_
   refine retNE (v := .tuple [.slice 2 0 l.length 0, .agg (s.ownC 3 4 5 p o), .slice 8 0 (600 + x1).toNat (600 + x1).toNat]) [] [2, 3, 4, 5, 8] [2, 3, 4, 5, 8] rfl (by simp only [go_sem, simprocAttr, hL, hX]; exact rfl) (by first | rfl | (simp only [go_sem, simprocAttr, hL, hX]; first | done | rfl)) (Ref.tuple (RefL.cons (Ref.refl _) (RefL.cons (Ref.refl _) (RefL.cons (Ref.cap _ _ _ _ 0 (Nat.zero_le _)) (RefL.same []))))) rfl (by decide) rfl rfl rfl rfl ?_
   refine ⟨l, s, rs, ws, p, o, List.replicate (600 + x1).toNat noPik, ?hq1, ?hv1, ?hh1⟩
   case hv1 => (try simp only [go_sem, simprocAttr, hX, List.length_replicate]); first | done | rfl
   case hh1 => (try simp only [go_sem, simprocAttr, hX, List.length_replicate]); first | done | rfl
   all_goals (exact ⟨hls, by rw [List.length_replicate]; omega⟩)
 · intro c1
   intro ρ hL
   refine awl_skip ?_
   revert ρ hL
   refine zD [0, 0, 0, 1, 11, 31] [2, 3, 4] ?_
   refine zX [2, 3, 4, 5, 7] [2, 3, 4, 5, 7] ?_
   refine ⟨l, s, rs, ws, p, o, ps, ?hq2, ?hv2, ?hh2⟩
   case hv2 => (try simp only [go_sem, simprocAttr, hX]); first | done | rfl
   case hh2 => (try simp only [go_sem, simprocAttr, hX]); first | done | rfl
   all_goals (exact ⟨hls, by omega⟩)
end Go.Proofs.YtdifphcihhbjlaaGreat.AM
