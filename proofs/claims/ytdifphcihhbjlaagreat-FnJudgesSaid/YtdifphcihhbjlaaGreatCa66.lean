/- What is drawn: what is judged. No conditions but those each theorem bears. -/
import Derived.Test.YtdifphcihhbjlaaGreatFa
import Derived.Test.YtdifphcihhbjlaaGreatCa63
set_option linter.unusedSimpArgs false
set_option linter.unusedVariables false
namespace Go.Proofs.YtdifphcihhbjlaaGreat.AM
open Go
set_option maxHeartbeats 8000000
set_option maxRecDepth 100000

theorem sat_spec_DrawJudgeAll (bs : List UInt8) (hb : bs.length ≤ 1048576) : ∃ (l : List Ins) (s : Stt) (rs ws : List Word) (p o : Nat) (ps : List Pik), (((0 < l.length ∧ l.length ≤ 24) ∧ cutW rs p s.regs ∧ cutW ws o s.mem.words ∧ smallS s) ∧ ps.length ≤ 1000) ∧ Sat Tryz.prog 60 [.sl bs.length bs.length (bytesV bs)] [] (.tuple [.slice 0 0 l.length 0, .agg (s.ownC 1 2 3 p o), .slice 4 0 ps.length 0]) [⟨5, rows l, true, false⟩, ⟨6, rows rs, true, false⟩, ⟨6, rows ws, true, false⟩, ⟨1, rows s.mem.gone, true, false⟩, ⟨2, rows ps, true, false⟩] := by
 suffices hE : ∃ zv zh, (∃ (l : List Ins) (s : Stt) (rs ws : List Word) (p o : Nat) (ps : List Pik), (((0 < l.length ∧ l.length ≤ 24) ∧ cutW rs p s.regs ∧ cutW ws o s.mem.words ∧ smallS s) ∧ ps.length ≤ 1000) ∧ zv = (.tuple [.slice 0 0 l.length 0, .agg (s.ownC 1 2 3 p o), .slice 4 0 ps.length 0]) ∧ zh = [⟨5, rows l, true, false⟩, ⟨6, rows rs, true, false⟩, ⟨6, rows ws, true, false⟩, ⟨1, rows s.mem.gone, true, false⟩, ⟨2, rows ps, true, false⟩]) ∧ Sat Tryz.prog 60 [.sl bs.length bs.length (bytesV bs)] [] zv zh from by
   obtain ⟨_, _, ⟨l, s, rs, ws, p, o, ps, hq, rfl, rfl⟩, hs⟩ := hE
   exact ⟨l, s, rs, ws, p, o, ps, hq, hs⟩
 have hX := trivial
 refine sat_ex [.tmp 2, .cell 3 33, .tmp 4] 0 17 Tryz.call60 Tryz.func60 Tryz.ntmps60 rfl rfl rfl rfl rfl ?_
 refine zI [0] ?_
 refine zS [0, 3] ?_
 obtain ⟨l, s, rs, ws, p, o, ps, hls, hs1⟩ := sat_spec_DrawCoreRun bs hb
 intro ρ hL
 refine zA ?_
 intro K hK
 refine zFJ [] (hs1) ?_
 refine zE [3, 5, 6, 7] ?_
 clear hK K hL
 refine zD [0, 0, 0, 1, 11, 31] [2, 3, 4] ?_
 refine zX [1, 2, 3, 4, 5] [1, 2, 3, 4, 5] ?_
 refine ⟨l, s, rs, ws, p, o, ps, ?hq1, ?hv1, ?hh1⟩
 case hv1 => (try simp only [go_sem, simprocAttr, hX]); first | done | rfl
 case hh1 => (try simp only [go_sem, simprocAttr, hX]); first | done | rfl
 all_goals (exact hls)
theorem sat_spec_DrawAlike (bs : List UInt8) (hb : bs.length ≤ 1048576) : ∃ (s t : Stt) (rs ws rt wt : List Word) (p o q r : Nat), ((cutW rs p s.regs ∧ cutW ws o s.mem.words ∧ smallS s) ∧ cutW rt q t.regs ∧ cutW wt r t.mem.words ∧ smallS t) ∧ Sat Tryz.prog 64 [.sl bs.length bs.length (bytesV bs)] [] (.tuple [.agg (s.ownC 0 1 2 p o), .agg (t.ownC 3 4 5 q r)]) [⟨6, rows rs, true, false⟩, ⟨6, rows ws, true, false⟩, ⟨1, rows s.mem.gone, true, false⟩, ⟨6, rows rt, true, false⟩, ⟨6, rows wt, true, false⟩, ⟨1, rows t.mem.gone, true, false⟩] := by
 suffices hE : ∃ zv zh, (∃ (s t : Stt) (rs ws rt wt : List Word) (p o q r : Nat), ((cutW rs p s.regs ∧ cutW ws o s.mem.words ∧ smallS s) ∧ cutW rt q t.regs ∧ cutW wt r t.mem.words ∧ smallS t) ∧ zv = (.tuple [.agg (s.ownC 0 1 2 p o), .agg (t.ownC 3 4 5 q r)]) ∧ zh = [⟨6, rows rs, true, false⟩, ⟨6, rows ws, true, false⟩, ⟨1, rows s.mem.gone, true, false⟩, ⟨6, rows rt, true, false⟩, ⟨6, rows wt, true, false⟩, ⟨1, rows t.mem.gone, true, false⟩]) ∧ Sat Tryz.prog 64 [.sl bs.length bs.length (bytesV bs)] [] zv zh from by
   obtain ⟨_, _, ⟨s, t, rs, ws, rt, wt, p, o, q, r, hq, rfl, rfl⟩, hs⟩ := hE
   exact ⟨s, t, rs, ws, rt, wt, p, o, q, r, hq, hs⟩
 have hX := trivial
 refine sat_ex [.cell 2 33, .cell 3 33] 0 28 Tryz.call64 Tryz.func64 Tryz.ntmps64 rfl rfl rfl rfl rfl ?_
 refine zI [0] ?_
 refine zS [0, 2, 3] ?_
 obtain ⟨c, hc, hs1⟩ := sat_spec_l1New bs hb
 intro ρ hL
 refine zA ?_
 intro K hK
 refine zFJ [] (hs1) ?_
 refine zE [2, 3, 4] ?_
 clear hK K hL
 obtain ⟨l, s, rs, ws, p, o, c, hls, hs2⟩ := sat_spec_l9Draw c
 obtain ⟨hl, hcr, hcw, hsm⟩ := hls
 have hf := small_fit hsm
 have hq1 := hcr.1
 have hq2 := hcw.1
 replace hX := And.intro hq1 (And.intro hq2 hX)
 intro ρ hL
 refine zA ?_
 intro K hK
 refine zFJ [2] (hs2) ?_
 refine zE [2, 3, 4, 6] ?_
 clear hK K hL
 obtain ⟨q1, c, hq1, hs3⟩ := sat_spec_l1Once c 2
 intro ρ hL
 refine zA ?_
 intro K hK
 refine zFJ [2] (hs3) ?_
 refine zE [2, 3, 4, 6, 17] ?_
 clear hK K hL
 refine zC ?_ ?_
 · intro c1
   intro ρ hL
   refine zAD [0, 0, 2, 7, 15] ?_
   intro K hK
   refine zFD [0, 0, 2, 7, 15] (sat_spec_l9Copy s hf) ?_
   refine zE [2, 3] ?_
   clear hK K hL
   refine zX [4, 5, 6, 8, 9, 10] [4, 5, 6, 8, 9, 10] ?_
   refine ⟨s, s, rs, ws, s.regs, s.mem.words, p, o, 0, 0, ?hq1, ?hv1, ?hh1⟩
   case hv1 => (try simp only [go_sem, simprocAttr, hX]); first | done | rfl
   case hh1 => (try simp only [go_sem, simprocAttr, hX]); first | done | rfl
   all_goals (exact ⟨⟨hcr, hcw, hsm⟩, cutW_all, cutW_all, hsm⟩)
 · intro c1
   intro ρ hL
   refine awl_skip ?_
   obtain ⟨l2, t, rt, wt, q, r, c, hlt, hs4⟩ := sat_spec_l9Draw c
   refine zA ?_
   intro K hK
   refine zFJ [2] (hs4) ?_
   refine zE [2, 3, 6, 8] ?_
   clear hK K hL
   refine zD [0, 0, 1, 7] [2, 3] ?_
   refine zX [4, 5, 6, 9, 10, 11] [4, 5, 6, 9, 10, 11] ?_
   refine ⟨s, t, rs, ws, rt, wt, p, o, q, r, ?hq2, ?hv2, ?hh2⟩
   case hv2 => (try simp only [go_sem, simprocAttr, hX]); first | done | rfl
   case hh2 => (try simp only [go_sem, simprocAttr, hX]); first | done | rfl
   all_goals (exact ⟨⟨hcr, hcw, hsm⟩, hlt.2⟩)
theorem sat_spec_DrawHeld (bs : List UInt8) (hb : bs.length ≤ 1048576) : ∃ (k : Cor) (rs ws : List Word) (gs : List Int) (p o g : Nat), (smallC k ∧ cutW rs p k.s.regs ∧ cutW ws o k.s.mem.words ∧ cutI gs g k.guesses) ∧ Sat Tryz.prog 65 [.sl bs.length bs.length (bytesV bs)] [] (.agg (k.ownC 0 1 2 3 4 p o g)) [⟨6, rows rs, true, false⟩, ⟨6, rows ws, true, false⟩, ⟨1, rows k.s.mem.gone, true, false⟩, ⟨40, rows k.rob, true, false⟩, ⟨1, ints gs, true, false⟩] := by
 suffices hE : ∃ zv zh, (∃ (k : Cor) (rs ws : List Word) (gs : List Int) (p o g : Nat), (smallC k ∧ cutW rs p k.s.regs ∧ cutW ws o k.s.mem.words ∧ cutI gs g k.guesses) ∧ zv = (.agg (k.ownC 0 1 2 3 4 p o g)) ∧ zh = [⟨6, rows rs, true, false⟩, ⟨6, rows ws, true, false⟩, ⟨1, rows k.s.mem.gone, true, false⟩, ⟨40, rows k.rob, true, false⟩, ⟨1, ints gs, true, false⟩]) ∧ Sat Tryz.prog 65 [.sl bs.length bs.length (bytesV bs)] [] zv zh from by
   obtain ⟨_, _, ⟨k, rs, ws, gs, p, o, g, hq, rfl, rfl⟩, hs⟩ := hE
   exact ⟨k, rs, ws, gs, p, o, g, hq, hs⟩
 have hX := trivial
 refine sat_ex [.cell 2 37] 0 12 Tryz.call65 Tryz.func65 Tryz.ntmps65 rfl rfl rfl rfl rfl ?_
 refine zI [0] ?_
 refine zS [0, 2] ?_
 obtain ⟨c, hc, hs1⟩ := sat_spec_l1New bs hb
 obtain ⟨l, k, rs, ws, gs, p, o, g, c, hlk, hs2⟩ := sat_spec_l12Draw c
 intro ρ hL
 refine zA ?_
 intro K hK
 refine zFJ [] (hs1) ?_
 refine zFJ [1] (hs2) ?_
 refine zE [2, 4] ?_
 clear hK K hL
 refine zS [2] ?_
 refine zX [3, 4, 5, 6, 7] [3, 4, 5, 6, 7] ?_
 refine ⟨k, rs, ws, gs, p, o, g, ?hq1, ?hv1, ?hh1⟩
 case hv1 => (try simp only [go_sem, simprocAttr, hX]); first | done | rfl
 case hh1 => (try simp only [go_sem, simprocAttr, hX]); first | done | rfl
 all_goals (exact hlk.2)
end Go.Proofs.YtdifphcihhbjlaaGreat.AM
