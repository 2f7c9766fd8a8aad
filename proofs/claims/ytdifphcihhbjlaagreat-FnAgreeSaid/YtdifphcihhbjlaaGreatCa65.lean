/- What is drawn: how wide, how often; what is judged. No conditions but those each theorem bears. -/
import Derived.Test.YtdifphcihhbjlaaGreatFa
import Derived.Test.YtdifphcihhbjlaaGreatCa56
import Derived.Test.YtdifphcihhbjlaaGreatCa60
set_option linter.unusedSimpArgs false
set_option linter.unusedVariables false
namespace Go.Proofs.YtdifphcihhbjlaaGreat.AM
open Go
set_option maxHeartbeats 8000000
set_option maxRecDepth 100000

theorem sat_spec_l18Draw (bs : List UInt8) (hb : bs.length ≤ 1048576) : ∃ (l : List Ins) (s : Stt) (rs ws : List Word) (p o : Nat) (a b : Int), ((0 < l.length ∧ l.length ≤ 24) ∧ cutW rs p s.regs ∧ cutW ws o s.mem.words ∧ smallS s) ∧ Sat Tryz.prog 135 [.sl bs.length bs.length (bytesV bs)] [] (.tuple [.slice 0 0 l.length 0, .agg (s.ownC 1 2 3 p o), .int .i64 a, .int .i64 b]) [⟨5, rows l, true, false⟩, ⟨6, rows rs, true, false⟩, ⟨6, rows ws, true, false⟩, ⟨1, rows s.mem.gone, true, false⟩] := by
 suffices hE : ∃ zv zh, (∃ (l : List Ins) (s : Stt) (rs ws : List Word) (p o : Nat) (a b : Int), ((0 < l.length ∧ l.length ≤ 24) ∧ cutW rs p s.regs ∧ cutW ws o s.mem.words ∧ smallS s) ∧ zv = (.tuple [.slice 0 0 l.length 0, .agg (s.ownC 1 2 3 p o), .int .i64 a, .int .i64 b]) ∧ zh = [⟨5, rows l, true, false⟩, ⟨6, rows rs, true, false⟩, ⟨6, rows ws, true, false⟩, ⟨1, rows s.mem.gone, true, false⟩]) ∧ Sat Tryz.prog 135 [.sl bs.length bs.length (bytesV bs)] [] zv zh from by
   obtain ⟨_, _, ⟨l, s, rs, ws, p, o, a, b, hq, rfl, rfl⟩, hs⟩ := hE
   exact ⟨l, s, rs, ws, p, o, a, b, hq, hs⟩
 have hX := trivial
 refine sat_ex [.tmp 2, .cell 3 33, .tmp 4, .tmp 5] 0 26 Tryz.call135 Tryz.func135 Tryz.ntmps135 rfl rfl rfl rfl rfl ?_
 refine zI [0] ?_
 refine zS [0, 3] ?_
 obtain ⟨c, hc, hs1⟩ := sat_spec_l1New bs hb
 intro ρ hL
 refine zA ?_
 intro K hK
 refine zFJ [] (hs1) ?_
 refine zE [3, 6] ?_
 clear hK K hL
 obtain ⟨l, s, rs, ws, p, o, c, hls, hs2⟩ := sat_spec_l9Draw c
 intro ρ hL
 refine zA ?_
 intro K hK
 refine zFJ [1] (hs2) ?_
 refine zE [3, 6, 7, 8] ?_
 clear hK K hL
 obtain ⟨x1, c, hx1, hs3⟩ := sat_spec_l1PickInt c [1, 2, 3, 6, 0, 7, -1] (by simp)
 intro ρ hL
 refine zA ?_
 intro K hK
 refine zFJ [1, 7] (hs3) ?_
 refine zE [3, 6, 7, 8, 9] ?_
 clear hK K hL
 obtain ⟨x2, c, hx2, hs4⟩ := sat_spec_l1PickInt c [0, 1, 5, 20, 40, -1] (by simp)
 intro ρ hL
 refine zAD [0, 0, 0, 0, 0, 24, 57, 123, 255, 511] ?_
 intro K hK
 refine zFDJ [0, 0, 0, 0, 0, 24, 57, 123, 255, 511] [1, 8] (hs4) ?_
 refine zE [2, 3, 4, 5] ?_
 clear hK K hL
 refine zX [2, 3, 4, 5] [2, 3, 4, 5] ?_
 refine ⟨l, s, rs, ws, p, o, x1, x2, ?hq1, ?hv1, ?hh1⟩
 case hv1 => (try simp only [go_sem, simprocAttr, hX]); first | done | rfl
 case hh1 => (try simp only [go_sem, simprocAttr, hX]); first | done | rfl
 all_goals (exact hls)
theorem sat_spec_DrawAgree (bs : List UInt8) (hb : bs.length ≤ 1048576) : ∃ (l : List Ins) (s : Stt) (rs ws : List Word) (p o : Nat) (a b : Int), ((0 < l.length ∧ l.length ≤ 24) ∧ cutW rs p s.regs ∧ cutW ws o s.mem.words ∧ smallS s) ∧ Sat Tryz.prog 55 [.sl bs.length bs.length (bytesV bs)] [] (.tuple [.slice 0 0 l.length 0, .agg (s.ownC 1 2 3 p o), .int .i64 a, .int .i64 b]) [⟨5, rows l, true, false⟩, ⟨6, rows rs, true, false⟩, ⟨6, rows ws, true, false⟩, ⟨1, rows s.mem.gone, true, false⟩] := by
 suffices hE : ∃ zv zh, (∃ (l : List Ins) (s : Stt) (rs ws : List Word) (p o : Nat) (a b : Int), ((0 < l.length ∧ l.length ≤ 24) ∧ cutW rs p s.regs ∧ cutW ws o s.mem.words ∧ smallS s) ∧ zv = (.tuple [.slice 0 0 l.length 0, .agg (s.ownC 1 2 3 p o), .int .i64 a, .int .i64 b]) ∧ zh = [⟨5, rows l, true, false⟩, ⟨6, rows rs, true, false⟩, ⟨6, rows ws, true, false⟩, ⟨1, rows s.mem.gone, true, false⟩]) ∧ Sat Tryz.prog 55 [.sl bs.length bs.length (bytesV bs)] [] zv zh from by
   obtain ⟨_, _, ⟨l, s, rs, ws, p, o, a, b, hq, rfl, rfl⟩, hs⟩ := hE
   exact ⟨l, s, rs, ws, p, o, a, b, hq, hs⟩
 have hX := trivial
 refine sat_ex [.tmp 2, .cell 3 33, .tmp 4, .tmp 5] 0 21 Tryz.call55 Tryz.func55 Tryz.ntmps55 rfl rfl rfl rfl rfl ?_
 refine zI [0] ?_
 refine zS [0, 3] ?_
 obtain ⟨l, s, rs, ws, p, o, a, b, hls, hs1⟩ := sat_spec_l18Draw bs hb
 intro ρ hL
 refine zA ?_
 intro K hK
 refine zFJ [] (hs1) ?_
 refine zE [3, 6, 7, 8, 9] ?_
 clear hK K hL
 refine zD [0, 0, 0, 0, 1, 19, 55, 127] [2, 3, 4, 5] ?_
 refine zX [1, 2, 3, 4] [1, 2, 3, 4] ?_
 refine ⟨l, s, rs, ws, p, o, a, b, ?hq1, ?hv1, ?hh1⟩
 case hv1 => (try simp only [go_sem, simprocAttr, hX]); first | done | rfl
 case hh1 => (try simp only [go_sem, simprocAttr, hX]); first | done | rfl
 all_goals (exact hls)
theorem sat_spec_DrawInOrder (bs : List UInt8) (hb : bs.length ≤ 1048576) : ∃ (l : List Ins) (s : Stt) (rs ws : List Word) (p o : Nat) (b : Int), ((0 < l.length ∧ l.length ≤ 24) ∧ cutW rs p s.regs ∧ cutW ws o s.mem.words ∧ smallS s) ∧ Sat Tryz.prog 58 [.sl bs.length bs.length (bytesV bs)] [] (.tuple [.slice 0 0 l.length 0, .agg (s.ownC 1 2 3 p o), .int .i64 b]) [⟨5, rows l, true, false⟩, ⟨6, rows rs, true, false⟩, ⟨6, rows ws, true, false⟩, ⟨1, rows s.mem.gone, true, false⟩] := by
 suffices hE : ∃ zv zh, (∃ (l : List Ins) (s : Stt) (rs ws : List Word) (p o : Nat) (b : Int), ((0 < l.length ∧ l.length ≤ 24) ∧ cutW rs p s.regs ∧ cutW ws o s.mem.words ∧ smallS s) ∧ zv = (.tuple [.slice 0 0 l.length 0, .agg (s.ownC 1 2 3 p o), .int .i64 b]) ∧ zh = [⟨5, rows l, true, false⟩, ⟨6, rows rs, true, false⟩, ⟨6, rows ws, true, false⟩, ⟨1, rows s.mem.gone, true, false⟩]) ∧ Sat Tryz.prog 58 [.sl bs.length bs.length (bytesV bs)] [] zv zh from by
   obtain ⟨_, _, ⟨l, s, rs, ws, p, o, b, hq, rfl, rfl⟩, hs⟩ := hE
   exact ⟨l, s, rs, ws, p, o, b, hq, hs⟩
 have hX := trivial
 refine sat_ex [.tmp 2, .cell 3 33, .tmp 4] 0 19 Tryz.call58 Tryz.func58 Tryz.ntmps58 rfl rfl rfl rfl rfl ?_
 refine zI [0] ?_
 refine zS [0, 3] ?_
 obtain ⟨l, s, rs, ws, p, o, a, b, hls, hs1⟩ := sat_spec_l18Draw bs hb
 intro ρ hL
 refine zA ?_
 intro K hK
 refine zFJ [] (hs1) ?_
 refine zE [3, 5, 6, 8] ?_
 clear hK K hL
 refine zD [0, 0, 0, 1, 11, 31] [2, 3, 4] ?_
 refine zX [1, 2, 3, 4] [1, 2, 3, 4] ?_
 refine ⟨l, s, rs, ws, p, o, b, ?hq1, ?hv1, ?hh1⟩
 case hv1 => (try simp only [go_sem, simprocAttr, hX]); first | done | rfl
 case hh1 => (try simp only [go_sem, simprocAttr, hX]); first | done | rfl
 all_goals (exact hls)
end Go.Proofs.YtdifphcihhbjlaaGreat.AM
