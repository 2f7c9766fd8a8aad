/- What is drawn: what is played. No conditions but those each theorem bears. -/
import Derived.Test.YtdifphcihhbjlaaGreatFa
import Derived.Test.YtdifphcihhbjlaaGreatCa62
import Derived.Test.YtdifphcihhbjlaaGreatCb7
set_option linter.unusedSimpArgs false
set_option linter.unusedVariables false
namespace Go.Proofs.YtdifphcihhbjlaaGreat.AM
open Go
set_option maxHeartbeats 8000000
set_option maxRecDepth 100000

theorem sat_spec_DrawPlayed (bs : List UInt8) (hb : bs.length ≤ 1048576) : ∃ (l : List Ins) (s : Stt) (ps : List Pik), (((0 < l.length ∧ l.length ≤ 24) ∧ sttOk s = true) ∧ ps.length ≤ 220) ∧ Sat Tryz.prog 35 [.sl bs.length bs.length (bytesV bs)] [] (.tuple [.slice 0 0 l.length 0, .agg (s.own 1 2 3), .slice 4 0 ps.length 0]) (⟨5, rows l, true, false⟩ :: (s.blks ++ [⟨2, rows ps, true, false⟩])) := by
 suffices hE : ∃ zv zh, (∃ (l : List Ins) (s : Stt) (ps : List Pik), (((0 < l.length ∧ l.length ≤ 24) ∧ sttOk s = true) ∧ ps.length ≤ 220) ∧ zv = (.tuple [.slice 0 0 l.length 0, .agg (s.own 1 2 3), .slice 4 0 ps.length 0]) ∧ zh = (⟨5, rows l, true, false⟩ :: (s.blks ++ [⟨2, rows ps, true, false⟩]))) ∧ Sat Tryz.prog 35 [.sl bs.length bs.length (bytesV bs)] [] zv zh from by
   obtain ⟨_, _, ⟨l, s, ps, hq, rfl, rfl⟩, hs⟩ := hE
   exact ⟨l, s, ps, hq, hs⟩
 have hX := trivial
 refine sat_ex [.tmp 2, .cell 3 33, .tmp 4] 0 21 Tryz.call35 Tryz.func35 Tryz.ntmps35 rfl rfl rfl rfl rfl ?_
 refine zI [0] ?_
 refine zS [0, 3] ?_
 obtain ⟨c, hc, hs1⟩ := sat_spec_l1New bs hb
 intro ρ hL
 refine zA ?_
 intro K hK
 refine zFJ [] (hs1) ?_
 refine zE [0, 3, 5] ?_
 clear hK K hL
 obtain ⟨l, s, c, hls, hs2⟩ := sat_spec_l9DrawState c
 intro ρ hL
 refine zA ?_
 intro K hK
 refine zFJ [1] (hs2) ?_
 refine zE [0, 3, 5, 6, 7] ?_
 clear hK K hL
 obtain ⟨x9, hx9, hs3⟩ := sat_spec_l1Long bs 80 220 hb (by decide) (by decide)
 obtain ⟨ps, c, hps, hs4⟩ := sat_spec_l16DrawPicks c x9 (by omega)
 intro ρ hL
 refine zAD [0, 0, 0, 0, 8, 28, 61, 127, 255] ?_
 intro K hK
 refine zFDJ [0, 0, 0, 0, 8, 28, 61, 127, 255] [] (hs3) ?_
 refine zFDJ [0, 0, 0, 0, 8, 28, 61, 127, 255] [1] (hs4) ?_
 refine zE [2, 3, 4] ?_
 clear hK K hL
 refine zX [2, 3, 4, 5, 7] [2, 3, 4, 5, 7] ?_
 refine ⟨l, s, ps, ?hq1, ?hv1, ?hh1⟩
 case hv1 => (try simp only [go_sem, simprocAttr, hX]); first | done | rfl
 case hh1 => (try simp only [go_sem, simprocAttr, hX]); first | done | rfl
 all_goals (exact ⟨hls, by omega⟩)
end Go.Proofs.YtdifphcihhbjlaaGreat.AM
