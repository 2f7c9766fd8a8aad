/- What is drawn: rows of picks, and what they are done to. No conditions but those each theorem bears. -/
import Derived.Test.YtdifphcihhbjlaaGreatFa
import Derived.Test.YtdifphcihhbjlaaGreatCa59
import Derived.Test.YtdifphcihhbjlaaGreatCa57
set_option linter.unusedSimpArgs false
set_option linter.unusedVariables false
namespace Go.Proofs.YtdifphcihhbjlaaGreat.AM
open Go
set_option maxHeartbeats 8000000
set_option maxRecDepth 100000

theorem sat_spec_DrawCoreRun (bs : List UInt8) (hb : bs.length ≤ 1048576) : ∃ (l : List Ins) (s : Stt) (rs ws : List Word) (p o : Nat) (ps : List Pik), (((0 < l.length ∧ l.length ≤ 24) ∧ cutW rs p s.regs ∧ cutW ws o s.mem.words ∧ smallS s) ∧ ps.length ≤ 1000) ∧ Sat Tryz.prog 31 [.sl bs.length bs.length (bytesV bs)] [] (.tuple [.slice 0 0 l.length 0, .agg (s.ownC 1 2 3 p o), .slice 4 0 ps.length 0]) [⟨5, rows l, true, false⟩, ⟨6, rows rs, true, false⟩, ⟨6, rows ws, true, false⟩, ⟨1, rows s.mem.gone, true, false⟩, ⟨2, rows ps, true, false⟩] := by
 suffices hE : ∃ zv zh, (∃ (l : List Ins) (s : Stt) (rs ws : List Word) (p o : Nat) (ps : List Pik), (((0 < l.length ∧ l.length ≤ 24) ∧ cutW rs p s.regs ∧ cutW ws o s.mem.words ∧ smallS s) ∧ ps.length ≤ 1000) ∧ zv = (.tuple [.slice 0 0 l.length 0, .agg (s.ownC 1 2 3 p o), .slice 4 0 ps.length 0]) ∧ zh = [⟨5, rows l, true, false⟩, ⟨6, rows rs, true, false⟩, ⟨6, rows ws, true, false⟩, ⟨1, rows s.mem.gone, true, false⟩, ⟨2, rows ps, true, false⟩]) ∧ Sat Tryz.prog 31 [.sl bs.length bs.length (bytesV bs)] [] zv zh from by
   obtain ⟨_, _, ⟨l, s, rs, ws, p, o, ps, hq, rfl, rfl⟩, hs⟩ := hE
   exact ⟨l, s, rs, ws, p, o, ps, hq, hs⟩
 have hX := trivial
 refine sat_ex [.tmp 2, .cell 3 33, .tmp 4] 0 29 Tryz.call31 Tryz.func31 Tryz.ntmps31 rfl rfl rfl rfl rfl ?_
 refine zI [0] ?_
 refine zS [0, 3] ?_
 obtain ⟨c, hc, hs1⟩ := sat_spec_l1New bs hb
 intro ρ hL
 refine zA ?_
 intro K hK
 refine zFJ [] (hs1) ?_
 refine zE [0, 3, 5] ?_
 clear hK K hL
 obtain ⟨l, s, rs, ws, p, o, c, hls, hs2⟩ := sat_spec_l9Draw c
 intro ρ hL
 refine zA ?_
 intro K hK
 refine zFJ [1] (hs2) ?_
 refine zE [0, 3, 5, 6, 7] ?_
 clear hK K hL
 obtain ⟨x9, hx9, hs3⟩ := sat_spec_l1Long bs 60 150 hb (by decide) (by decide)
 obtain ⟨ps, c, hps, hs4⟩ := sat_spec_l16DrawPicks c x9 (by omega)
 intro ρ hL
 refine zA ?_
 intro K hK
 refine zFJ [] (hs3) ?_
 refine zFJ [1] (hs4) ?_
 refine zE [3, 5, 6, 7, 8] ?_
 clear hK K hL
 obtain ⟨q1, c, hq1, hs5⟩ := sat_spec_l1Once c 90
 intro ρ hL
 refine zA ?_
 intro K hK
 refine zFJ [1] (hs5) ?_
 refine zE [3, 5, 6, 7, 8, 21] ?_
 clear hK K hL
 refine zC ?_ ?_
 · intro c1
   obtain ⟨x1, c, hx1, hs6⟩ := sat_spec_l1Below c 2
   have hb1 := hx1.2.1 (by decide)
   have w6 : IntKind.i64.wrap (600 + x1) = 600 + x1 := wrap64 (by omega)
   have hp6 : (0 : Int) ≤ 600 + x1 := by omega
   have hq6 : (600 + x1).toNat ≤ 601 := by omega
   have hX0 := hX
   replace hX := And.intro w6 hX
   intro ρ hL
   refine zA ?_
   intro K hK
   refine zFJ [1] (hs6) ?_
   refine zE [3, 6, 7, 8] ?_
   clear hK K hL
   clear hX
   have hX := hX0
   clear hX0
   refine zD [0, 0, 0, 1, 11, 31] [2, 3, 4] ?_
   intro ρ hL
   refine awl_ret ?_
   refine retNE (v := .tuple [.slice 2 0 l.length 0, .agg (s.ownC 3 4 5 p o), .slice 8 0 (600 + x1).toNat (600 + x1).toNat]) [] [2, 3, 4, 5, 8] [2, 3, 4, 5, 8] rfl (by simp only [go_sem, simprocAttr, hL, hX]; exact rfl) (by first | rfl | (simp only [go_sem, simprocAttr, hL, hX]; first | done | rfl)) (Ref.tuple (RefL.cons (Ref.refl _) (RefL.cons (Ref.refl _) (RefL.cons (Ref.cap _ _ _ _ 0 (Nat.zero_le _)) (RefL.same []))))) rfl (by decide) rfl rfl rfl rfl ?_
   refine ⟨l, s, rs, ws, p, o, List.replicate (600 + x1).toNat noPik, ?hq1, ?hv1, ?hh1⟩
   case hv1 => (try simp only [go_sem, simprocAttr, hX, List.length_replicate]); first | done | rfl
   case hh1 => (try simp only [go_sem, simprocAttr, hX, List.length_replicate]); first | done | rfl
   all_goals (exact ⟨hls, by rw [List.length_replicate]; omega⟩)
 · intro c1
   intro ρ hL
   refine awl_skip ?_
   revert ρ hL
   refine zD [0, 0, 0, 1, 11, 31] [2, 3, 4] ?_
   refine zX [2, 3, 4, 5, 7] [2, 3, 4, 5, 7] ?_
   refine ⟨l, s, rs, ws, p, o, ps, ?hq2, ?hv2, ?hh2⟩
   case hv2 => (try simp only [go_sem, simprocAttr, hX]); first | done | rfl
   case hh2 => (try simp only [go_sem, simprocAttr, hX]); first | done | rfl
   all_goals (exact ⟨hls, by omega⟩)
end Go.Proofs.YtdifphcihhbjlaaGreat.AM
