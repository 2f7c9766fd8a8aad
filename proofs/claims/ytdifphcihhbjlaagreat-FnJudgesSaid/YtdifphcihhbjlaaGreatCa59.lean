/- What is drawn: cores that need not be right. No conditions but those each theorem bears. -/
import Derived.Test.YtdifphcihhbjlaaGreatFa
import Derived.Test.YtdifphcihhbjlaaGreatM7
import Derived.Test.YtdifphcihhbjlaaGreatCa58
import Derived.Test.YtdifphcihhbjlaaGreatCa56
import Derived.Test.YtdifphcihhbjlaaGreatCa52
import Derived.Test.YtdifphcihhbjlaaGreatCa60
set_option linter.unusedSimpArgs false
set_option linter.unusedVariables false
namespace Go.Proofs.YtdifphcihhbjlaaGreat.AM
open Go
set_option maxHeartbeats 8000000
set_option maxRecDepth 100000

theorem sat_spec_l12Draw (c : Cu)  : ∃ (l : List Ins) (k : Cor) (rs ws : List Word) (gs : List Int) (p o g : Nat) (d : Cu), ((0 < l.length ∧ l.length ≤ 24) ∧ smallC k ∧ cutW rs p k.s.regs ∧ cutW ws o k.s.mem.words ∧ cutI gs g k.guesses) ∧ Sat Tryz.prog 98 [.ptr 0 0] [⟨3, c.cells, true, false⟩] (.tuple [.slice 1 0 l.length 0, .agg (k.ownC 2 3 4 5 6 p o g)]) [⟨3, d.cells, true, false⟩, ⟨5, rows l, true, false⟩, ⟨6, rows rs, true, false⟩, ⟨6, rows ws, true, false⟩, ⟨1, rows k.s.mem.gone, true, false⟩, ⟨40, rows k.rob, true, false⟩, ⟨1, ints gs, true, false⟩] := by
 suffices hE : ∃ zv zh, (∃ (l : List Ins) (k : Cor) (rs ws : List Word) (gs : List Int) (p o g : Nat) (d : Cu), ((0 < l.length ∧ l.length ≤ 24) ∧ smallC k ∧ cutW rs p k.s.regs ∧ cutW ws o k.s.mem.words ∧ cutI gs g k.guesses) ∧ zv = (.tuple [.slice 1 0 l.length 0, .agg (k.ownC 2 3 4 5 6 p o g)]) ∧ zh = [⟨3, d.cells, true, false⟩, ⟨5, rows l, true, false⟩, ⟨6, rows rs, true, false⟩, ⟨6, rows ws, true, false⟩, ⟨1, rows k.s.mem.gone, true, false⟩, ⟨40, rows k.rob, true, false⟩, ⟨1, ints gs, true, false⟩]) ∧ Sat Tryz.prog 98 [.ptr 0 0] [⟨3, c.cells, true, false⟩] zv zh from by
   obtain ⟨_, _, ⟨l, k, rs, ws, gs, p, o, g, d, hq, rfl, rfl⟩, hs⟩ := hE
   exact ⟨l, k, rs, ws, gs, p, o, g, d, hq, hs⟩
 have hX := trivial
 refine sat_ex [.tmp 2, .cell 3 37] 1 90 Tryz.call98 Tryz.func98 Tryz.ntmps98 rfl rfl rfl rfl rfl ?_
 refine zI [0] ?_
 refine zS [0, 3] ?_
 obtain ⟨l, k, c, hlk, hs1⟩ := sat_spec_l12DrawRight c
 obtain ⟨hl, hk⟩ := hlk
 have hkp := corOk_iff.1 hk
 have hsm := ok_small hkp.2.1
 have hr6 := hkp.2.2.1
 have hg48 := (guessOk_iff.1 hkp.2.2.2.2).1
 intro ρ hL
 refine zA ?_
 intro K hK
 refine zFJ [0] (hs1) ?_
 refine zE [0, 3, 4, 5] ?_
 clear hK K hL
 obtain ⟨x0, c, hx0, hs2⟩ := sat_spec_l1Below c 18
 have hb0 := hx0.2.1 (by decide)
 intro ρ hL
 refine zA ?_
 intro K hK
 refine zFJ [0] (hs2) ?_
 refine zE [0, 3, 4, 5, 12] ?_
 clear hK K hL
 intro ρ hL
 refine awl_block fun R1 hw1 hR1 => ?_
 revert ρ hL
 refine zS [0, 3, 4, 5, 12, 13] ?_
 refine zC ?_ ?_
 · intro c1
   obtain ⟨l2, s, rs, ws, p, o, c, hls, hs3⟩ := sat_spec_l9Draw c
   intro ρ hL
   refine zA ?_
   intro K hK
   refine zFJ [0] (hs3) ?_
   refine zE [3, 4, 5] ?_
   clear hK K hL
   intro ρ hL
   refine awl_nil ?_
   refine blk_normal (hR1 _ _ (.mk ?_))
   revert ρ hL
   refine zD [0, 0, 1, 7] [2, 3] ?_
   refine zX [2, 10, 11, 12, 6, 7] [0, 2, 10, 11, 12, 6, 7] ?_
   refine ⟨l, ⟨s, k.rob, k.next, k.stop, k.guesses⟩, rs, ws, k.guesses, p, o, 0, c, ?hq1, ?hv1, ?hh1⟩
   case hv1 => (try simp only [go_sem, simprocAttr, hX]); first | done | rfl
   case hh1 => (try simp only [go_sem, simprocAttr, hX]); first | done | rfl
   all_goals try clear hR1
   all_goals (exact ⟨hl, ⟨hls.2.2.2, by show k.rob.length ≤ 12; omega, by show k.guesses.length ≤ 48; omega⟩, hls.2.1, hls.2.2.1, cutI_all⟩)
 · intro c1
   refine zS [0, 3, 4, 5, 12, 21] ?_
   refine zC ?_ ?_
   · intro c2
     obtain ⟨ys, xs, g, c, hg, hs4⟩ := sat_spec_l11Draw c
     intro ρ hL
     refine zA ?_
     intro K hK
     refine zFJ [0] (hs4) ?_
     refine zE [3, 4, 5] ?_
     clear hK K hL
     intro ρ hL
     refine awl_nil ?_
     refine blk_normal (hR1 _ _ (.mk ?_))
     revert ρ hL
     refine zD [0, 0, 1, 7] [2, 3] ?_
     refine zX [2, 3, 4, 5, 6, 9] [0, 2, 3, 4, 5, 6, 9] ?_
     refine ⟨l, ⟨k.s, k.rob, k.next, k.stop, xs⟩, k.s.regs, k.s.mem.words, ys, 0, 0, g, c, ?hq2, ?hv2, ?hh2⟩
     case hv2 => (try simp only [go_sem, simprocAttr, hX]); first | done | rfl
     case hh2 => (try simp only [go_sem, simprocAttr, hX]); first | done | rfl
     all_goals try clear hR1
     all_goals (exact ⟨hl, ⟨hsm, by show k.rob.length ≤ 12; omega, hg.2.2⟩, cutW_all, cutW_all, hg.1, hg.2.1⟩)
   · intro c2
     refine zS [0, 3, 4, 5, 12, 26] ?_
     refine zC ?_ ?_
     · intro c3
       obtain ⟨w, c, hw, hs5⟩ := sat_spec_l3Draw c
       intro ρ hL
       refine zA ?_
       intro K hK
       refine zFJ [0] (hs5) ?_
       refine zE [3, 4, 5] ?_
       clear hK K hL
       intro ρ hL
       refine awl_nil ?_
       refine blk_normal (hR1 _ _ (.mk ?_))
       revert ρ hL
       refine zD [0, 0, 1, 7] [2, 3] ?_
       refine zX [2, 3, 4, 5, 6, 7] [0, 2, 3, 4, 5, 6, 7] ?_
       refine ⟨l, ⟨k.s, k.rob, w, k.stop, k.guesses⟩, k.s.regs, k.s.mem.words, k.guesses, 0, 0, 0, c, ?hq3, ?hv3, ?hh3⟩
       case hv3 => (try simp only [go_sem, simprocAttr, hX]); first | done | rfl
       case hh3 => (try simp only [go_sem, simprocAttr, hX]); first | done | rfl
       all_goals try clear hR1
       all_goals (exact ⟨hl, ⟨hsm, by show k.rob.length ≤ 12; omega, by show k.guesses.length ≤ 48; omega⟩, cutW_all, cutW_all, cutI_all⟩)
     · intro c3
       refine zS [0, 3, 4, 5, 12, 31] ?_
       refine zC ?_ ?_
       · intro c4
         refine zS [3, 4, 5] ?_
         intro ρ hL
         refine awl_nil ?_
         refine blk_normal (hR1 _ _ (.mk ?_))
         revert ρ hL
         refine zD [0, 0, 1, 7] [2, 3] ?_
         refine zX [2, 3, 4, 5, 6, 7] [0, 2, 3, 4, 5, 6, 7] ?_
         refine ⟨l, ⟨k.s, k.rob, k.next, !k.stop, k.guesses⟩, k.s.regs, k.s.mem.words, k.guesses, 0, 0, 0, c, ?hq4, ?hv4, ?hh4⟩
         case hv4 => (try simp only [go_sem, simprocAttr, hX]); first | done | rfl
         case hh4 => (try simp only [go_sem, simprocAttr, hX]); first | done | rfl
         all_goals try clear hR1
         all_goals (exact ⟨hl, ⟨hsm, by show k.rob.length ≤ 12; omega, by show k.guesses.length ≤ 48; omega⟩, cutW_all, cutW_all, cutI_all⟩)
       · intro c4
         refine zS [0, 3, 4, 5, 12, 37] ?_
         refine zC ?_ ?_
         · intro c5
           refine zS [3, 4, 5, 42] ?_
           refine zC ?_ ?_
           · intro c6
             have hp0 : 0 < k.rob.length := by omega
             have hd11 := ents_done0 hp0
             have hX0 := hX
             replace hX := And.intro hp0 (And.intro hd11 hX)
             refine zD [0, 1, 0, 4, 12, 28, 60, 124, 255, 511, 1023] [3, 4, 5] ?_
             clear hX
             have hX := hX0
             clear hX0
             intro ρ hL
             refine awl_nil ?_
             refine blk_normal (hR1 _ _ (.mk ?_))
             revert ρ hL
             refine zD [0, 0, 1, 7] [2, 3] ?_
             have hpc := rob_done (xs := k.rob) (v := !(k.rob.getD 0 noEnt).done) hp0
             refine zX [2, 3, 4, 5, 6, 7] [0, 2, 3, 4, 5, 6, 7] ?_
             refine ⟨l, ⟨k.s, k.rob.set 0 (withDone (ent0 k.rob) (!(ent0 k.rob).done)), k.next, k.stop, k.guesses⟩, k.s.regs, k.s.mem.words, k.guesses, 0, 0, 0, c, ?hq5, ?hv5, ?hh5⟩
             case hv5 => (try simp only [go_sem, simprocAttr, hX, List.length_set,  hpc]); first | done | rfl
             case hh5 => (try simp only [go_sem, simprocAttr, hX, List.length_set,  hpc]); first | done | rfl
             all_goals try clear hR1
             all_goals (exact ⟨hl, ⟨hsm, by show (k.rob.set 0 _).length ≤ 12; rw [List.length_set]; omega, by show k.guesses.length ≤ 48; omega⟩, cutW_all, cutW_all, cutI_all⟩)
           · intro c6
             intro ρ hL
             refine awl_skip ?_
             refine awl_nil ?_
             refine blk_normal (hR1 _ _ (.mk ?_))
             revert ρ hL
             refine zD [0, 0, 1, 7] [2, 3] ?_
             refine zX [2, 3, 4, 5, 6, 7] [0, 2, 3, 4, 5, 6, 7] ?_
             refine ⟨l, k, k.s.regs, k.s.mem.words, k.guesses, 0, 0, 0, c, ?hq6, ?hv6, ?hh6⟩
             case hv6 => (try simp only [go_sem, simprocAttr, hX]); first | done | rfl
             case hh6 => (try simp only [go_sem, simprocAttr, hX]); first | done | rfl
             all_goals try clear hR1
             all_goals (exact ⟨hl, ⟨hsm, by show k.rob.length ≤ 12; omega, by show k.guesses.length ≤ 48; omega⟩, cutW_all, cutW_all, cutI_all⟩)
         · intro c5
           refine zS [0, 3, 4, 5, 12, 53] ?_
           refine zC ?_ ?_
           · intro c7
             refine zS [0, 3, 4, 5, 58] ?_
             refine zC ?_ ?_
             · intro c8
               obtain ⟨x4, c, hx4, hs6⟩ := sat_spec_l1PickInt c [-2, -1, 7, 8] (by simp)
               have hp0 : 0 < k.rob.length := by omega
               have hd11 := ents_done0 hp0
               have hX0 := hX
               replace hX := And.intro hp0 (And.intro hd11 hX)
               intro ρ hL
               refine zAD [0, 1, 0, 0, 12, 31, 63, 127, 255] ?_
               intro K hK
               refine zFDJ [0, 1, 0, 0, 12, 31, 63, 127, 255] [0, 9] (hs6) ?_
               refine zE [3, 4, 5] ?_
               clear hK K hL
               clear hX
               have hX := hX0
               clear hX0
               intro ρ hL
               refine awl_nil ?_
               refine blk_normal (hR1 _ _ (.mk ?_))
               revert ρ hL
               refine zD [0, 0, 1, 7] [2, 3] ?_
               have hpc := rob_r (xs := k.rob) (n := x4) hp0
               refine zX [2, 3, 4, 5, 6, 7] [0, 2, 3, 4, 5, 6, 7] ?_
               refine ⟨l, ⟨k.s, k.rob.set 0 (withR (ent0 k.rob) x4), k.next, k.stop, k.guesses⟩, k.s.regs, k.s.mem.words, k.guesses, 0, 0, 0, c, ?hq7, ?hv7, ?hh7⟩
               case hv7 => (try simp only [go_sem, simprocAttr, hX, List.length_set,  hpc]); first | done | rfl
               case hh7 => (try simp only [go_sem, simprocAttr, hX, List.length_set,  hpc]); first | done | rfl
               all_goals try clear hR1
               all_goals (exact ⟨hl, ⟨hsm, by show (k.rob.set 0 _).length ≤ 12; rw [List.length_set]; omega, by show k.guesses.length ≤ 48; omega⟩, cutW_all, cutW_all, cutI_all⟩)
             · intro c8
               intro ρ hL
               refine awl_skip ?_
               refine awl_nil ?_
               refine blk_normal (hR1 _ _ (.mk ?_))
               revert ρ hL
               refine zD [0, 0, 1, 7] [2, 3] ?_
               refine zX [2, 3, 4, 5, 6, 7] [0, 2, 3, 4, 5, 6, 7] ?_
               refine ⟨l, k, k.s.regs, k.s.mem.words, k.guesses, 0, 0, 0, c, ?hq8, ?hv8, ?hh8⟩
               case hv8 => (try simp only [go_sem, simprocAttr, hX]); first | done | rfl
               case hh8 => (try simp only [go_sem, simprocAttr, hX]); first | done | rfl
               all_goals try clear hR1
               all_goals (exact ⟨hl, ⟨hsm, by show k.rob.length ≤ 12; omega, by show k.guesses.length ≤ 48; omega⟩, cutW_all, cutW_all, cutI_all⟩)
           · intro c7
             refine zS [0, 3, 4, 5, 12, 67] ?_
             refine zC ?_ ?_
             · intro c9
               refine zS [0, 3, 4, 5, 72] ?_
               refine zC ?_ ?_
               · intro c10
                 obtain ⟨w, c, hw, hs7⟩ := sat_spec_l3Draw c
                 have hp0 : 0 < k.rob.length := by omega
                 have hd11 := ents_done0 hp0
                 have hX0 := hX
                 replace hX := And.intro hp0 (And.intro hd11 hX)
                 intro ρ hL
                 refine zAD [0, 1, 0, 4, 15, 31, 63, 127] ?_
                 intro K hK
                 refine zFDJ [0, 1, 0, 4, 15, 31, 63, 127] [0] (hs7) ?_
                 refine zE [3, 4, 5] ?_
                 clear hK K hL
                 clear hX
                 have hX := hX0
                 clear hX0
                 intro ρ hL
                 refine awl_nil ?_
                 refine blk_normal (hR1 _ _ (.mk ?_))
                 revert ρ hL
                 refine zD [0, 0, 1, 7] [2, 3] ?_
                 have hpc := rob_val (xs := k.rob) (w := w) hp0
                 refine zX [2, 3, 4, 5, 6, 7] [0, 2, 3, 4, 5, 6, 7] ?_
                 refine ⟨l, ⟨k.s, k.rob.set 0 (withVal (ent0 k.rob) w), k.next, k.stop, k.guesses⟩, k.s.regs, k.s.mem.words, k.guesses, 0, 0, 0, c, ?hq9, ?hv9, ?hh9⟩
                 case hv9 => (try simp only [go_sem, simprocAttr, hX, List.length_set,  hpc]); first | done | rfl
                 case hh9 => (try simp only [go_sem, simprocAttr, hX, List.length_set,  hpc]); first | done | rfl
                 all_goals try clear hR1
                 all_goals (exact ⟨hl, ⟨hsm, by show (k.rob.set 0 _).length ≤ 12; rw [List.length_set]; omega, by show k.guesses.length ≤ 48; omega⟩, cutW_all, cutW_all, cutI_all⟩)
               · intro c10
                 intro ρ hL
                 refine awl_skip ?_
                 refine awl_nil ?_
                 refine blk_normal (hR1 _ _ (.mk ?_))
                 revert ρ hL
                 refine zD [0, 0, 1, 7] [2, 3] ?_
                 refine zX [2, 3, 4, 5, 6, 7] [0, 2, 3, 4, 5, 6, 7] ?_
                 refine ⟨l, k, k.s.regs, k.s.mem.words, k.guesses, 0, 0, 0, c, ?hq10, ?hv10, ?hh10⟩
                 case hv10 => (try simp only [go_sem, simprocAttr, hX]); first | done | rfl
                 case hh10 => (try simp only [go_sem, simprocAttr, hX]); first | done | rfl
                 all_goals try clear hR1
                 all_goals (exact ⟨hl, ⟨hsm, by show k.rob.length ≤ 12; omega, by show k.guesses.length ≤ 48; omega⟩, cutW_all, cutW_all, cutI_all⟩)
             · intro c9
               refine zS [3, 4, 5, 80] ?_
               refine zC ?_ ?_
               · intro c11
                 refine zS [3, 4, 5] ?_
                 intro ρ hL
                 refine awl_nil ?_
                 refine blk_normal (hR1 _ _ (.mk ?_))
                 revert ρ hL
                 refine zD [0, 0, 1, 7] [2, 3] ?_
                 refine zX [2, 3, 4, 5, 9, 7] [0, 2, 3, 4, 5, 9, 7] ?_
                 refine ⟨l, ⟨k.s, k.rob ++ k.rob, k.next, k.stop, k.guesses⟩, k.s.regs, k.s.mem.words, k.guesses, 0, 0, 0, c, ?hq11, ?hv11, ?hh11⟩
                 case hv11 => (try simp only [go_sem, simprocAttr, hX, List.length_append,  rows_append]); first | done | rfl
                 case hh11 => (try simp only [go_sem, simprocAttr, hX, List.length_append,  rows_append]); first | done | rfl
                 all_goals try clear hR1
                 all_goals (exact ⟨hl, ⟨hsm, by show (k.rob ++ k.rob).length ≤ 12; rw [List.length_append]; omega, by show k.guesses.length ≤ 48; omega⟩, cutW_all, cutW_all, cutI_all⟩)
               · intro c11
                 intro ρ hL
                 refine awl_skip ?_
                 refine awl_nil ?_
                 refine blk_normal (hR1 _ _ (.mk ?_))
                 revert ρ hL
                 refine zD [0, 0, 1, 7] [2, 3] ?_
                 refine zX [2, 3, 4, 5, 6, 7] [0, 2, 3, 4, 5, 6, 7] ?_
                 refine ⟨l, k, k.s.regs, k.s.mem.words, k.guesses, 0, 0, 0, c, ?hq12, ?hv12, ?hh12⟩
                 case hv12 => (try simp only [go_sem, simprocAttr, hX]); first | done | rfl
                 case hh12 => (try simp only [go_sem, simprocAttr, hX]); first | done | rfl
                 all_goals try clear hR1
                 all_goals (exact ⟨hl, ⟨hsm, by show k.rob.length ≤ 12; omega, by show k.guesses.length ≤ 48; omega⟩, cutW_all, cutW_all, cutI_all⟩)
end Go.Proofs.YtdifphcihhbjlaaGreat.AM
