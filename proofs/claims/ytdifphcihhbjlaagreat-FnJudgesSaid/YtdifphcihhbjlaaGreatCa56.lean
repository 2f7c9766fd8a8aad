/- What is drawn: states that need not be right. No conditions but those each theorem bears. -/
import Derived.Test.YtdifphcihhbjlaaGreatFa
import Derived.Test.YtdifphcihhbjlaaGreatM7
import Derived.Test.YtdifphcihhbjlaaGreatCb7
set_option linter.unusedSimpArgs false
set_option linter.unusedVariables false
namespace Go.Proofs.YtdifphcihhbjlaaGreat.AM
open Go
set_option maxHeartbeats 8000000
set_option maxRecDepth 100000

theorem sat_spec_l8Draw (c : Cu)  : ∃ (m : Mem) (ws : List Word) (o : Nat) (d : Cu), (cutW ws o m.words ∧ m.words.length ≤ 24 ∧ m.gone.length ≤ 24) ∧ Sat Tryz.prog 176 [.ptr 0 0] [⟨3, c.cells, true, false⟩] (.agg [.slice 1 o m.words.length 0, .slice 2 0 m.gone.length 0]) [⟨3, d.cells, true, false⟩, ⟨6, rows ws, true, false⟩, ⟨1, rows m.gone, true, false⟩] := by
 suffices hE : ∃ zv zh, (∃ (m : Mem) (ws : List Word) (o : Nat) (d : Cu), (cutW ws o m.words ∧ m.words.length ≤ 24 ∧ m.gone.length ≤ 24) ∧ zv = (.agg [.slice 1 o m.words.length 0, .slice 2 0 m.gone.length 0]) ∧ zh = [⟨3, d.cells, true, false⟩, ⟨6, rows ws, true, false⟩, ⟨1, rows m.gone, true, false⟩]) ∧ Sat Tryz.prog 176 [.ptr 0 0] [⟨3, c.cells, true, false⟩] zv zh from by
   obtain ⟨_, _, ⟨m, ws, o, d, hq, rfl, rfl⟩, hs⟩ := hE
   exact ⟨m, ws, o, d, hq, hs⟩
 have hX := trivial
 refine sat_ex [.cell 2 31] 1 27 Tryz.call176 Tryz.func176 Tryz.ntmps176 rfl rfl rfl rfl rfl ?_
 refine zI [0] ?_
 refine zS [0, 2] ?_
 obtain ⟨m, c, hm, hs1⟩ := sat_spec_l8DrawRight c
 have hm24 := (memOk_iff.1 hm).1
 have hg24 := (memOk_iff.1 hm).2.1
 intro ρ hL
 refine zA ?_
 intro K hK
 refine zFJ [0] (hs1) ?_
 refine zE [0, 2, 3] ?_
 clear hK K hL
 obtain ⟨x0, c, hx0, hs2⟩ := sat_spec_l1Below c 15
 have hb0 := hx0.2.1 (by decide)
 intro ρ hL
 refine zA ?_
 intro K hK
 refine zFJ [0] (hs2) ?_
 refine zE [0, 2, 3, 7] ?_
 clear hK K hL
 intro ρ hL
 refine awl_block fun R1 hw1 hR1 => ?_
 revert ρ hL
 refine zS [0, 2, 3, 7, 8] ?_
 refine zC ?_ ?_
 · intro c1
   have hX0 := hX
   replace hX := And.intro hm24 hX
   refine zS [2, 3] ?_
   clear hX
   have hX := hX0
   clear hX0
   intro ρ hL
   refine awl_nil ?_
   refine blk_normal (hR1 _ _ (.mk ?_))
   revert ρ hL
   refine zS [2] ?_
   intro ρ hL
   refine awl_ret ?_
   refine retNE (v := .agg [.slice 2 6 23 23, .slice 3 0 m.gone.length 0]) [] [2, 3] [0, 2, 3] rfl (by simp only [go_sem, simprocAttr, hL, hX]; exact rfl) (by first | rfl | (simp only [go_sem, simprocAttr, hL, hX]; first | done | rfl)) (Ref.agg (RefL.cons (Ref.cap _ _ _ _ 0 (Nat.zero_le _)) (RefL.cons (Ref.refl _) (RefL.same [])))) rfl (by decide) rfl rfl rfl rfl ?_
   refine ⟨⟨m.words.drop 1, m.gone⟩, m.words, 6, c, ?hq1, ?hv1, ?hh1⟩
   case hv1 => (try simp only [go_sem, simprocAttr, hX, List.length_drop,  hm24]); first | done | rfl
   case hh1 => (try simp only [go_sem, simprocAttr, hX, List.length_drop,  hm24]); first | done | rfl
   all_goals try clear hR1
   all_goals (exact ⟨cutW_one (by omega), by rw [List.length_drop]; omega, by show m.gone.length ≤ 24; omega⟩)
 · intro c1
   refine zS [0, 2, 3, 7, 14] ?_
   refine zC ?_ ?_
   · intro c2
     obtain ⟨x1, c, hx1, hs3⟩ := sat_spec_l1Below c 24
     have hb1 := hx1.2.1 (by decide)
     obtain ⟨w, c, hw, hs4⟩ := sat_spec_l3Draw c
     have hn9 : x1.toNat < m.words.length := by omega
     have hX0 := hX
     replace hX := And.intro hn9 hX
     intro ρ hL
     refine zAD [0, 1, 0, 4, 0, 28, 63, 127] ?_
     intro K hK
     refine zFDJ [0, 1, 0, 4, 0, 28, 63, 127] [0] (hs3) ?_
     refine zFDJ [0, 1, 0, 4, 0, 28, 63, 127] [0] (hs4) ?_
     refine zE [2, 3] ?_
     clear hK K hL
     clear hX
     have hX := hX0
     clear hX0
     intro ρ hL
     refine awl_nil ?_
     refine blk_normal (hR1 _ _ (.mk ?_))
     revert ρ hL
     refine zS [2] ?_
     refine zX [2, 3] [0, 2, 3] ?_
     refine ⟨⟨m.words.set x1.toNat w, m.gone⟩, m.words.set x1.toNat w, 0, c, ?hq2, ?hv2, ?hh2⟩
     case hv2 => (try simp only [go_sem, simprocAttr, hX, List.length_set,  words_put hn9]); first | done | rfl
     case hh2 => (try simp only [go_sem, simprocAttr, hX, List.length_set,  words_put hn9]); first | done | rfl
     all_goals try clear hR1
     all_goals (exact ⟨cutW_all, by rw [List.length_set]; omega, by show m.gone.length ≤ 24; omega⟩)
   · intro c2
     refine zS [2, 3, 23] ?_
     refine zC ?_ ?_
     · intro c3
       refine zS [2, 3] ?_
       intro ρ hL
       refine awl_nil ?_
       refine blk_normal (hR1 _ _ (.mk ?_))
       revert ρ hL
       refine zS [2] ?_
       intro ρ hL
       refine awl_ret ?_
       refine retNE (v := .agg [.slice 2 0 m.words.length 0, .nilsl]) [1] [2, 5] [0, 2, 5] rfl (by simp only [go_sem, simprocAttr, hL, hX]; exact rfl) (by first | rfl | (simp only [go_sem, simprocAttr, hL, hX]; first | done | rfl)) (Ref.agg (RefL.cons (Ref.refl _) (RefL.cons (Ref.nil 5 ⟨Nat.le_of_ble_eq_true rfl, Nat.le_of_ble_eq_true rfl⟩) (RefL.same [])))) rfl (by decide) rfl rfl rfl rfl ?_
       refine ⟨⟨m.words, []⟩, m.words, 0, c, ?hq3, ?hv3, ?hh3⟩
       case hv3 => (try simp only [go_sem, simprocAttr, hX]); first | done | rfl
       case hh3 => (try simp only [go_sem, simprocAttr, hX]); first | done | rfl
       all_goals try clear hR1
       all_goals (exact ⟨cutW_all, by show m.words.length ≤ 24; omega, Nat.zero_le _⟩)
     · intro c3
       intro ρ hL
       refine awl_skip ?_
       refine awl_nil ?_
       refine blk_normal (hR1 _ _ (.mk ?_))
       revert ρ hL
       refine zS [2] ?_
       refine zX [2, 3] [0, 2, 3] ?_
       refine ⟨m, m.words, 0, c, ?hq4, ?hv4, ?hh4⟩
       case hv4 => (try simp only [go_sem, simprocAttr, hX]); first | done | rfl
       case hh4 => (try simp only [go_sem, simprocAttr, hX]); first | done | rfl
       all_goals try clear hR1
       all_goals (exact ⟨cutW_all, by omega, by omega⟩)
theorem sat_spec_l9Draw (c : Cu)  : ∃ (l : List Ins) (s : Stt) (rs ws : List Word) (p o : Nat) (d : Cu), ((0 < l.length ∧ l.length ≤ 24) ∧ cutW rs p s.regs ∧ cutW ws o s.mem.words ∧ smallS s) ∧ Sat Tryz.prog 106 [.ptr 0 0] [⟨3, c.cells, true, false⟩] (.tuple [.slice 1 0 l.length 0, .agg (s.ownC 2 3 4 p o)]) [⟨3, d.cells, true, false⟩, ⟨5, rows l, true, false⟩, ⟨6, rows rs, true, false⟩, ⟨6, rows ws, true, false⟩, ⟨1, rows s.mem.gone, true, false⟩] := by
 suffices hE : ∃ zv zh, (∃ (l : List Ins) (s : Stt) (rs ws : List Word) (p o : Nat) (d : Cu), ((0 < l.length ∧ l.length ≤ 24) ∧ cutW rs p s.regs ∧ cutW ws o s.mem.words ∧ smallS s) ∧ zv = (.tuple [.slice 1 0 l.length 0, .agg (s.ownC 2 3 4 p o)]) ∧ zh = [⟨3, d.cells, true, false⟩, ⟨5, rows l, true, false⟩, ⟨6, rows rs, true, false⟩, ⟨6, rows ws, true, false⟩, ⟨1, rows s.mem.gone, true, false⟩]) ∧ Sat Tryz.prog 106 [.ptr 0 0] [⟨3, c.cells, true, false⟩] zv zh from by
   obtain ⟨_, _, ⟨l, s, rs, ws, p, o, d, hq, rfl, rfl⟩, hs⟩ := hE
   exact ⟨l, s, rs, ws, p, o, d, hq, hs⟩
 have hX := trivial
 refine sat_ex [.tmp 2, .cell 3 33] 1 59 Tryz.call106 Tryz.func106 Tryz.ntmps106 rfl rfl rfl rfl rfl ?_
 refine zI [0] ?_
 refine zS [0, 3] ?_
 obtain ⟨l, s, c, hls, hs1⟩ := sat_spec_l9DrawState c
 obtain ⟨hl, hk⟩ := hls
 have hs8 := (sttOk_iff.1 hk).2.1
 have hsm := ok_small hk
 intro ρ hL
 refine zA ?_
 intro K hK
 refine zFJ [0] (hs1) ?_
 refine zE [0, 3, 4, 5] ?_
 clear hK K hL
 obtain ⟨x0, c, hx0, hs2⟩ := sat_spec_l1Below c 15
 have hb0 := hx0.2.1 (by decide)
 intro ρ hL
 refine zA ?_
 intro K hK
 refine zFJ [0] (hs2) ?_
 refine zE [0, 3, 4, 5, 12] ?_
 clear hK K hL
 intro ρ hL
 refine awl_block fun R1 hw1 hR1 => ?_
 revert ρ hL
 refine zS [0, 3, 4, 5, 12, 13] ?_
 refine zC ?_ ?_
 · intro c1
   obtain ⟨x1, c, hx1, hs3⟩ := sat_spec_l1Below c 8
   have hb1 := hx1.2.1 (by decide)
   obtain ⟨w, c, hw, hs4⟩ := sat_spec_l3Draw c
   have hn9 : x1.toNat < s.regs.length := by omega
   have hX0 := hX
   replace hX := And.intro hn9 hX
   intro ρ hL
   refine zAD [0, 1, 0, 4, 0, 28, 63, 127] ?_
   intro K hK
   refine zFDJ [0, 1, 0, 4, 0, 28, 63, 127] [0] (hs3) ?_
   refine zFDJ [0, 1, 0, 4, 0, 28, 63, 127] [0] (hs4) ?_
   refine zE [3, 4, 5] ?_
   clear hK K hL
   clear hX
   have hX := hX0
   clear hX0
   intro ρ hL
   refine awl_nil ?_
   refine blk_normal (hR1 _ _ (.mk ?_))
   revert ρ hL
   refine zD [0, 0, 1, 7] [2, 3] ?_
   refine zX [2, 3, 4, 5] [0, 2, 3, 4, 5] ?_
   refine ⟨l, ⟨s.regs.set x1.toNat w, s.pc, s.mem, s.trap⟩, s.regs.set x1.toNat w, s.mem.words, 0, 0, c, ?hq1, ?hv1, ?hh1⟩
   case hv1 => (try simp only [go_sem, simprocAttr, hX, List.length_set,  words_put hn9]); first | done | rfl
   case hh1 => (try simp only [go_sem, simprocAttr, hX, List.length_set,  words_put hn9]); first | done | rfl
   all_goals try clear hR1
   all_goals (exact ⟨hl, cutW_all, cutW_all, by show (s.regs.set x1.toNat w).length ≤ 8; rw [List.length_set]; omega, hsm.2⟩)
 · intro c1
   refine zS [0, 3, 4, 5, 12, 22] ?_
   refine zC ?_ ?_
   · intro c2
     obtain ⟨w, c, hw, hs5⟩ := sat_spec_l3Draw c
     intro ρ hL
     refine zA ?_
     intro K hK
     refine zFJ [0] (hs5) ?_
     refine zE [3, 4, 5] ?_
     clear hK K hL
     intro ρ hL
     refine awl_nil ?_
     refine blk_normal (hR1 _ _ (.mk ?_))
     revert ρ hL
     refine zD [0, 0, 1, 7] [2, 3] ?_
     refine zX [2, 3, 4, 5] [0, 2, 3, 4, 5] ?_
     refine ⟨l, ⟨s.regs, w, s.mem, s.trap⟩, s.regs, s.mem.words, 0, 0, c, ?hq2, ?hv2, ?hh2⟩
     case hv2 => (try simp only [go_sem, simprocAttr, hX]); first | done | rfl
     case hh2 => (try simp only [go_sem, simprocAttr, hX]); first | done | rfl
     all_goals try clear hR1
     all_goals (exact ⟨hl, cutW_all, cutW_all, hsm⟩)
   · intro c2
     refine zS [0, 3, 4, 5, 12, 27] ?_
     refine zC ?_ ?_
     · intro c3
       obtain ⟨m, ws, o, c, hm, hs6⟩ := sat_spec_l8Draw c
       intro ρ hL
       refine zA ?_
       intro K hK
       refine zFJ [0] (hs6) ?_
       refine zE [3, 4, 5] ?_
       clear hK K hL
       intro ρ hL
       refine awl_nil ?_
       refine blk_normal (hR1 _ _ (.mk ?_))
       revert ρ hL
       refine zD [0, 0, 1, 7] [2, 3] ?_
       refine zX [2, 3, 7, 8] [0, 2, 3, 7, 8] ?_
       refine ⟨l, ⟨s.regs, s.pc, m, s.trap⟩, s.regs, ws, 0, o, c, ?hq3, ?hv3, ?hh3⟩
       case hv3 => (try simp only [go_sem, simprocAttr, hX]); first | done | rfl
       case hh3 => (try simp only [go_sem, simprocAttr, hX]); first | done | rfl
       all_goals try clear hR1
       all_goals (exact ⟨hl, cutW_all, hm.1, hsm.1, hm.2⟩)
     · intro c3
       refine zS [0, 3, 4, 5, 12, 32] ?_
       refine zC ?_ ?_
       · intro c4
         obtain ⟨x1, c, hx1, hs7⟩ := sat_spec_l1Below c 8
         have hb1 := hx1.2.1 (by decide)
         intro ρ hL
         refine zA ?_
         intro K hK
         refine zFJ [0] (hs7) ?_
         refine zE [3, 4, 5] ?_
         clear hK K hL
         intro ρ hL
         refine awl_nil ?_
         refine blk_normal (hR1 _ _ (.mk ?_))
         revert ρ hL
         refine zD [0, 0, 1, 7] [2, 3] ?_
         refine zX [2, 3, 4, 5] [0, 2, 3, 4, 5] ?_
         refine ⟨l, ⟨s.regs, s.pc, s.mem, IntKind.i64.wrap (x1 - 1)⟩, s.regs, s.mem.words, 0, 0, c, ?hq4, ?hv4, ?hh4⟩
         case hv4 => (try simp only [go_sem, simprocAttr, hX]); first | done | rfl
         case hh4 => (try simp only [go_sem, simprocAttr, hX]); first | done | rfl
         all_goals try clear hR1
         all_goals (exact ⟨hl, cutW_all, cutW_all, hsm⟩)
       · intro c4
         refine zS [0, 3, 4, 5, 12, 38] ?_
         refine zC ?_ ?_
         · intro c5
           have hX0 := hX
           replace hX := And.intro hs8 hX
           refine zS [3, 4, 5] ?_
           clear hX
           have hX := hX0
           clear hX0
           intro ρ hL
           refine awl_nil ?_
           refine blk_normal (hR1 _ _ (.mk ?_))
           revert ρ hL
           refine zD [0, 0, 1, 7] [2, 3] ?_
           intro ρ hL
           refine awl_ret ?_
           refine retNE (v := .tuple [.slice 2 0 l.length 0, .agg [.slice 3 6 7 7, .int .i64 s.pc.n, .bool s.pc.is, .int .i64 s.pc.key.base, .int .i64 s.pc.key.top, .int .i64 s.pc.key.perms, .int .i64 s.pc.key.lock, .slice 4 0 s.mem.words.length 0, .slice 5 0 s.mem.gone.length 0, .int .i64 s.trap]]) [] [2, 3, 4, 5] [0, 2, 3, 4, 5] rfl (by simp only [go_sem, simprocAttr, hL, hX]; exact rfl) (by first | rfl | (simp only [go_sem, simprocAttr, hL, hX]; first | done | rfl)) (Ref.tuple (RefL.cons (Ref.refl _) (RefL.cons (Ref.agg (RefL.cons (Ref.cap _ _ _ _ 0 (Nat.zero_le _)) (RefL.cons (Ref.refl _) (RefL.cons (Ref.refl _) (RefL.cons (Ref.refl _) (RefL.cons (Ref.refl _) (RefL.cons (Ref.refl _) (RefL.cons (Ref.refl _) (RefL.cons (Ref.refl _) (RefL.cons (Ref.refl _) (RefL.cons (Ref.refl _) (RefL.same [])))))))))))) (RefL.same [])))) rfl (by decide) rfl rfl rfl rfl ?_
           refine ⟨l, ⟨s.regs.drop 1, s.pc, s.mem, s.trap⟩, s.regs, s.mem.words, 6, 0, c, ?hq5, ?hv5, ?hh5⟩
           case hv5 => (try simp only [go_sem, simprocAttr, hX, List.length_drop,  hs8]); first | done | rfl
           case hh5 => (try simp only [go_sem, simprocAttr, hX, List.length_drop,  hs8]); first | done | rfl
           all_goals try clear hR1
           all_goals (exact ⟨hl, cutW_one (by omega), cutW_all, by show (s.regs.drop 1).length ≤ 8; rw [List.length_drop]; omega, hsm.2⟩)
         · intro c5
           refine zS [0, 3, 4, 5, 44] ?_
           refine zC ?_ ?_
           · intro c6
             obtain ⟨x1, c, hx1, hs8⟩ := sat_spec_l1Below c (l.length : Int)
             have hb1 := hx1.2.1 (by omega)
             obtain ⟨o2, r2, a2, b2, n2, c, hi, hs9⟩ := sat_spec_l6Spoil c (l.getD 0 noIns).op (l.getD 0 noIns).r (l.getD 0 noIns).a (l.getD 0 noIns).b (l.getD 0 noIns).n
             have hn9 : x1.toNat < l.length := by omega
             intro ρ hL
             have h5 := hL.2.2.2.1
             have h05 : 0 < l.length := hl.1
             have ht5 := inss_first hl.1
             have hX0 := hX
             replace hX := And.intro hn9 (And.intro h05 (And.intro ht5 hX))
             refine zAD [0, 0, 0, 4, 14, 0, 0, 64, 192, 510, 1023, 2047] ?_
             intro K hK
             refine zFDJ [0, 0, 0, 4, 14, 0, 0, 64, 192, 510, 1023, 2047] [0] (hs8) ?_
             refine zFDJ [0, 0, 0, 4, 14, 0, 0, 64, 192, 510, 1023, 2047] [0] (hs9) ?_
             clear h5
             refine zE [3, 4, 5] ?_
             clear hK K hL
             clear hX
             have hX := hX0
             clear hX0
             intro ρ hL
             refine awl_nil ?_
             refine blk_normal (hR1 _ _ (.mk ?_))
             revert ρ hL
             refine zD [0, 0, 1, 7] [2, 3] ?_
             have hp5 : putAt (rows l) (x1.toNat * 5) [.int .i64 o2, .int .i64 r2, .int .i64 a2, .int .i64 b2, .int .i64 n2] = rows (l.set x1.toNat (⟨o2, r2, a2, b2, n2⟩ : Ins)) := inss_put (x := ⟨o2, r2, a2, b2, n2⟩) hn9
             refine zX [2, 3, 4, 5] [0, 2, 3, 4, 5] ?_
             refine ⟨l.set x1.toNat ⟨o2, r2, a2, b2, n2⟩, s, s.regs, s.mem.words, 0, 0, c, ?hq6, ?hv6, ?hh6⟩
             case hv6 => (try simp only [go_sem, simprocAttr, hX, List.length_set,  hp5]); first | done | rfl
             case hh6 => (try simp only [go_sem, simprocAttr, hX, List.length_set,  hp5]); first | done | rfl
             all_goals try clear hR1
             all_goals (exact ⟨by rw [List.length_set]; exact hl, cutW_all, cutW_all, hsm⟩)
           · intro c6
             intro ρ hL
             refine awl_skip ?_
             refine awl_nil ?_
             refine blk_normal (hR1 _ _ (.mk ?_))
             revert ρ hL
             refine zD [0, 0, 1, 7] [2, 3] ?_
             refine zX [2, 3, 4, 5] [0, 2, 3, 4, 5] ?_
             refine ⟨l, s, s.regs, s.mem.words, 0, 0, c, ?hq7, ?hv7, ?hh7⟩
             case hv7 => (try simp only [go_sem, simprocAttr, hX]); first | done | rfl
             case hh7 => (try simp only [go_sem, simprocAttr, hX]); first | done | rfl
             all_goals try clear hR1
             all_goals (exact ⟨hl, cutW_all, cutW_all, hsm⟩)
end Go.Proofs.YtdifphcihhbjlaaGreat.AM
