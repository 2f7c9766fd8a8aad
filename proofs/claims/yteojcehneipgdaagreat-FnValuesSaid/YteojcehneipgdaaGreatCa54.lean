/- What is drawn: memory and states. No conditions but those each theorem bears. -/
import Derived.Test.YteojcehneipgdaaGreatFa
import Derived.Test.YteojcehneipgdaaGreatM6
import Derived.Test.YteojcehneipgdaaGreatCa53
import Derived.Test.YteojcehneipgdaaGreatCa30
set_option linter.unusedSimpArgs false
set_option linter.unusedVariables false
namespace Go.Proofs.YteojcehneipgdaaGreat.AM
open Go
set_option maxHeartbeats 8000000
set_option maxRecDepth 100000

theorem sat_spec_MemoryNew   : Sat Tryz.prog 210 [] [] (.agg (memNew.own 0 1)) memNew.blks := by
 have hX := trivial
 refine sat_mk [.cell 0 32] 0 4 Tryz.call210 Tryz.func210 Tryz.ntmps210 rfl rfl rfl rfl rfl ?_
 refine awl_live' [] fun ρ hL => ?_
 clear hL
 have hL := trivial
 refine zA ?_
 intro K hK
 refine zE [0] ?_
 clear hK K hL
 refine zD [0, 0, 3, 7] [0] ?_
 intro ρ hL
 refine awl_ret ?_
 refine retN (v := .agg [.slice 1 0 24 24, .slice 2 0 24 24]) [] [1, 2] [1, 2] rfl (by simp only [go_sem, simprocAttr, hL, hX]; exact rfl) (by first | rfl | (simp only [go_sem, simprocAttr, hL, hX]; first | done | rfl)) (Ref.agg (RefL.cons (Ref.cap _ _ _ _ 0 (Nat.zero_le _)) (RefL.cons (Ref.cap _ _ _ _ 0 (Nat.zero_le _)) (RefL.same [])))) rfl (by decide) rfl rfl ?_ ?_
 all_goals try simp only [go_sem, simprocAttr, hL, hX]
 all_goals (rfl)
theorem sat_spec_StateNew   : ∃ (s : Stt), (sttOk s = true) ∧ Sat Tryz.prog 183 [] [] (.agg (s.own 0 1 2)) s.blks := by
 suffices hE : ∃ zv zh, (∃ (s : Stt), (sttOk s = true) ∧ zv = (.agg (s.own 0 1 2)) ∧ zh = s.blks) ∧ Sat Tryz.prog 183 [] [] zv zh from by
   obtain ⟨_, _, ⟨s, hq, rfl, rfl⟩, hs⟩ := hE
   exact ⟨s, hq, hs⟩
 have hX := trivial
 refine sat_ex [.cell 0 34] 0 14 Tryz.call183 Tryz.func183 Tryz.ntmps183 rfl rfl rfl rfl rfl ?_
 refine awl_live' [] fun ρ hL => ?_
 clear hL
 have hL := trivial
 refine zA ?_
 intro K hK
 refine zE [0] ?_
 clear hK K hL
 intro ρ hL
 refine zAD [0, 0, 3, 0, 15] ?_
 intro K hK
 refine zFDJ [0, 0, 3, 0, 15] [] (sat_spec_MemoryNew) ?_
 refine zE [0, 1] ?_
 clear hK K hL
 obtain ⟨z, hz, hz8⟩ : ∃ z : List Word, z = List.replicate 8 noWord ∧ z.length = 8 := ⟨_, rfl, rfl⟩
 intro ρ hL
 rw [show (⟨6, [[.int .i64 0, .bool false, .int .i64 0, .int .i64 0, .int .i64 0, .int .i64 0], [.int .i64 0, .bool false, .int .i64 0, .int .i64 0, .int .i64 0, .int .i64 0], [.int .i64 0, .bool false, .int .i64 0, .int .i64 0, .int .i64 0, .int .i64 0], [.int .i64 0, .bool false, .int .i64 0, .int .i64 0, .int .i64 0, .int .i64 0], [.int .i64 0, .bool false, .int .i64 0, .int .i64 0, .int .i64 0, .int .i64 0], [.int .i64 0, .bool false, .int .i64 0, .int .i64 0, .int .i64 0, .int .i64 0], [.int .i64 0, .bool false, .int .i64 0, .int .i64 0, .int .i64 0, .int .i64 0], [.int .i64 0, .bool false, .int .i64 0, .int .i64 0, .int .i64 0, .int .i64 0]].flatten, true, false⟩ : Blk) = ⟨6, rows z, true, false⟩ by rw [hz]; rfl]
 have hn9 : 0 < z.length := by omega
 repeat refine awl_seq ?_
 refine awl_regD mixed _ rfl fun K hK => ?_
 try simp only [go_sem, simprocAttr, hL, hX, hn9, hz8, words_put0 hn9]
 repeat' refine And.intro (by first | omega | (exact ⟨[0, 1, 0, 4, 15, 31], by kernel_rfl⟩) | kernel_rfl) ?_
 refine dS_call_ro rfl (sat_spec_KeyWord ⟨0, 24, 59, 0⟩ 0) ?ha ?hv ?hh ?_
 case ha => simp only [go_sem, simprocAttr, hL, hX, hn9, hz8, words_put0 hn9]; first | done | rfl
 case hv => first | rfl | (simp only [go_sem]; done)
 case hh => first | rfl | (simp only [go_sem]; done)
 try simp only [go_sem, simprocAttr, hL, hX, hn9, hz8, words_put0 hn9]
 repeat' refine And.intro (by first | omega | (exact ⟨[0, 1, 0, 4, 15, 31], by kernel_rfl⟩) | kernel_rfl) ?_
 refine hK _ _ (.mk (awl_live' [0, 1] fun ρ hM => ?_))
 try simp only [go_sem, simprocAttr, hL, hX, hn9, hz8, words_put0 hn9] at hM
 clear hK K hL
 revert ρ hM
 refine zSF [0, 1] (sat_spec_KeyWord ⟨0, 48, 4, 0⟩ 0) ?_
 refine zS [0] ?_
 intro ρ hL
 refine awl_ret ?_
 refine retNE (v := .agg [.slice 1 0 8 8, .int .i64 (keyWord ⟨0, 48, 4, 0⟩ 0).n, .bool (keyWord ⟨0, 48, 4, 0⟩ 0).is, .int .i64 (keyWord ⟨0, 48, 4, 0⟩ 0).key.base, .int .i64 (keyWord ⟨0, 48, 4, 0⟩ 0).key.top, .int .i64 (keyWord ⟨0, 48, 4, 0⟩ 0).key.perms, .int .i64 (keyWord ⟨0, 48, 4, 0⟩ 0).key.lock, .slice 2 0 memNew.words.length 0, .slice 3 0 memNew.gone.length 0, .int .i64 0]) [] [1, 2, 3] [1, 2, 3] rfl (by simp only [go_sem, simprocAttr, hL, hX]; exact rfl) (by first | rfl | (simp only [go_sem, simprocAttr, hL, hX]; first | done | rfl)) (Ref.agg (RefL.cons (Ref.cap _ _ _ _ 0 (Nat.zero_le _)) (RefL.cons (Ref.refl _) (RefL.cons (Ref.refl _) (RefL.cons (Ref.refl _) (RefL.cons (Ref.refl _) (RefL.cons (Ref.refl _) (RefL.cons (Ref.refl _) (RefL.cons (Ref.refl _) (RefL.cons (Ref.refl _) (RefL.cons (Ref.refl _) (RefL.same [])))))))))))) rfl (by decide) rfl rfl rfl rfl ?_
 refine ⟨⟨z.set 0 (keyWord ⟨0, 24, 59, 0⟩ 0), keyWord ⟨0, 48, 4, 0⟩ 0, memNew, 0⟩, ?hq1, ?hv1, ?hh1⟩
 case hv1 => (try simp only [go_sem, simprocAttr, hX, List.length_set,  hz8]); first | done | rfl
 case hh1 => (try simp only [go_sem, simprocAttr, hX, List.length_set,  hz8]); first | done | rfl
 all_goals (subst hz; exact sttNew_ok)
theorem sat_spec_l8DrawRight (c : Cu)  : ∃ (m : Mem) (d : Cu), (memOk m = true) ∧ Sat Tryz.prog 184 [.ptr 0 0] [⟨3, c.cells, true, false⟩] (.agg (m.own 1 2)) (⟨3, d.cells, true, false⟩ :: m.blks) := by
 suffices hE : ∃ zv zh, (∃ (m : Mem) (d : Cu), (memOk m = true) ∧ zv = (.agg (m.own 1 2)) ∧ zh = (⟨3, d.cells, true, false⟩ :: m.blks)) ∧ Sat Tryz.prog 184 [.ptr 0 0] [⟨3, c.cells, true, false⟩] zv zh from by
   obtain ⟨_, _, ⟨m, d, hq, rfl, rfl⟩, hs⟩ := hE
   exact ⟨m, d, hq, hs⟩
 have hX := trivial
 refine sat_ex [.cell 2 32] 1 32 Tryz.call184 Tryz.func184 Tryz.ntmps184 rfl rfl rfl rfl rfl ?_
 refine zI [0] ?_
 refine zS [0, 2] ?_
 refine zSF [0, 2, 3] (sat_spec_MemoryNew) ?_
 refine zS [0, 2, 3, 4] ?_
 intro ρ hL
 have e1 := hL
 refine awl_loopH (fun H0 n σ G => ∃ (m : Mem) (c : Cu) (i : Nat), n = 12 - i ∧ (i ≤ 12) ∧ (memOk m = true) ∧ (liveE [0, 2, 3] σ ρ ∧ σ 4 = .int .i64 (i : Int)) ∧ G = [⟨3, c.cells, true, false⟩, ⟨2, [.nilsl, .nilsl], true, false⟩, ⟨6, rows m.words, true, false⟩, ⟨1, rows m.gone, true, false⟩, ⟨2, m.own 2 3, true, false⟩]) (fun H0 σ G => ∃ (m : Mem) (c : Cu), (memOk m = true) ∧ (liveE [0, 2, 3] σ ρ) ∧ G = [⟨3, c.cells, true, false⟩, ⟨2, [.nilsl, .nilsl], true, false⟩, ⟨6, rows m.words, true, false⟩, ⟨1, rows m.gone, true, false⟩, ⟨2, m.own 2 3, true, false⟩]) ((fun (m : Mem) (c : Cu) (i : Nat) => 12 - i) memNew  c  0) ?init1 (fun n ρ G hI => ?round1) (fun ρ G hJ => ?after1)
 case init1 => exact ⟨memNew, c, 0, rfl, (Nat.zero_le _), (memNew_ok), ⟨liveE_refl _ _, (hL.2.2.2)⟩, rfl⟩
 case round1 =>
  clear hL
  obtain ⟨m, c, i, hn, i1_0, i1_1, hL, hG⟩ := hI
  subst hG
  try simp only [go_sem, simprocAttr, e1, hX] at hL
  obtain ⟨x0, c, hx0, hs1⟩ := sat_spec_l1Below c 12
  have hb0 := hx0.2.1 (by decide)
  refine zA ?_
  intro K hK
  refine zFJ [0] (hs1) ?_
  refine zE [0, 2, 3, 4, 10] ?_
  clear hK K hL
  refine zC ?_ ?_
  · intro c1
    intro ρ hL
    refine awl_skip ?_
    refine awl_seq ?_
    refine awl_block fun R1 hw1 hR1 => ?_
    obtain ⟨x1, c, hx1, hs2⟩ := sat_spec_l1Below c 24
    have hb1 := hx1.2.1 (by decide)
    obtain ⟨w, c, hw, hs3⟩ := sat_spec_l3DrawRight c
    have hn9 : x1.toNat < m.words.length := by have := (memOk_iff.1 i1_1).1; omega
    have hm24 := (memOk_iff.1 i1_1).1
    have hX0 := hX
    replace hX := And.intro hn9 hX
    refine zAD [0, 1, 0, 4, 0, 28, 63, 127] ?_
    intro K hK
    refine zFDJ [0, 1, 0, 4, 0, 28, 63, 127] [0] (hs2) ?_
    refine zFDJ [0, 1, 0, 4, 0, 28, 63, 127] [0] (hs3) ?_
    refine zE [0, 2, 3, 4] ?_
    clear hK K hL
    clear hX
    have hX := hX0
    clear hX0
    intro ρ hL
    refine awl_nil ?_
    refine blk_normal (hR1 _ _ (.mk ?_))
    have wi : IntKind.i64.wrap ((i : Int) + 1) = ((i + 1 : Nat) : Int) := by rw [wrap64 (by omega)]; omega
    have hX0 := hX
    replace hX := And.intro wi hX
    revert ρ hL
    refine zS [0, 2, 3, 4] ?_
    clear hX
    have hX := hX0
    clear hX0
    intro ρ hL
    refine awl_nil ?_
    refine loop_again _ ?meas ⟨⟨m.words.set x1.toNat w, m.gone⟩, c, (i + 1), rfl, (by omega), (by exact mem_put i1_1 hw), ⟨(by simp only [go_sem, simprocAttr, hL, hX, e1]), (hL.2.2.2)⟩, (by (try simp only [go_sem, simprocAttr, words_put hn9, List.length_set]); first | done | rfl)⟩
    case meas => subst hn; omega
  · intro c1
    intro ρ hL
    refine awl_exit ?_
    refine loop_break ?_
    exact ⟨m, c, (by exact i1_1), (by simp only [go_sem, simprocAttr, hL, hX, e1]), rfl⟩
 case after1 =>
  clear hL
  obtain ⟨m, c, j1_0, hL, hG⟩ := hJ
  subst hG
  try simp only [go_sem, simprocAttr, e1, hX] at hL
  revert ρ hL
  refine zS [0, 2, 3, 5] ?_
  intro ρ hL
  have e2 := hL
  refine awl_loopH (fun H0 n σ G => ∃ (m : Mem) (c : Cu) (i : Nat), n = 4 - i ∧ (i ≤ 4) ∧ (memOk m = true) ∧ (liveE [0, 2, 3] σ ρ ∧ σ 5 = .int .i64 (i : Int)) ∧ G = [⟨3, c.cells, true, false⟩, ⟨2, [.nilsl, .nilsl], true, false⟩, ⟨6, rows m.words, true, false⟩, ⟨1, rows m.gone, true, false⟩, ⟨2, m.own 2 3, true, false⟩]) (fun H0 σ G => ∃ (m : Mem) (c : Cu), (memOk m = true) ∧ (liveE [2, 3] σ ρ) ∧ G = [⟨3, c.cells, true, false⟩, ⟨2, [.nilsl, .nilsl], true, false⟩, ⟨6, rows m.words, true, false⟩, ⟨1, rows m.gone, true, false⟩, ⟨2, m.own 2 3, true, false⟩]) ((fun (m : Mem) (c : Cu) (i : Nat) => 4 - i) m  c  0) ?init2 (fun n ρ G hI => ?round2) (fun ρ G hJ => ?after2)
  case init2 => exact ⟨m, c, 0, rfl, (Nat.zero_le _), (j1_0), ⟨liveE_refl _ _, (hL.2.2.2)⟩, rfl⟩
  case round2 =>
   clear hL
   obtain ⟨m, c, i, hn, i2_0, i2_1, hL, hG⟩ := hI
   subst hG
   try simp only [go_sem, simprocAttr, e2, hX] at hL
   obtain ⟨x0, c, hx0, hs4⟩ := sat_spec_l1Below c 4
   have hb0 := hx0.2.1 (by decide)
   refine zA ?_
   intro K hK
   refine zFJ [0] (hs4) ?_
   refine zE [0, 2, 3, 5, 23] ?_
   clear hK K hL
   refine zC ?_ ?_
   · intro c2
     intro ρ hL
     refine awl_skip ?_
     refine awl_seq ?_
     refine awl_block fun R2 hw2 hR2 => ?_
     obtain ⟨x1, c, hx1, hs5⟩ := sat_spec_l1Below c 24
     have hb1 := hx1.2.1 (by decide)
     have hn9 : x1.toNat < m.gone.length := by have := (memOk_iff.1 i2_1).2.1; omega
     have hm24 := (memOk_iff.1 i2_1).2.1
     have hX0 := hX
     replace hX := And.intro hn9 hX
     refine zAD [0, 1, 0, 4, 15, 31] ?_
     intro K hK
     refine zFDJ [0, 1, 0, 4, 15, 31] [0] (hs5) ?_
     refine zE [0, 2, 3, 5] ?_
     clear hK K hL
     clear hX
     have hX := hX0
     clear hX0
     intro ρ hL
     refine awl_nil ?_
     refine blk_normal (hR2 _ _ (.mk ?_))
     have wi : IntKind.i64.wrap ((i : Int) + 1) = ((i + 1 : Nat) : Int) := by rw [wrap64 (by omega)]; omega
     have hX0 := hX
     replace hX := And.intro wi hX
     revert ρ hL
     refine zS [0, 2, 3, 5] ?_
     clear hX
     have hX := hX0
     clear hX0
     intro ρ hL
     refine awl_nil ?_
     refine loop_again _ ?meas ⟨⟨m.words, m.gone.set x1.toNat true⟩, c, (i + 1), rfl, (by omega), (by exact mem_gone i2_1), ⟨(by simp only [go_sem, simprocAttr, hL, hX, e2]), (hL.2.2.2)⟩, (by (try simp only [go_sem, simprocAttr, bools_put hn9, List.length_set]); first | done | rfl)⟩
     case meas => subst hn; omega
   · intro c2
     intro ρ hL
     refine awl_exit ?_
     refine loop_break ?_
     exact ⟨m, c, (by exact i2_1), (by simp only [go_sem, simprocAttr, hL, hX, e2]), rfl⟩
  case after2 =>
   clear hL
   obtain ⟨m, c, j2_0, hL, hG⟩ := hJ
   subst hG
   try simp only [go_sem, simprocAttr, e2, hX] at hL
   revert ρ hL
   refine zS [2] ?_
   refine zX [2, 3] [0, 2, 3] ?_
   refine ⟨m, c, ?hq1, ?hv1, ?hh1⟩
   case hv1 => (try simp only [go_sem, simprocAttr, hX]); first | done | rfl
   case hh1 => (try simp only [go_sem, simprocAttr, hX]); first | done | rfl
   all_goals try clear hR1
   all_goals try clear hR2
   all_goals (assumption)
end Go.Proofs.YteojcehneipgdaaGreat.AM
