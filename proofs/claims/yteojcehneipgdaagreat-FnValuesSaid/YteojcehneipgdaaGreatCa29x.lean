/- Applying what a command comes to. No conditions but those each theorem bears. -/
import Derived.Test.YteojcehneipgdaaGreatFa
import Derived.Test.YteojcehneipgdaaGreatM5
import Derived.Test.YteojcehneipgdaaGreatCa28
import Derived.Test.YteojcehneipgdaaGreatCa9
set_option linter.unusedSimpArgs false
set_option linter.unusedVariables false
namespace Go.Proofs.YteojcehneipgdaaGreat.AM
open Go
set_option maxHeartbeats 8000000
set_option maxRecDepth 100000

theorem sat_spec_l9Apply (s : Stt) (e : Fx) (hk : sttOk s = true) : Sat Tryz.prog 76 [.agg (s.own 0 1 2), .agg e.cells] s.blks (.agg ((applyFx s e).own 0 1 2)) (applyFx s e).blks := by
 have hX := trivial
 refine sat_mk [.cell 4 34] 3 39 Tryz.call76 Tryz.func76 Tryz.ntmps76 rfl rfl rfl rfl rfl ?_
 refine zI [0, 1] ?_
 refine zS [2, 3, 4] ?_
 refine zSF [2, 3, 4, 7] (sat_spec_l1In _ _ _) ?_
 refine zC ?_ ?_
 · intro c1
   have hr_r := inR_iff.1 (show inR e.r 0 7 = true by assumption)
   have h8_r := (sttOk_parts hk).2.1
   have h24_r := memOk_parts (sttOk_parts hk).2.2.2.1
   have hn_r : (e.r).toNat < s.regs.length := by omega
   intro ρ hL
   repeat refine awl_seq ?_
   refine awl_regS _ rfl fun K hK => ?_
   try simp only [go_sem, simprocAttr, hL, hX, words_put hn_r, hn_r]
   repeat' refine And.intro (by first | rfl | omega | (simp; done)) ?_
   refine hK _ _ (.mk (awl_live' [2, 3, 4] fun ρ hM => ?_))
   try simp only [go_sem, simprocAttr, hL, hX, words_put hn_r, hn_r] at hM
   clear hK K hL
   revert ρ hM
   refine zSF [2, 3, 4, 17] (sat_spec_l1In _ _ _) ?_
   refine zC ?_ ?_
   · intro c2
     have hr_a := inR_iff.1 (show inR e.adr 0 23 = true by assumption)
     have h8_a := (sttOk_parts hk).2.1
     have h24_a := memOk_parts (sttOk_parts hk).2.2.2.1
     have hn_a : (e.adr).toNat < s.mem.words.length := by omega
     intro ρ hL
     repeat refine awl_seq ?_
     refine awl_regS _ rfl fun K hK => ?_
     try simp only [go_sem, simprocAttr, hL, hX, words_put hn_a, hn_a]
     repeat' refine And.intro (by first | rfl | omega | (simp; done)) ?_
     refine hK _ _ (.mk (awl_live' [2, 3, 4] fun ρ hM => ?_))
     try simp only [go_sem, simprocAttr, hL, hX, words_put hn_a, hn_a] at hM
     clear hK K hL
     revert ρ hM
     refine zSF [2, 3, 4, 28] (sat_spec_l1In _ _ _) ?_
     refine zC ?_ ?_
     · intro c3
       have hr_d := inR_iff.1 (show inR e.drop 0 23 = true by assumption)
       have h8_d := (sttOk_parts hk).2.1
       have h24_d := memOk_parts (sttOk_parts hk).2.2.2.1
       have hn_d : (e.drop).toNat < s.mem.gone.length := by omega
       intro ρ hL
       repeat refine awl_seq ?_
       refine awl_regS _ rfl fun K hK => ?_
       try simp only [go_sem, simprocAttr, hL, hX, bools_put hn_d, hn_d]
       repeat' refine And.intro (by first | rfl | omega | (simp; done)) ?_
       refine hK _ _ (.mk (awl_live' [2, 3, 4] fun ρ hM => ?_))
       try simp only [go_sem, simprocAttr, hL, hX, bools_put hn_d, hn_d] at hM
       clear hK K hL
       revert ρ hM
       refine zS [2, 4] ?_
       refine zS [4] ?_
       refine zK [] [0, 1, 2] ?_ ?_
       all_goals try simp only [go_sem, simprocAttr, hX]
       all_goals ((try simp only [applyFx, c1, c2, c3, if_true, if_false, Bool.false_eq_true, List.length_set]) <;> first | done | rfl)
     · intro c3
       intro ρ hL
       refine awl_skip ?_
       revert ρ hL
       refine zS [2, 4] ?_
       refine zS [4] ?_
       refine zK [] [0, 1, 2] ?_ ?_
       all_goals try simp only [go_sem, simprocAttr, hX]
       all_goals ((try simp only [applyFx, c1, c2, c3, if_true, if_false, Bool.false_eq_true, List.length_set]) <;> first | done | rfl)
   · intro c2
     intro ρ hL
     refine awl_skip ?_
     revert ρ hL
     refine zSF [2, 3, 4, 28] (sat_spec_l1In _ _ _) ?_
     refine zC ?_ ?_
     · intro c4
       have hr_d := inR_iff.1 (show inR e.drop 0 23 = true by assumption)
       have h8_d := (sttOk_parts hk).2.1
       have h24_d := memOk_parts (sttOk_parts hk).2.2.2.1
       have hn_d : (e.drop).toNat < s.mem.gone.length := by omega
       intro ρ hL
       repeat refine awl_seq ?_
       refine awl_regS _ rfl fun K hK => ?_
       try simp only [go_sem, simprocAttr, hL, hX, bools_put hn_d, hn_d]
       repeat' refine And.intro (by first | rfl | omega | (simp; done)) ?_
       refine hK _ _ (.mk (awl_live' [2, 3, 4] fun ρ hM => ?_))
       try simp only [go_sem, simprocAttr, hL, hX, bools_put hn_d, hn_d] at hM
       clear hK K hL
       revert ρ hM
       refine zS [2, 4] ?_
       refine zS [4] ?_
       refine zK [] [0, 1, 2] ?_ ?_
       all_goals try simp only [go_sem, simprocAttr, hX]
       all_goals ((try simp only [applyFx, c1, c2, c4, if_true, if_false, Bool.false_eq_true, List.length_set]) <;> first | done | rfl)
     · intro c4
       intro ρ hL
       refine awl_skip ?_
       revert ρ hL
       refine zS [2, 4] ?_
       refine zS [4] ?_
       refine zK [] [0, 1, 2] ?_ ?_
       all_goals try simp only [go_sem, simprocAttr, hX]
       all_goals ((try simp only [applyFx, c1, c2, c4, if_true, if_false, Bool.false_eq_true, List.length_set]) <;> first | done | rfl)
 · intro c1
   intro ρ hL
   refine awl_skip ?_
   revert ρ hL
   refine zSF [2, 3, 4, 17] (sat_spec_l1In _ _ _) ?_
   refine zC ?_ ?_
   · intro c5
     have hr_a := inR_iff.1 (show inR e.adr 0 23 = true by assumption)
     have h8_a := (sttOk_parts hk).2.1
     have h24_a := memOk_parts (sttOk_parts hk).2.2.2.1
     have hn_a : (e.adr).toNat < s.mem.words.length := by omega
     intro ρ hL
     repeat refine awl_seq ?_
     refine awl_regS _ rfl fun K hK => ?_
     try simp only [go_sem, simprocAttr, hL, hX, words_put hn_a, hn_a]
     repeat' refine And.intro (by first | rfl | omega | (simp; done)) ?_
     refine hK _ _ (.mk (awl_live' [2, 3, 4] fun ρ hM => ?_))
     try simp only [go_sem, simprocAttr, hL, hX, words_put hn_a, hn_a] at hM
     clear hK K hL
     revert ρ hM
     refine zSF [2, 3, 4, 28] (sat_spec_l1In _ _ _) ?_
     refine zC ?_ ?_
     · intro c6
       have hr_d := inR_iff.1 (show inR e.drop 0 23 = true by assumption)
       have h8_d := (sttOk_parts hk).2.1
       have h24_d := memOk_parts (sttOk_parts hk).2.2.2.1
       have hn_d : (e.drop).toNat < s.mem.gone.length := by omega
       intro ρ hL
       repeat refine awl_seq ?_
       refine awl_regS _ rfl fun K hK => ?_
       try simp only [go_sem, simprocAttr, hL, hX, bools_put hn_d, hn_d]
       repeat' refine And.intro (by first | rfl | omega | (simp; done)) ?_
       refine hK _ _ (.mk (awl_live' [2, 3, 4] fun ρ hM => ?_))
       try simp only [go_sem, simprocAttr, hL, hX, bools_put hn_d, hn_d] at hM
       clear hK K hL
       revert ρ hM
       refine zS [2, 4] ?_
       refine zS [4] ?_
       refine zK [] [0, 1, 2] ?_ ?_
       all_goals try simp only [go_sem, simprocAttr, hX]
       all_goals ((try simp only [applyFx, c1, c5, c6, if_true, if_false, Bool.false_eq_true, List.length_set]) <;> first | done | rfl)
     · intro c6
       intro ρ hL
       refine awl_skip ?_
       revert ρ hL
       refine zS [2, 4] ?_
       refine zS [4] ?_
       refine zK [] [0, 1, 2] ?_ ?_
       all_goals try simp only [go_sem, simprocAttr, hX]
       all_goals ((try simp only [applyFx, c1, c5, c6, if_true, if_false, Bool.false_eq_true, List.length_set]) <;> first | done | rfl)
   · intro c5
     intro ρ hL
     refine awl_skip ?_
     revert ρ hL
     refine zSF [2, 3, 4, 28] (sat_spec_l1In _ _ _) ?_
     refine zC ?_ ?_
     · intro c7
       have hr_d := inR_iff.1 (show inR e.drop 0 23 = true by assumption)
       have h8_d := (sttOk_parts hk).2.1
       have h24_d := memOk_parts (sttOk_parts hk).2.2.2.1
       have hn_d : (e.drop).toNat < s.mem.gone.length := by omega
       intro ρ hL
       repeat refine awl_seq ?_
       refine awl_regS _ rfl fun K hK => ?_
       try simp only [go_sem, simprocAttr, hL, hX, bools_put hn_d, hn_d]
       repeat' refine And.intro (by first | rfl | omega | (simp; done)) ?_
       refine hK _ _ (.mk (awl_live' [2, 3, 4] fun ρ hM => ?_))
       try simp only [go_sem, simprocAttr, hL, hX, bools_put hn_d, hn_d] at hM
       clear hK K hL
       revert ρ hM
       refine zS [2, 4] ?_
       refine zS [4] ?_
       refine zK [] [0, 1, 2] ?_ ?_
       all_goals try simp only [go_sem, simprocAttr, hX]
       all_goals ((try simp only [applyFx, c1, c5, c7, if_true, if_false, Bool.false_eq_true, List.length_set]) <;> first | done | rfl)
     · intro c7
       intro ρ hL
       refine awl_skip ?_
       revert ρ hL
       refine zS [2, 4] ?_
       refine zS [4] ?_
       refine zK [] [0, 1, 2] ?_ ?_
       all_goals try simp only [go_sem, simprocAttr, hX]
       all_goals ((try simp only [applyFx, c1, c5, c7, if_true, if_false, Bool.false_eq_true, List.length_set]) <;> first | done | rfl)
theorem sat_impl_State_put (s : Stt) (e : Fx) (hk : sttOk s = true) : Sat Tryz.prog 69 [.ptr 0 0, .agg e.cells] (⟨10, s.own 1 2 3, true, false⟩ :: s.blks) (.tuple []) (⟨10, (applyFx s e).own 1 2 3, true, false⟩ :: (applyFx s e).blks) := by
 have hX := trivial
 refine sat_mk [] 4 45 Tryz.call69 Tryz.func69 Tryz.ntmps69 rfl rfl rfl rfl rfl ?_
 refine zI [0, 1] ?_
 refine zS [0, 3] ?_
 refine zSF [0, 3, 6] (sat_impl_in _ _ _) ?_
 refine zC ?_ ?_
 · intro c1
   have hr_r := inR_iff.1 (show inR e.r 0 7 = true by assumption)
   have h8_r := (sttOk_parts hk).2.1
   have h24_r := memOk_parts (sttOk_parts hk).2.2.2.1
   have hn_r : (e.r).toNat < s.regs.length := by omega
   intro ρ hL
   repeat refine awl_seq ?_
   refine awl_regD mixed _ rfl fun K hK => ?_
   try simp only [go_sem, simprocAttr, hL, hX, words_put hn_r, hn_r]
   repeat' refine And.intro (by first | omega | (exact ⟨[0, 1, 3, 7, 0, 16, 0, 64, 255, 511], by kernel_rfl⟩) | kernel_rfl) ?_
   refine hK _ _ (.mk (awl_live' [0, 3] fun ρ hM => ?_))
   try simp only [go_sem, simprocAttr, hL, hX, words_put hn_r, hn_r] at hM
   clear hK K hL
   revert ρ hM
   refine zSF [0, 3, 18] (sat_impl_in _ _ _) ?_
   refine zC ?_ ?_
   · intro c2
     have hr_a := inR_iff.1 (show inR e.adr 0 23 = true by assumption)
     have h8_a := (sttOk_parts hk).2.1
     have h24_a := memOk_parts (sttOk_parts hk).2.2.2.1
     have hn_a : (e.adr).toNat < s.mem.words.length := by omega
     intro ρ hL
     repeat refine awl_seq ?_
     refine awl_regD mixed _ rfl fun K hK => ?_
     try simp only [go_sem, simprocAttr, hL, hX, words_put hn_a, hn_a]
     repeat' refine And.intro (by first | omega | (exact ⟨[0, 1, 3, 7, 15, 0, 32, 0, 128, 511, 1023], by kernel_rfl⟩) | kernel_rfl) ?_
     refine hK _ _ (.mk (awl_live' [0, 3] fun ρ hM => ?_))
     try simp only [go_sem, simprocAttr, hL, hX, words_put hn_a, hn_a] at hM
     clear hK K hL
     revert ρ hM
     refine zSF [0, 3, 31] (sat_impl_in _ _ _) ?_
     refine zC ?_ ?_
     · intro c3
       have hr_d := inR_iff.1 (show inR e.drop 0 23 = true by assumption)
       have h8_d := (sttOk_parts hk).2.1
       have h24_d := memOk_parts (sttOk_parts hk).2.2.2.1
       have hn_d : (e.drop).toNat < s.mem.gone.length := by omega
       intro ρ hL
       repeat refine awl_seq ?_
       refine awl_regD mixed _ rfl fun K hK => ?_
       try simp only [go_sem, simprocAttr, hL, hX, bools_put hn_d, hn_d]
       repeat' refine And.intro (by first | omega | (exact ⟨[0, 1, 3, 7, 15, 0, 32, 127, 255], by kernel_rfl⟩) | kernel_rfl) ?_
       refine hK _ _ (.mk (awl_live' [0, 3] fun ρ hM => ?_))
       try simp only [go_sem, simprocAttr, hL, hX, bools_put hn_d, hn_d] at hM
       clear hK K hL
       revert ρ hM
       refine zS [0] ?_
       intro ρ hL
       refine awl_nil ?_
       refine end_mk ?_
       refine retK [] [0, 1, 2, 3] rfl (by simp only [go_sem, simprocAttr, hL, hX]; exact rfl) (by decide) (by first | rfl | (simp only [go_sem, simprocAttr, hL, hX]; first | done | rfl)) (by first | rfl | (simp only [go_sem, simprocAttr, hL, hX]; first | done | rfl)) ?_ ?_
       all_goals try simp only [go_sem, simprocAttr, hL, hX]
       all_goals ((try simp only [applyFx, c1, c2, c3, if_true, if_false, Bool.false_eq_true, List.length_set]) <;> first | done | rfl)
     · intro c3
       intro ρ hL
       refine awl_skip ?_
       revert ρ hL
       refine zS [0] ?_
       intro ρ hL
       refine awl_nil ?_
       refine end_mk ?_
       refine retK [] [0, 1, 2, 3] rfl (by simp only [go_sem, simprocAttr, hL, hX]; exact rfl) (by decide) (by first | rfl | (simp only [go_sem, simprocAttr, hL, hX]; first | done | rfl)) (by first | rfl | (simp only [go_sem, simprocAttr, hL, hX]; first | done | rfl)) ?_ ?_
       all_goals try simp only [go_sem, simprocAttr, hL, hX]
       all_goals ((try simp only [applyFx, c1, c2, c3, if_true, if_false, Bool.false_eq_true, List.length_set]) <;> first | done | rfl)
   · intro c2
     intro ρ hL
     refine awl_skip ?_
     revert ρ hL
     refine zSF [0, 3, 31] (sat_impl_in _ _ _) ?_
     refine zC ?_ ?_
     · intro c4
       have hr_d := inR_iff.1 (show inR e.drop 0 23 = true by assumption)
       have h8_d := (sttOk_parts hk).2.1
       have h24_d := memOk_parts (sttOk_parts hk).2.2.2.1
       have hn_d : (e.drop).toNat < s.mem.gone.length := by omega
       intro ρ hL
       repeat refine awl_seq ?_
       refine awl_regD mixed _ rfl fun K hK => ?_
       try simp only [go_sem, simprocAttr, hL, hX, bools_put hn_d, hn_d]
       repeat' refine And.intro (by first | omega | (exact ⟨[0, 1, 3, 7, 15, 0, 32, 127, 255], by kernel_rfl⟩) | kernel_rfl) ?_
       refine hK _ _ (.mk (awl_live' [0, 3] fun ρ hM => ?_))
       try simp only [go_sem, simprocAttr, hL, hX, bools_put hn_d, hn_d] at hM
       clear hK K hL
       revert ρ hM
       refine zS [0] ?_
       intro ρ hL
       refine awl_nil ?_
       refine end_mk ?_
       refine retK [] [0, 1, 2, 3] rfl (by simp only [go_sem, simprocAttr, hL, hX]; exact rfl) (by decide) (by first | rfl | (simp only [go_sem, simprocAttr, hL, hX]; first | done | rfl)) (by first | rfl | (simp only [go_sem, simprocAttr, hL, hX]; first | done | rfl)) ?_ ?_
       all_goals try simp only [go_sem, simprocAttr, hL, hX]
       all_goals ((try simp only [applyFx, c1, c2, c4, if_true, if_false, Bool.false_eq_true, List.length_set]) <;> first | done | rfl)
     · intro c4
       intro ρ hL
       refine awl_skip ?_
       revert ρ hL
       refine zS [0] ?_
       intro ρ hL
       refine awl_nil ?_
       refine end_mk ?_
       refine retK [] [0, 1, 2, 3] rfl (by simp only [go_sem, simprocAttr, hL, hX]; exact rfl) (by decide) (by first | rfl | (simp only [go_sem, simprocAttr, hL, hX]; first | done | rfl)) (by first | rfl | (simp only [go_sem, simprocAttr, hL, hX]; first | done | rfl)) ?_ ?_
       all_goals try simp only [go_sem, simprocAttr, hL, hX]
       all_goals ((try simp only [applyFx, c1, c2, c4, if_true, if_false, Bool.false_eq_true, List.length_set]) <;> first | done | rfl)
 · intro c1
   intro ρ hL
   refine awl_skip ?_
   revert ρ hL
   refine zSF [0, 3, 18] (sat_impl_in _ _ _) ?_
   refine zC ?_ ?_
   · intro c5
     have hr_a := inR_iff.1 (show inR e.adr 0 23 = true by assumption)
     have h8_a := (sttOk_parts hk).2.1
     have h24_a := memOk_parts (sttOk_parts hk).2.2.2.1
     have hn_a : (e.adr).toNat < s.mem.words.length := by omega
     intro ρ hL
     repeat refine awl_seq ?_
     refine awl_regD mixed _ rfl fun K hK => ?_
     try simp only [go_sem, simprocAttr, hL, hX, words_put hn_a, hn_a]
     repeat' refine And.intro (by first | omega | (exact ⟨[0, 1, 3, 7, 15, 0, 32, 0, 128, 511, 1023], by kernel_rfl⟩) | kernel_rfl) ?_
     refine hK _ _ (.mk (awl_live' [0, 3] fun ρ hM => ?_))
     try simp only [go_sem, simprocAttr, hL, hX, words_put hn_a, hn_a] at hM
     clear hK K hL
     revert ρ hM
     refine zSF [0, 3, 31] (sat_impl_in _ _ _) ?_
     refine zC ?_ ?_
     · intro c6
       have hr_d := inR_iff.1 (show inR e.drop 0 23 = true by assumption)
       have h8_d := (sttOk_parts hk).2.1
       have h24_d := memOk_parts (sttOk_parts hk).2.2.2.1
       have hn_d : (e.drop).toNat < s.mem.gone.length := by omega
       intro ρ hL
       repeat refine awl_seq ?_
       refine awl_regD mixed _ rfl fun K hK => ?_
       try simp only [go_sem, simprocAttr, hL, hX, bools_put hn_d, hn_d]
       repeat' refine And.intro (by first | omega | (exact ⟨[0, 1, 3, 7, 15, 0, 32, 127, 255], by kernel_rfl⟩) | kernel_rfl) ?_
       refine hK _ _ (.mk (awl_live' [0, 3] fun ρ hM => ?_))
       try simp only [go_sem, simprocAttr, hL, hX, bools_put hn_d, hn_d] at hM
       clear hK K hL
       revert ρ hM
       refine zS [0] ?_
       intro ρ hL
       refine awl_nil ?_
       refine end_mk ?_
       refine retK [] [0, 1, 2, 3] rfl (by simp only [go_sem, simprocAttr, hL, hX]; exact rfl) (by decide) (by first | rfl | (simp only [go_sem, simprocAttr, hL, hX]; first | done | rfl)) (by first | rfl | (simp only [go_sem, simprocAttr, hL, hX]; first | done | rfl)) ?_ ?_
       all_goals try simp only [go_sem, simprocAttr, hL, hX]
       all_goals ((try simp only [applyFx, c1, c5, c6, if_true, if_false, Bool.false_eq_true, List.length_set]) <;> first | done | rfl)
     · intro c6
       intro ρ hL
       refine awl_skip ?_
       revert ρ hL
       refine zS [0] ?_
       intro ρ hL
       refine awl_nil ?_
       refine end_mk ?_
       refine retK [] [0, 1, 2, 3] rfl (by simp only [go_sem, simprocAttr, hL, hX]; exact rfl) (by decide) (by first | rfl | (simp only [go_sem, simprocAttr, hL, hX]; first | done | rfl)) (by first | rfl | (simp only [go_sem, simprocAttr, hL, hX]; first | done | rfl)) ?_ ?_
       all_goals try simp only [go_sem, simprocAttr, hL, hX]
       all_goals ((try simp only [applyFx, c1, c5, c6, if_true, if_false, Bool.false_eq_true, List.length_set]) <;> first | done | rfl)
   · intro c5
     intro ρ hL
     refine awl_skip ?_
     revert ρ hL
     refine zSF [0, 3, 31] (sat_impl_in _ _ _) ?_
     refine zC ?_ ?_
     · intro c7
       have hr_d := inR_iff.1 (show inR e.drop 0 23 = true by assumption)
       have h8_d := (sttOk_parts hk).2.1
       have h24_d := memOk_parts (sttOk_parts hk).2.2.2.1
       have hn_d : (e.drop).toNat < s.mem.gone.length := by omega
       intro ρ hL
       repeat refine awl_seq ?_
       refine awl_regD mixed _ rfl fun K hK => ?_
       try simp only [go_sem, simprocAttr, hL, hX, bools_put hn_d, hn_d]
       repeat' refine And.intro (by first | omega | (exact ⟨[0, 1, 3, 7, 15, 0, 32, 127, 255], by kernel_rfl⟩) | kernel_rfl) ?_
       refine hK _ _ (.mk (awl_live' [0, 3] fun ρ hM => ?_))
       try simp only [go_sem, simprocAttr, hL, hX, bools_put hn_d, hn_d] at hM
       clear hK K hL
       revert ρ hM
       refine zS [0] ?_
       intro ρ hL
       refine awl_nil ?_
       refine end_mk ?_
       refine retK [] [0, 1, 2, 3] rfl (by simp only [go_sem, simprocAttr, hL, hX]; exact rfl) (by decide) (by first | rfl | (simp only [go_sem, simprocAttr, hL, hX]; first | done | rfl)) (by first | rfl | (simp only [go_sem, simprocAttr, hL, hX]; first | done | rfl)) ?_ ?_
       all_goals try simp only [go_sem, simprocAttr, hL, hX]
       all_goals ((try simp only [applyFx, c1, c5, c7, if_true, if_false, Bool.false_eq_true, List.length_set]) <;> first | done | rfl)
     · intro c7
       intro ρ hL
       refine awl_skip ?_
       revert ρ hL
       refine zS [0] ?_
       intro ρ hL
       refine awl_nil ?_
       refine end_mk ?_
       refine retK [] [0, 1, 2, 3] rfl (by simp only [go_sem, simprocAttr, hL, hX]; exact rfl) (by decide) (by first | rfl | (simp only [go_sem, simprocAttr, hL, hX]; first | done | rfl)) (by first | rfl | (simp only [go_sem, simprocAttr, hL, hX]; first | done | rfl)) ?_ ?_
       all_goals try simp only [go_sem, simprocAttr, hL, hX]
       all_goals ((try simp only [applyFx, c1, c5, c7, if_true, if_false, Bool.false_eq_true, List.length_set]) <;> first | done | rfl)
end Go.Proofs.YteojcehneipgdaaGreat.AM
