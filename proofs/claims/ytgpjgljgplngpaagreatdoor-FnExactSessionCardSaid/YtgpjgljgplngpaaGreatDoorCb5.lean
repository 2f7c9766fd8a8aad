/- Applying what a command comes to. A step; steps in order. Sweeps. A new core. Fetching into a core. Committing. No conditions but those each theorem bears. -/
import Derived.Test.YtgpjgljgplngpaaGreatDoorFa
import Derived.Test.YtgpjgljgplngpaaGreatDoorM5
import Derived.Test.YtgpjgljgplngpaaGreatDoorCb1
import Derived.Test.YtgpjgljgplngpaaGreatDoorCb3
import Derived.Test.YtgpjgljgplngpaaGreatDoorCb4
import Derived.Test.YtgpjgljgplngpaaGreatDoorCb2
set_option linter.unusedSimpArgs false
set_option linter.unusedVariables false
namespace Go.Proofs.YtgpjgljgplngpaaGreatDoor.AM
open Go
set_option maxHeartbeats 8000000
set_option maxRecDepth 100000
theorem sat_spec_l9Apply (s : Stt) (e : Fx) (hk : sttOk s = true) : Sat Tryz.prog 173 [.agg (s.own 0 1 2), .agg e.cells] s.blks (.agg ((applyFx s e).own 0 1 2)) (applyFx s e).blks := by
 have hX := trivial
 refine sat_mk [.cell 4 32] 3 39 Tryz.call173 Tryz.func173 Tryz.ntmps173 rfl rfl rfl rfl rfl ?_
 refine zI [0, 1] ?_
 refine zS [2, 3, 4] ?_
 refine zSF [2, 3, 4, 7] (sat_spec_l1In _ _ _) ?_
 refine zC ?_ ?_
 ·intro c1
  have hr_r := inR_iff.1 (show inR e.r 0 7 = true by assumption)
  have h8_r := (sttOk_parts hk).2.1
  have h24_r := memOk_parts (sttOk_parts hk).2.2.2.1
  have hn_r : (e.r).toNat < s.regs.length := by omega
  intro ρ hL
  repeat refine awl_seq ?_
  refine awl_regS _ rfl fun K hK => ?_
  try simp only [go_sem, simprocAttr, hL, hX, words_put hn_r, hn_r]
  repeat' refine And.intro (by first | rfl | omega | (simp; done)) ?_
  refine hK _ _ (.mk (awl_live' [2, 3, 4] fun ρ hM => ?_))
  try simp only [go_sem, simprocAttr, hL, hX, words_put hn_r, hn_r] at hM
  clear hK K hL
  revert ρ hM
  refine zSF [2, 3, 4, 17] (sat_spec_l1In _ _ _) ?_
  refine zC ?_ ?_
  ·intro c2
   have hr_a := inR_iff.1 (show inR e.adr 0 23 = true by assumption)
   have h8_a := (sttOk_parts hk).2.1
   have h24_a := memOk_parts (sttOk_parts hk).2.2.2.1
   have hn_a : (e.adr).toNat < s.mem.words.length := by omega
   intro ρ hL
   repeat refine awl_seq ?_
   refine awl_regS _ rfl fun K hK => ?_
   try simp only [go_sem, simprocAttr, hL, hX, words_put hn_a, hn_a]
   repeat' refine And.intro (by first | rfl | omega | (simp; done)) ?_
   refine hK _ _ (.mk (awl_live' [2, 3, 4] fun ρ hM => ?_))
   try simp only [go_sem, simprocAttr, hL, hX, words_put hn_a, hn_a] at hM
   clear hK K hL
   revert ρ hM
   refine zSF [2, 3, 4, 28] (sat_spec_l1In _ _ _) ?_
   refine zC ?_ ?_
   ·intro c3
    have hr_d := inR_iff.1 (show inR e.drop 0 23 = true by assumption)
    have h8_d := (sttOk_parts hk).2.1
    have h24_d := memOk_parts (sttOk_parts hk).2.2.2.1
    have hn_d : (e.drop).toNat < s.mem.gone.length := by omega
    intro ρ hL
    repeat refine awl_seq ?_
    refine awl_regS _ rfl fun K hK => ?_
    try simp only [go_sem, simprocAttr, hL, hX, bools_put hn_d, hn_d]
    repeat' refine And.intro (by first | rfl | omega | (simp; done)) ?_
    refine hK _ _ (.mk (awl_live' [2, 3, 4] fun ρ hM => ?_))
    try simp only [go_sem, simprocAttr, hL, hX, bools_put hn_d, hn_d] at hM
    clear hK K hL
    revert ρ hM
    refine zS [2, 4] ?_
    refine zS [4] ?_
    refine zK [] [0, 1, 2] ?_ ?_
    all_goals try simp only [go_sem, simprocAttr, hX]
    all_goals ((try simp only [applyFx, c1, c2, c3, if_true, if_false, Bool.false_eq_true, List.length_set]) <;> first | done | rfl)
   ·intro c3 ρ hL
    refine awl_skip ?_
    revert ρ hL
    refine zS [2, 4] ?_
    refine zS [4] ?_
    refine zK [] [0, 1, 2] ?_ ?_
    all_goals try simp only [go_sem, simprocAttr, hX]
    all_goals ((try simp only [applyFx, c1, c2, c3, if_true, if_false, Bool.false_eq_true, List.length_set]) <;> first | done | rfl)
  ·intro c2 ρ hL
   refine awl_skip ?_
   revert ρ hL
   refine zSF [2, 3, 4, 28] (sat_spec_l1In _ _ _) ?_
   refine zC ?_ ?_
   ·intro c4
    have hr_d := inR_iff.1 (show inR e.drop 0 23 = true by assumption)
    have h8_d := (sttOk_parts hk).2.1
    have h24_d := memOk_parts (sttOk_parts hk).2.2.2.1
    have hn_d : (e.drop).toNat < s.mem.gone.length := by omega
    intro ρ hL
    repeat refine awl_seq ?_
    refine awl_regS _ rfl fun K hK => ?_
    try simp only [go_sem, simprocAttr, hL, hX, bools_put hn_d, hn_d]
    repeat' refine And.intro (by first | rfl | omega | (simp; done)) ?_
    refine hK _ _ (.mk (awl_live' [2, 3, 4] fun ρ hM => ?_))
    try simp only [go_sem, simprocAttr, hL, hX, bools_put hn_d, hn_d] at hM
    clear hK K hL
    revert ρ hM
    refine zS [2, 4] ?_
    refine zS [4] ?_
    refine zK [] [0, 1, 2] ?_ ?_
    all_goals try simp only [go_sem, simprocAttr, hX]
    all_goals ((try simp only [applyFx, c1, c2, c4, if_true, if_false, Bool.false_eq_true, List.length_set]) <;> first | done | rfl)
   ·intro c4 ρ hL
    refine awl_skip ?_
    revert ρ hL
    refine zS [2, 4] ?_
    refine zS [4] ?_
    refine zK [] [0, 1, 2] ?_ ?_
    all_goals try simp only [go_sem, simprocAttr, hX]
    all_goals ((try simp only [applyFx, c1, c2, c4, if_true, if_false, Bool.false_eq_true, List.length_set]) <;> first | done | rfl)
 ·intro c1 ρ hL
  refine awl_skip ?_
  revert ρ hL
  refine zSF [2, 3, 4, 17] (sat_spec_l1In _ _ _) ?_
  refine zC ?_ ?_
  ·intro c5
   have hr_a := inR_iff.1 (show inR e.adr 0 23 = true by assumption)
   have h8_a := (sttOk_parts hk).2.1
   have h24_a := memOk_parts (sttOk_parts hk).2.2.2.1
   have hn_a : (e.adr).toNat < s.mem.words.length := by omega
   intro ρ hL
   repeat refine awl_seq ?_
   refine awl_regS _ rfl fun K hK => ?_
   try simp only [go_sem, simprocAttr, hL, hX, words_put hn_a, hn_a]
   repeat' refine And.intro (by first | rfl | omega | (simp; done)) ?_
   refine hK _ _ (.mk (awl_live' [2, 3, 4] fun ρ hM => ?_))
   try simp only [go_sem, simprocAttr, hL, hX, words_put hn_a, hn_a] at hM
   clear hK K hL
   revert ρ hM
   refine zSF [2, 3, 4, 28] (sat_spec_l1In _ _ _) ?_
   refine zC ?_ ?_
   ·intro c6
    have hr_d := inR_iff.1 (show inR e.drop 0 23 = true by assumption)
    have h8_d := (sttOk_parts hk).2.1
    have h24_d := memOk_parts (sttOk_parts hk).2.2.2.1
    have hn_d : (e.drop).toNat < s.mem.gone.length := by omega
    intro ρ hL
    repeat refine awl_seq ?_
    refine awl_regS _ rfl fun K hK => ?_
    try simp only [go_sem, simprocAttr, hL, hX, bools_put hn_d, hn_d]
    repeat' refine And.intro (by first | rfl | omega | (simp; done)) ?_
    refine hK _ _ (.mk (awl_live' [2, 3, 4] fun ρ hM => ?_))
    try simp only [go_sem, simprocAttr, hL, hX, bools_put hn_d, hn_d] at hM
    clear hK K hL
    revert ρ hM
    refine zS [2, 4] ?_
    refine zS [4] ?_
    refine zK [] [0, 1, 2] ?_ ?_
    all_goals try simp only [go_sem, simprocAttr, hX]
    all_goals ((try simp only [applyFx, c1, c5, c6, if_true, if_false, Bool.false_eq_true, List.length_set]) <;> first | done | rfl)
   ·intro c6 ρ hL
    refine awl_skip ?_
    revert ρ hL
    refine zS [2, 4] ?_
    refine zS [4] ?_
    refine zK [] [0, 1, 2] ?_ ?_
    all_goals try simp only [go_sem, simprocAttr, hX]
    all_goals ((try simp only [applyFx, c1, c5, c6, if_true, if_false, Bool.false_eq_true, List.length_set]) <;> first | done | rfl)
  ·intro c5 ρ hL
   refine awl_skip ?_
   revert ρ hL
   refine zSF [2, 3, 4, 28] (sat_spec_l1In _ _ _) ?_
   refine zC ?_ ?_
   ·intro c7
    have hr_d := inR_iff.1 (show inR e.drop 0 23 = true by assumption)
    have h8_d := (sttOk_parts hk).2.1
    have h24_d := memOk_parts (sttOk_parts hk).2.2.2.1
    have hn_d : (e.drop).toNat < s.mem.gone.length := by omega
    intro ρ hL
    repeat refine awl_seq ?_
    refine awl_regS _ rfl fun K hK => ?_
    try simp only [go_sem, simprocAttr, hL, hX, bools_put hn_d, hn_d]
    repeat' refine And.intro (by first | rfl | omega | (simp; done)) ?_
    refine hK _ _ (.mk (awl_live' [2, 3, 4] fun ρ hM => ?_))
    try simp only [go_sem, simprocAttr, hL, hX, bools_put hn_d, hn_d] at hM
    clear hK K hL
    revert ρ hM
    refine zS [2, 4] ?_
    refine zS [4] ?_
    refine zK [] [0, 1, 2] ?_ ?_
    all_goals try simp only [go_sem, simprocAttr, hX]
    all_goals ((try simp only [applyFx, c1, c5, c7, if_true, if_false, Bool.false_eq_true, List.length_set]) <;> first | done | rfl)
   ·intro c7 ρ hL
    refine awl_skip ?_
    revert ρ hL
    refine zS [2, 4] ?_
    refine zS [4] ?_
    refine zK [] [0, 1, 2] ?_ ?_
    all_goals try simp only [go_sem, simprocAttr, hX]
    all_goals ((try simp only [applyFx, c1, c5, c7, if_true, if_false, Bool.false_eq_true, List.length_set]) <;> first | done | rfl)
theorem sat_impl_State_put (s : Stt) (e : Fx) (hk : sttOk s = true) : Sat Tryz.prog 205 [.ptr 0 0, .agg e.cells] (⟨10, s.own 1 2 3, true, false⟩ :: s.blks) (.tuple []) (⟨10, (applyFx s e).own 1 2 3, true, false⟩ :: (applyFx s e).blks) := by
 have hX := trivial
 refine sat_mk [] 4 45 Tryz.call205 Tryz.func205 Tryz.ntmps205 rfl rfl rfl rfl rfl ?_
 refine zI [0, 1] ?_
 refine zS [0, 3] ?_
 refine zSF [0, 3, 6] (sat_impl_in _ _ _) ?_
 refine zC ?_ ?_
 ·intro c1
  have hr_r := inR_iff.1 (show inR e.r 0 7 = true by assumption)
  have h8_r := (sttOk_parts hk).2.1
  have h24_r := memOk_parts (sttOk_parts hk).2.2.2.1
  have hn_r : (e.r).toNat < s.regs.length := by omega
  intro ρ hL
  repeat refine awl_seq ?_
  refine awl_regD mixed _ rfl fun K hK => ?_
  try simp only [go_sem, simprocAttr, hL, hX, words_put hn_r, hn_r]
  repeat' refine And.intro (by first | omega | (exact ⟨[0, 1, 3, 7, 0, 16, 0, 64, 255, 511], by kernel_rfl⟩) | kernel_rfl) ?_
  refine hK _ _ (.mk (awl_live' [0, 3] fun ρ hM => ?_))
  try simp only [go_sem, simprocAttr, hL, hX, words_put hn_r, hn_r] at hM
  clear hK K hL
  revert ρ hM
  refine zSF [0, 3, 18] (sat_impl_in _ _ _) ?_
  refine zC ?_ ?_
  ·intro c2
   have hr_a := inR_iff.1 (show inR e.adr 0 23 = true by assumption)
   have h8_a := (sttOk_parts hk).2.1
   have h24_a := memOk_parts (sttOk_parts hk).2.2.2.1
   have hn_a : (e.adr).toNat < s.mem.words.length := by omega
   intro ρ hL
   repeat refine awl_seq ?_
   refine awl_regD mixed _ rfl fun K hK => ?_
   try simp only [go_sem, simprocAttr, hL, hX, words_put hn_a, hn_a]
   repeat' refine And.intro (by first | omega | (exact ⟨[0, 1, 3, 7, 15, 0, 32, 0, 128, 511, 1023], by kernel_rfl⟩) | kernel_rfl) ?_
   refine hK _ _ (.mk (awl_live' [0, 3] fun ρ hM => ?_))
   try simp only [go_sem, simprocAttr, hL, hX, words_put hn_a, hn_a] at hM
   clear hK K hL
   revert ρ hM
   refine zSF [0, 3, 31] (sat_impl_in _ _ _) ?_
   refine zC ?_ ?_
   ·intro c3
    have hr_d := inR_iff.1 (show inR e.drop 0 23 = true by assumption)
    have h8_d := (sttOk_parts hk).2.1
    have h24_d := memOk_parts (sttOk_parts hk).2.2.2.1
    have hn_d : (e.drop).toNat < s.mem.gone.length := by omega
    intro ρ hL
    repeat refine awl_seq ?_
    refine awl_regD mixed _ rfl fun K hK => ?_
    try simp only [go_sem, simprocAttr, hL, hX, bools_put hn_d, hn_d]
    repeat' refine And.intro (by first | omega | (exact ⟨[0, 1, 3, 7, 15, 0, 32, 127, 255], by kernel_rfl⟩) | kernel_rfl) ?_
    refine hK _ _ (.mk (awl_live' [0, 3] fun ρ hM => ?_))
    try simp only [go_sem, simprocAttr, hL, hX, bools_put hn_d, hn_d] at hM
    clear hK K hL
    revert ρ hM
    refine zS [0] ?_
    intro ρ hL
    refine awl_nil ?_
    refine end_mk ?_
    refine retK [] [0, 1, 2, 3] rfl (by simp only [go_sem, simprocAttr, hL, hX]; exact rfl) (by decide) (by first | rfl | (simp only [go_sem, simprocAttr, hL, hX]; first | done | rfl)) (by first | rfl | (simp only [go_sem, simprocAttr, hL, hX]; first | done | rfl)) ?_ ?_
    all_goals try simp only [go_sem, simprocAttr, hL, hX]
    all_goals ((try simp only [applyFx, c1, c2, c3, if_true, if_false, Bool.false_eq_true, List.length_set]) <;> first | done | rfl)
   ·intro c3 ρ hL
    refine awl_skip ?_
    revert ρ hL
    refine zS [0] ?_
    intro ρ hL
    refine awl_nil ?_
    refine end_mk ?_
    refine retK [] [0, 1, 2, 3] rfl (by simp only [go_sem, simprocAttr, hL, hX]; exact rfl) (by decide) (by first | rfl | (simp only [go_sem, simprocAttr, hL, hX]; first | done | rfl)) (by first | rfl | (simp only [go_sem, simprocAttr, hL, hX]; first | done | rfl)) ?_ ?_
    all_goals try simp only [go_sem, simprocAttr, hL, hX]
    all_goals ((try simp only [applyFx, c1, c2, c3, if_true, if_false, Bool.false_eq_true, List.length_set]) <;> first | done | rfl)
  ·intro c2 ρ hL
   refine awl_skip ?_
   revert ρ hL
   refine zSF [0, 3, 31] (sat_impl_in _ _ _) ?_
   refine zC ?_ ?_
   ·intro c4
    have hr_d := inR_iff.1 (show inR e.drop 0 23 = true by assumption)
    have h8_d := (sttOk_parts hk).2.1
    have h24_d := memOk_parts (sttOk_parts hk).2.2.2.1
    have hn_d : (e.drop).toNat < s.mem.gone.length := by omega
    intro ρ hL
    repeat refine awl_seq ?_
    refine awl_regD mixed _ rfl fun K hK => ?_
    try simp only [go_sem, simprocAttr, hL, hX, bools_put hn_d, hn_d]
    repeat' refine And.intro (by first | omega | (exact ⟨[0, 1, 3, 7, 15, 0, 32, 127, 255], by kernel_rfl⟩) | kernel_rfl) ?_
    refine hK _ _ (.mk (awl_live' [0, 3] fun ρ hM => ?_))
    try simp only [go_sem, simprocAttr, hL, hX, bools_put hn_d, hn_d] at hM
    clear hK K hL
    revert ρ hM
    refine zS [0] ?_
    intro ρ hL
    refine awl_nil ?_
    refine end_mk ?_
    refine retK [] [0, 1, 2, 3] rfl (by simp only [go_sem, simprocAttr, hL, hX]; exact rfl) (by decide) (by first | rfl | (simp only [go_sem, simprocAttr, hL, hX]; first | done | rfl)) (by first | rfl | (simp only [go_sem, simprocAttr, hL, hX]; first | done | rfl)) ?_ ?_
    all_goals try simp only [go_sem, simprocAttr, hL, hX]
    all_goals ((try simp only [applyFx, c1, c2, c4, if_true, if_false, Bool.false_eq_true, List.length_set]) <;> first | done | rfl)
   ·intro c4 ρ hL
    refine awl_skip ?_
    revert ρ hL
    refine zS [0] ?_
    intro ρ hL
    refine awl_nil ?_
    refine end_mk ?_
    refine retK [] [0, 1, 2, 3] rfl (by simp only [go_sem, simprocAttr, hL, hX]; exact rfl) (by decide) (by first | rfl | (simp only [go_sem, simprocAttr, hL, hX]; first | done | rfl)) (by first | rfl | (simp only [go_sem, simprocAttr, hL, hX]; first | done | rfl)) ?_ ?_
    all_goals try simp only [go_sem, simprocAttr, hL, hX]
    all_goals ((try simp only [applyFx, c1, c2, c4, if_true, if_false, Bool.false_eq_true, List.length_set]) <;> first | done | rfl)
 ·intro c1 ρ hL
  refine awl_skip ?_
  revert ρ hL
  refine zSF [0, 3, 18] (sat_impl_in _ _ _) ?_
  refine zC ?_ ?_
  ·intro c5
   have hr_a := inR_iff.1 (show inR e.adr 0 23 = true by assumption)
   have h8_a := (sttOk_parts hk).2.1
   have h24_a := memOk_parts (sttOk_parts hk).2.2.2.1
   have hn_a : (e.adr).toNat < s.mem.words.length := by omega
   intro ρ hL
   repeat refine awl_seq ?_
   refine awl_regD mixed _ rfl fun K hK => ?_
   try simp only [go_sem, simprocAttr, hL, hX, words_put hn_a, hn_a]
   repeat' refine And.intro (by first | omega | (exact ⟨[0, 1, 3, 7, 15, 0, 32, 0, 128, 511, 1023], by kernel_rfl⟩) | kernel_rfl) ?_
   refine hK _ _ (.mk (awl_live' [0, 3] fun ρ hM => ?_))
   try simp only [go_sem, simprocAttr, hL, hX, words_put hn_a, hn_a] at hM
   clear hK K hL
   revert ρ hM
   refine zSF [0, 3, 31] (sat_impl_in _ _ _) ?_
   refine zC ?_ ?_
   ·intro c6
    have hr_d := inR_iff.1 (show inR e.drop 0 23 = true by assumption)
    have h8_d := (sttOk_parts hk).2.1
    have h24_d := memOk_parts (sttOk_parts hk).2.2.2.1
    have hn_d : (e.drop).toNat < s.mem.gone.length := by omega
    intro ρ hL
    repeat refine awl_seq ?_
    refine awl_regD mixed _ rfl fun K hK => ?_
    try simp only [go_sem, simprocAttr, hL, hX, bools_put hn_d, hn_d]
    repeat' refine And.intro (by first | omega | (exact ⟨[0, 1, 3, 7, 15, 0, 32, 127, 255], by kernel_rfl⟩) | kernel_rfl) ?_
    refine hK _ _ (.mk (awl_live' [0, 3] fun ρ hM => ?_))
    try simp only [go_sem, simprocAttr, hL, hX, bools_put hn_d, hn_d] at hM
    clear hK K hL
    revert ρ hM
    refine zS [0] ?_
    intro ρ hL
    refine awl_nil ?_
    refine end_mk ?_
    refine retK [] [0, 1, 2, 3] rfl (by simp only [go_sem, simprocAttr, hL, hX]; exact rfl) (by decide) (by first | rfl | (simp only [go_sem, simprocAttr, hL, hX]; first | done | rfl)) (by first | rfl | (simp only [go_sem, simprocAttr, hL, hX]; first | done | rfl)) ?_ ?_
    all_goals try simp only [go_sem, simprocAttr, hL, hX]
    all_goals ((try simp only [applyFx, c1, c5, c6, if_true, if_false, Bool.false_eq_true, List.length_set]) <;> first | done | rfl)
   ·intro c6 ρ hL
    refine awl_skip ?_
    revert ρ hL
    refine zS [0] ?_
    intro ρ hL
    refine awl_nil ?_
    refine end_mk ?_
    refine retK [] [0, 1, 2, 3] rfl (by simp only [go_sem, simprocAttr, hL, hX]; exact rfl) (by decide) (by first | rfl | (simp only [go_sem, simprocAttr, hL, hX]; first | done | rfl)) (by first | rfl | (simp only [go_sem, simprocAttr, hL, hX]; first | done | rfl)) ?_ ?_
    all_goals try simp only [go_sem, simprocAttr, hL, hX]
    all_goals ((try simp only [applyFx, c1, c5, c6, if_true, if_false, Bool.false_eq_true, List.length_set]) <;> first | done | rfl)
  ·intro c5 ρ hL
   refine awl_skip ?_
   revert ρ hL
   refine zSF [0, 3, 31] (sat_impl_in _ _ _) ?_
   refine zC ?_ ?_
   ·intro c7
    have hr_d := inR_iff.1 (show inR e.drop 0 23 = true by assumption)
    have h8_d := (sttOk_parts hk).2.1
    have h24_d := memOk_parts (sttOk_parts hk).2.2.2.1
    have hn_d : (e.drop).toNat < s.mem.gone.length := by omega
    intro ρ hL
    repeat refine awl_seq ?_
    refine awl_regD mixed _ rfl fun K hK => ?_
    try simp only [go_sem, simprocAttr, hL, hX, bools_put hn_d, hn_d]
    repeat' refine And.intro (by first | omega | (exact ⟨[0, 1, 3, 7, 15, 0, 32, 127, 255], by kernel_rfl⟩) | kernel_rfl) ?_
    refine hK _ _ (.mk (awl_live' [0, 3] fun ρ hM => ?_))
    try simp only [go_sem, simprocAttr, hL, hX, bools_put hn_d, hn_d] at hM
    clear hK K hL
    revert ρ hM
    refine zS [0] ?_
    intro ρ hL
    refine awl_nil ?_
    refine end_mk ?_
    refine retK [] [0, 1, 2, 3] rfl (by simp only [go_sem, simprocAttr, hL, hX]; exact rfl) (by decide) (by first | rfl | (simp only [go_sem, simprocAttr, hL, hX]; first | done | rfl)) (by first | rfl | (simp only [go_sem, simprocAttr, hL, hX]; first | done | rfl)) ?_ ?_
    all_goals try simp only [go_sem, simprocAttr, hL, hX]
    all_goals ((try simp only [applyFx, c1, c5, c7, if_true, if_false, Bool.false_eq_true, List.length_set]) <;> first | done | rfl)
   ·intro c7 ρ hL
    refine awl_skip ?_
    revert ρ hL
    refine zS [0] ?_
    intro ρ hL
    refine awl_nil ?_
    refine end_mk ?_
    refine retK [] [0, 1, 2, 3] rfl (by simp only [go_sem, simprocAttr, hL, hX]; exact rfl) (by decide) (by first | rfl | (simp only [go_sem, simprocAttr, hL, hX]; first | done | rfl)) (by first | rfl | (simp only [go_sem, simprocAttr, hL, hX]; first | done | rfl)) ?_ ?_
    all_goals try simp only [go_sem, simprocAttr, hL, hX]
    all_goals ((try simp only [applyFx, c1, c5, c7, if_true, if_false, Bool.false_eq_true, List.length_set]) <;> first | done | rfl)
theorem sat_spec_Step (l : List Ins) (s : Stt) (hl : l.length ≤ 1048576) (hf : s.fit) : Sat Tryz.prog 213 [.sl l.length l.length (rows l), .agg s.cells] [] (.agg ((step l s).own 0 1 2)) (step l s).blks := by
 have hX := trivial
 refine sat_mk [.cell 4 32] 0 73 Tryz.call213 Tryz.func213 Tryz.ntmps213 rfl rfl rfl rfl rfl ?_
 refine zI [0, 1] ?_
 refine zS [0, 3, 4] ?_
 refine zSF [0, 3, 4, 15] (sat_spec_StateOk s hf) ?_
 refine zC ?_ ?_
 ·intro c1
  refine zS [4] ?_
  intro ρ hL
  refine awl_ret ?_
  refine retN (v := .agg [.nilsl, .int .i64 0, .bool false, .int .i64 0, .int .i64 0, .int .i64 0, .int .i64 0, .nilsl, .nilsl, .int .i64 0]) [6, 6, 1] [2, 3, 4] [2, 3, 4] rfl (by simp only [go_sem, simprocAttr, hL, hX]; exact rfl) (by first | rfl | (simp only [go_sem, simprocAttr, hL, hX]; first | done | rfl)) (Ref.agg (RefL.cons (Ref.nil 2 ⟨Nat.le_of_ble_eq_true rfl, Nat.le_of_ble_eq_true rfl⟩) (RefL.cons (Ref.refl _) (RefL.cons (Ref.refl _) (RefL.cons (Ref.refl _) (RefL.cons (Ref.refl _) (RefL.cons (Ref.refl _) (RefL.cons (Ref.refl _) (RefL.cons (Ref.nil 3 ⟨Nat.le_of_ble_eq_true rfl, Nat.le_of_ble_eq_true rfl⟩) (RefL.cons (Ref.nil 4 ⟨Nat.le_of_ble_eq_true rfl, Nat.le_of_ble_eq_true rfl⟩) (RefL.cons (Ref.refl _) (RefL.same [])))))))))))) rfl (by decide) rfl rfl ?_ ?_
  all_goals try simp only [go_sem, simprocAttr, hL, hX]
  all_goals (rw [step_no c1] <;> rfl)
 ·intro c1 ρ hL
  refine awl_skip ?_
  revert ρ hL
  refine zSF [0, 3, 4, 5] (sat_spec_l9Copy s hf) ?_
  refine zS [0, 3, 4, 5, 21] ?_
  refine zC ?_ ?_
  ·intro c2
   refine zS [4] ?_
   refine zK [2, 3, 4] [2, 3, 4] ?_ ?_
   all_goals try simp only [go_sem, simprocAttr, hX]
   all_goals (rw [step_trap c1 c2] <;> rfl)
  ·intro c2 ρ hL
   refine awl_skip ?_
   revert ρ hL
   refine zSF [3, 4, 5, 6, 7] (sat_spec_Fetch l s.pc hl) ?_
   refine zS [3, 4, 5, 6, 7, 31] ?_
   refine zC ?_ ?_
   ·intro c3
    have hk := c1
    have hx := fetch_regs c3
    have h8 := (sttOk_parts hk).2.1
    have hna : (fetch l s.pc).1.a.toNat < s.regs.length := by omega
    have hnb : (fetch l s.pc).1.b.toNat < s.regs.length := by omega
    refine zDX [0, 1, 0, 4, 15, 31, 0, 64, 0, 256, 960, 1984, 0, 0, 12351, 32767] [3, 4, 5, 6, 8, 9] (And.intro hna (And.intro hnb hX)) ?_
    refine zSF [3, 4, 5, 6, 8, 9, 10, 11] (sat_spec_l9Mem s.mem (fetch l s.pc).1 (reg s (fetch l s.pc).1.a) (reg s (fetch l s.pc).1.b) hf.2) ?_
    refine zSF [4, 5, 11, 12] (sat_spec_Work (fetch l s.pc).1 s.pc (reg s (fetch l s.pc).1.a) (reg s (fetch l s.pc).1.b) (memOf s.mem (fetch l s.pc).1 (reg s (fetch l s.pc).1.a) (reg s (fetch l s.pc).1.b)).1) ?_
    refine zS [4, 5, 7, 12] ?_
    refine zS [4, 5, 7, 12, 62] ?_
    refine zC ?_ ?_
    ·intro c4
     refine zS [4, 5, 7, 12] ?_
     refine zS [4, 5, 7, 12, 66] ?_
     refine zC ?_ ?_
     ·intro c5 ρ hL
      refine zA ?_
      intro K hK
      refine zFI [2, 3, 4] (sat_spec_l9Apply s (work (fetch l s.pc).1 s.pc (reg s (fetch l s.pc).1.a) (reg s (fetch l s.pc).1.b) (memOf s.mem (fetch l s.pc).1 (reg s (fetch l s.pc).1.a) (reg s (fetch l s.pc).1.b)).1) c1) ?_
      refine zE [4] ?_
      clear hK K hL
      refine zK [2, 3, 4] [2, 3, 4] ?_ ?_
      all_goals try simp only [go_sem, simprocAttr, hX]
      all_goals (rw [step_go c1 c2 (by rw [fx_work c3 c4]; exact c5), fx_work c3 c4] <;> rfl)
     ·intro c5 ρ hL
      refine awl_skip ?_
      revert ρ hL
      refine zS [4, 5] ?_
      refine zS [4] ?_
      refine zK [2, 3, 4] [2, 3, 4] ?_ ?_
      all_goals try simp only [go_sem, simprocAttr, hX]
      all_goals (rw [step_stop c1 c2 (t := (work (fetch l s.pc).1 s.pc (reg s (fetch l s.pc).1.a) (reg s (fetch l s.pc).1.b) (memOf s.mem (fetch l s.pc).1 (reg s (fetch l s.pc).1.a) (reg s (fetch l s.pc).1.b)).1).trap) (by rw [fx_work c3 c4]) c5] <;> rfl)
    ·intro c4 ρ hL
     refine awl_skip ?_
     revert ρ hL
     refine zS [4, 5, 7, 12, 66] ?_
     refine zQ ?_ ?_
     ·intro c6
      try simp only [cnd] at c6
      exact absurd c6 c4
     ·intro c6
      try simp only [cnd] at c6
      intro ρ hL
      refine awl_skip ?_
      revert ρ hL
      refine zS [4, 5] ?_
      refine zS [4] ?_
      refine zK [2, 3, 4] [2, 3, 4] ?_ ?_
      all_goals try simp only [go_sem, simprocAttr, hX]
      all_goals (rw [step_stop c1 c2 (t := (memOf s.mem (fetch l s.pc).1 (reg s (fetch l s.pc).1.a) (reg s (fetch l s.pc).1.b)).2) (by rw [fx_mem c3 c4]; rfl) c4] <;> rfl)
   ·intro c3 ρ hL
    refine awl_skip ?_
    revert ρ hL
    refine zS [4, 5] ?_
    refine zS [4] ?_
    refine zK [2, 3, 4] [2, 3, 4] ?_ ?_
    all_goals try simp only [go_sem, simprocAttr, hX]
    all_goals (rw [step_stop c1 c2 (t := (fetch l s.pc).2) (by rw [fx_fetch c3]; rfl) c3] <;> rfl)
theorem sat_impl_Step (l : List Ins) (s : Stt) (hl : l.length ≤ 1048576) (hf : s.fit) : Sat Tryz.prog 211 [.sl l.length l.length (rows l), .agg s.cells] [] (.agg ((step l s).own 0 1 2)) (step l s).blks := by
 have hX := trivial
 refine sat_mk [.cell 4 32] 0 30 Tryz.call211 Tryz.func211 Tryz.ntmps211 rfl rfl rfl rfl rfl ?_
 refine zI [0, 1] ?_
 refine zS [0, 3, 4] ?_
 refine zSF [0, 3, 4, 9] (sat_impl_StateOk s hf) ?_
 refine zC ?_ ?_
 ·intro c1
  refine zS [4] ?_
  intro ρ hL
  refine awl_ret ?_
  refine retN (v := .agg [.nilsl, .int .i64 0, .bool false, .int .i64 0, .int .i64 0, .int .i64 0, .int .i64 0, .nilsl, .nilsl, .int .i64 0]) [6, 6, 1] [2, 3, 4] [2, 3, 4] rfl (by simp only [go_sem, simprocAttr, hL, hX]; exact rfl) (by first | rfl | (simp only [go_sem, simprocAttr, hL, hX]; first | done | rfl)) (Ref.agg (RefL.cons (Ref.nil 2 ⟨Nat.le_of_ble_eq_true rfl, Nat.le_of_ble_eq_true rfl⟩) (RefL.cons (Ref.refl _) (RefL.cons (Ref.refl _) (RefL.cons (Ref.refl _) (RefL.cons (Ref.refl _) (RefL.cons (Ref.refl _) (RefL.cons (Ref.refl _) (RefL.cons (Ref.nil 3 ⟨Nat.le_of_ble_eq_true rfl, Nat.le_of_ble_eq_true rfl⟩) (RefL.cons (Ref.nil 4 ⟨Nat.le_of_ble_eq_true rfl, Nat.le_of_ble_eq_true rfl⟩) (RefL.cons (Ref.refl _) (RefL.same [])))))))))))) rfl (by decide) rfl rfl ?_ ?_
  all_goals try simp only [go_sem, simprocAttr, hL, hX]
  all_goals (rw [step_no c1] <;> rfl)
 ·intro c1 ρ hL
  refine awl_skip ?_
  revert ρ hL
  refine zSF [0, 3, 4, 5] (sat_impl_cloneState s hf) ?_
  refine zS [0, 3, 4, 5, 15] ?_
  refine zC ?_ ?_
  ·intro c2
   refine zS [4] ?_
   refine zK [2, 3, 4] [2, 3, 4] ?_ ?_
   all_goals try simp only [go_sem, simprocAttr, hX]
   all_goals (rw [step_trap c1 c2] <;> rfl)
  ·intro c2 ρ hL
   refine awl_skip ?_
   revert ρ hL
   refine zSF [4, 5, 6] (sat_impl_effectOf l s hl hf c1) ?_
   refine zS [4, 5, 6, 22] ?_
   refine zC ?_ ?_
   ·intro c3
    refine zS [4, 5] ?_
    refine zS [4] ?_
    refine zK [2, 3, 4] [2, 3, 4] ?_ ?_
    all_goals try simp only [go_sem, simprocAttr, hX]
    all_goals (rw [step_stop c1 c2 (t := (fxOf l s).trap) rfl c3] <;> rfl)
   ·intro c3 ρ hL
    refine awl_skip ?_
    refine zA ?_
    intro K hK
    refine zFI [5, 2, 3, 4] (sat_impl_State_put s (fxOf l s) c1) ?_
    refine zE [4, 5] ?_
    clear hK K hL
    refine zS [4] ?_
    refine zK [2, 3, 4] [2, 3, 4] ?_ ?_
    all_goals try simp only [go_sem, simprocAttr, hX]
    all_goals (rw [step_go c1 c2 c3] <;> rfl)
theorem sat_spec_Sweep (m : Mem) (n : Int) (hf : m.fit) : Sat Tryz.prog 113 [.agg m.cells, .int .i64 n] [] (.agg ((sweep m n).own 0 1)) (sweep m n).blks := by
 have hX := trivial
 refine sat_mk [.cell 4 30] 0 26 Tryz.call113 Tryz.func113 Tryz.ntmps113 rfl rfl rfl rfl rfl ?_
 refine zI [0, 1] ?_
 refine zS [1, 2, 4] ?_
 refine zSF [1, 2, 4, 8] (sat_spec_MemoryOk m) ?_
 refine zC ?_ ?_
 ·intro c1
  refine zS [4] ?_
  intro ρ hL
  refine awl_ret ?_
  refine retN (v := .agg [.nilsl, .nilsl]) [6, 1] [2, 3] [2, 3] rfl (by simp only [go_sem, simprocAttr, hL, hX]; exact rfl) (by first | rfl | (simp only [go_sem, simprocAttr, hL, hX]; first | done | rfl)) (Ref.agg (RefL.cons (Ref.nil 2 ⟨Nat.le_of_ble_eq_true rfl, Nat.le_of_ble_eq_true rfl⟩) (RefL.cons (Ref.nil 3 ⟨Nat.le_of_ble_eq_true rfl, Nat.le_of_ble_eq_true rfl⟩) (RefL.same [])))) rfl (by decide) rfl rfl ?_ ?_
  all_goals try simp only [go_sem, simprocAttr, hL, hX]
  all_goals (rw [sweep_no c1] <;> rfl)
 ·intro c1 ρ hL
  refine awl_skip ?_
  revert ρ hL
  refine zSF [1, 2, 4, 5] (sat_spec_l8Copy m hf) ?_
  refine zSF [1, 2, 4, 5, 13] (sat_spec_l1In _ _ _) ?_
  refine zC ?_ ?_
  ·intro c2
   have hr := inR_iff.1 c2
   have h24 := (memOk_parts c1).1
   have hn2 : n.toNat < m.words.length := by omega
   intro ρ hL
   repeat refine awl_seq ?_
   refine awl_regD mixed _ rfl fun K hK => ?_
   try simp only [go_sem, simprocAttr, hL, hX, hn2, words_put hn2]
   repeat' refine And.intro (by first | omega | (exact ⟨[0, 1, 0, 0, 0, 16, 0, 112, 240, 504, 1023, 2047], by kernel_rfl⟩) | kernel_rfl) ?_
   refine dS_call_ro rfl (sat_spec_Filter m (m.words.getD n.toNat noWord) hf) ?ha ?hv ?hh ?_
   case ha => simp only [go_sem, simprocAttr, hL, hX, hn2, words_put hn2]; first | done | rfl
   case hv => first | rfl | (simp only [go_sem]; done)
   case hh => first | rfl | (simp only [go_sem]; done)
   try simp only [go_sem, simprocAttr, hL, hX, hn2, words_put hn2]
   repeat' refine And.intro (by first | omega | (exact ⟨[0, 1, 0, 0, 0, 16, 0, 112, 240, 504, 1023, 2047], by kernel_rfl⟩) | kernel_rfl) ?_
   refine hK _ _ (.mk (awl_live' [4, 5] fun ρ hM => ?_))
   try simp only [go_sem, simprocAttr, hL, hX, hn2, words_put hn2] at hM
   clear hK K hL
   revert ρ hM
   refine zS [4] ?_
   refine zK [2, 3] [2, 3] ?_ ?_
   all_goals try simp only [go_sem, simprocAttr, hX]
   all_goals ((rw [sweep_in c1 c2] <;> (try simp only [List.length_set])) <;> first | done | rfl)
  ·intro c2 ρ hL
   refine awl_skip ?_
   revert ρ hL
   refine zS [4] ?_
   refine zK [2, 3] [2, 3] ?_ ?_
   all_goals try simp only [go_sem, simprocAttr, hX]
   all_goals (rw [sweep_out c1 c2] <;> rfl)
theorem sat_impl_Sweep (m : Mem) (n : Int) (hf : m.fit) : Sat Tryz.prog 202 [.agg m.cells, .int .i64 n] [] (.agg ((sweep m n).own 0 1)) (sweep m n).blks := by
 have hX := trivial
 refine sat_mk [.cell 4 30] 0 26 Tryz.call202 Tryz.func202 Tryz.ntmps202 rfl rfl rfl rfl rfl ?_
 refine zI [0, 1] ?_
 refine zS [1, 2, 4] ?_
 refine zSF [1, 2, 4, 8] (sat_impl_MemoryOk m hf) ?_
 refine zC ?_ ?_
 ·intro c1
  refine zS [4] ?_
  intro ρ hL
  refine awl_ret ?_
  refine retN (v := .agg [.nilsl, .nilsl]) [6, 1] [2, 3] [2, 3] rfl (by simp only [go_sem, simprocAttr, hL, hX]; exact rfl) (by first | rfl | (simp only [go_sem, simprocAttr, hL, hX]; first | done | rfl)) (Ref.agg (RefL.cons (Ref.nil 2 ⟨Nat.le_of_ble_eq_true rfl, Nat.le_of_ble_eq_true rfl⟩) (RefL.cons (Ref.nil 3 ⟨Nat.le_of_ble_eq_true rfl, Nat.le_of_ble_eq_true rfl⟩) (RefL.same [])))) rfl (by decide) rfl rfl ?_ ?_
  all_goals try simp only [go_sem, simprocAttr, hL, hX]
  all_goals (rw [sweep_no c1] <;> rfl)
 ·intro c1 ρ hL
  refine awl_skip ?_
  revert ρ hL
  refine zSF [1, 2, 4, 5] (sat_impl_cloneMemory m hf) ?_
  refine zSF [1, 2, 4, 5, 13] (sat_impl_in _ _ _) ?_
  refine zC ?_ ?_
  ·intro c2
   have hr := inR_iff.1 c2
   have h24 := (memOk_parts c1).1
   have hn2 : n.toNat < m.words.length := by omega
   intro ρ hL
   repeat refine awl_seq ?_
   refine awl_regD mixed _ rfl fun K hK => ?_
   try simp only [go_sem, simprocAttr, hL, hX, hn2, words_put hn2]
   repeat' refine And.intro (by first | omega | (exact ⟨[0, 1, 0, 0, 0, 16, 0, 112, 240, 504, 1023, 2047], by kernel_rfl⟩) | kernel_rfl) ?_
   refine dS_call_ro rfl (sat_impl_Filter m (m.words.getD n.toNat noWord) hf) ?ha ?hv ?hh ?_
   case ha => simp only [go_sem, simprocAttr, hL, hX, hn2, words_put hn2]; first | done | rfl
   case hv => first | rfl | (simp only [go_sem]; done)
   case hh => first | rfl | (simp only [go_sem]; done)
   try simp only [go_sem, simprocAttr, hL, hX, hn2, words_put hn2]
   repeat' refine And.intro (by first | omega | (exact ⟨[0, 1, 0, 0, 0, 16, 0, 112, 240, 504, 1023, 2047], by kernel_rfl⟩) | kernel_rfl) ?_
   refine hK _ _ (.mk (awl_live' [4, 5] fun ρ hM => ?_))
   try simp only [go_sem, simprocAttr, hL, hX, hn2, words_put hn2] at hM
   clear hK K hL
   revert ρ hM
   refine zS [4] ?_
   refine zK [2, 3] [2, 3] ?_ ?_
   all_goals try simp only [go_sem, simprocAttr, hX]
   all_goals ((rw [sweep_in c1 c2] <;> (try simp only [List.length_set])) <;> first | done | rfl)
  ·intro c2 ρ hL
   refine awl_skip ?_
   revert ρ hL
   refine zS [4] ?_
   refine zK [2, 3] [2, 3] ?_ ?_
   all_goals try simp only [go_sem, simprocAttr, hX]
   all_goals (rw [sweep_out c1 c2] <;> rfl)
theorem sat_spec_CoreNew (s : Stt) (hf : s.fit) : Sat Tryz.prog 25 [.agg s.cells] [] (.agg ((corNew s).own 0 1 2 3 4)) (corNew s).blks := by
 have hX := trivial
 refine sat_mk [.cell 2 36] 0 13 Tryz.call25 Tryz.func25 Tryz.ntmps25 rfl rfl rfl rfl rfl ?_
 refine zI [0] ?_
 refine zS [1, 2] ?_
 refine zSF [1, 2, 5] (sat_spec_StateOk s hf) ?_
 refine zC ?_ ?_
 ·intro c1
  refine zS [2] ?_
  intro ρ hL
  refine awl_ret ?_
  refine retN (v := .agg [.nilsl, .int .i64 0, .bool false, .int .i64 0, .int .i64 0, .int .i64 0, .int .i64 0, .nilsl, .nilsl, .int .i64 0, .nilsl, .int .i64 0, .bool false, .int .i64 0, .int .i64 0, .int .i64 0, .int .i64 0, .bool false, .nilsl]) [6, 6, 1, 40, 1] [2, 3, 4, 5, 6] [2, 3, 4, 5, 6] rfl (by simp only [go_sem, simprocAttr, hL, hX]; exact rfl) (by first | rfl | (simp only [go_sem, simprocAttr, hL, hX]; first | done | rfl)) (Ref.agg (RefL.cons (Ref.nil 2 ⟨Nat.le_of_ble_eq_true rfl, Nat.le_of_ble_eq_true rfl⟩) (RefL.cons (Ref.refl _) (RefL.cons (Ref.refl _) (RefL.cons (Ref.refl _) (RefL.cons (Ref.refl _) (RefL.cons (Ref.refl _) (RefL.cons (Ref.refl _) (RefL.cons (Ref.nil 3 ⟨Nat.le_of_ble_eq_true rfl, Nat.le_of_ble_eq_true rfl⟩) (RefL.cons (Ref.nil 4 ⟨Nat.le_of_ble_eq_true rfl, Nat.le_of_ble_eq_true rfl⟩) (RefL.cons (Ref.refl _) (RefL.cons (Ref.nil 5 ⟨Nat.le_of_ble_eq_true rfl, Nat.le_of_ble_eq_true rfl⟩) (RefL.cons (Ref.refl _) (RefL.cons (Ref.refl _) (RefL.cons (Ref.refl _) (RefL.cons (Ref.refl _) (RefL.cons (Ref.refl _) (RefL.cons (Ref.refl _) (RefL.cons (Ref.refl _) (RefL.cons (Ref.nil 6 ⟨Nat.le_of_ble_eq_true rfl, Nat.le_of_ble_eq_true rfl⟩) (RefL.same []))))))))))))))))))))) rfl (by decide) rfl rfl ?_ ?_
  all_goals try simp only [go_sem, simprocAttr, hL, hX]
  all_goals (rw [corNew_no c1] <;> rfl)
 ·intro c1 ρ hL
  refine awl_skip ?_
  refine zAD [0, 1, 0, 4, 3, 31, 63] ?_
  intro K hK
  refine zFD [0, 1, 0, 4, 3, 31, 63] (sat_spec_l9Copy s hf) ?_
  refine zFD [0, 1, 0, 4, 3, 31, 63] (sat_spec_GuessNew) ?_
  refine zE [2] ?_
  clear hK K hL
  intro ρ hL
  refine awl_ret ?_
  refine retN (v := .agg [.slice 2 0 s.regs.length 0, .int .i64 s.pc.n, .bool s.pc.is, .int .i64 s.pc.key.base, .int .i64 s.pc.key.top, .int .i64 s.pc.key.perms, .int .i64 s.pc.key.lock, .slice 3 0 s.mem.words.length 0, .slice 4 0 s.mem.gone.length 0, .int .i64 s.trap, .nilsl, .int .i64 s.pc.n, .bool s.pc.is, .int .i64 s.pc.key.base, .int .i64 s.pc.key.top, .int .i64 s.pc.key.perms, .int .i64 s.pc.key.lock, .bool false, .slice 5 0 48 0]) [40] [2, 3, 4, 6, 5] [2, 3, 4, 6, 5] rfl (by simp only [go_sem, simprocAttr, hL, hX]; exact rfl) (by first | rfl | (simp only [go_sem, simprocAttr, hL, hX]; first | done | rfl)) (Ref.agg (RefL.cons (Ref.refl _) (RefL.cons (Ref.refl _) (RefL.cons (Ref.refl _) (RefL.cons (Ref.refl _) (RefL.cons (Ref.refl _) (RefL.cons (Ref.refl _) (RefL.cons (Ref.refl _) (RefL.cons (Ref.refl _) (RefL.cons (Ref.refl _) (RefL.cons (Ref.refl _) (RefL.cons (Ref.nil 6 ⟨Nat.le_of_ble_eq_true rfl, Nat.le_of_ble_eq_true rfl⟩) (RefL.cons (Ref.refl _) (RefL.cons (Ref.refl _) (RefL.cons (Ref.refl _) (RefL.cons (Ref.refl _) (RefL.cons (Ref.refl _) (RefL.cons (Ref.refl _) (RefL.cons (Ref.refl _) (RefL.cons (Ref.refl _) (RefL.same []))))))))))))))))))))) rfl (by decide) rfl rfl ?_ ?_
  all_goals try simp only [go_sem, simprocAttr, hL, hX]
  all_goals (rw [corNew_go c1] <;> rfl)
theorem sat_impl_CoreNew (s : Stt) (hf : s.fit) : Sat Tryz.prog 28 [.agg s.cells] [] (.agg ((corNew s).own 0 1 2 3 4)) (corNew s).blks := by
 have hX := trivial
 refine sat_mk [.cell 2 36] 0 13 Tryz.call28 Tryz.func28 Tryz.ntmps28 rfl rfl rfl rfl rfl ?_
 refine zI [0] ?_
 refine zS [1, 2] ?_
 refine zSF [1, 2, 5] (sat_impl_StateOk s hf) ?_
 refine zC ?_ ?_
 ·intro c1
  refine zS [2] ?_
  intro ρ hL
  refine awl_ret ?_
  refine retN (v := .agg [.nilsl, .int .i64 0, .bool false, .int .i64 0, .int .i64 0, .int .i64 0, .int .i64 0, .nilsl, .nilsl, .int .i64 0, .nilsl, .int .i64 0, .bool false, .int .i64 0, .int .i64 0, .int .i64 0, .int .i64 0, .bool false, .nilsl]) [6, 6, 1, 40, 1] [2, 3, 4, 5, 6] [2, 3, 4, 5, 6] rfl (by simp only [go_sem, simprocAttr, hL, hX]; exact rfl) (by first | rfl | (simp only [go_sem, simprocAttr, hL, hX]; first | done | rfl)) (Ref.agg (RefL.cons (Ref.nil 2 ⟨Nat.le_of_ble_eq_true rfl, Nat.le_of_ble_eq_true rfl⟩) (RefL.cons (Ref.refl _) (RefL.cons (Ref.refl _) (RefL.cons (Ref.refl _) (RefL.cons (Ref.refl _) (RefL.cons (Ref.refl _) (RefL.cons (Ref.refl _) (RefL.cons (Ref.nil 3 ⟨Nat.le_of_ble_eq_true rfl, Nat.le_of_ble_eq_true rfl⟩) (RefL.cons (Ref.nil 4 ⟨Nat.le_of_ble_eq_true rfl, Nat.le_of_ble_eq_true rfl⟩) (RefL.cons (Ref.refl _) (RefL.cons (Ref.nil 5 ⟨Nat.le_of_ble_eq_true rfl, Nat.le_of_ble_eq_true rfl⟩) (RefL.cons (Ref.refl _) (RefL.cons (Ref.refl _) (RefL.cons (Ref.refl _) (RefL.cons (Ref.refl _) (RefL.cons (Ref.refl _) (RefL.cons (Ref.refl _) (RefL.cons (Ref.refl _) (RefL.cons (Ref.nil 6 ⟨Nat.le_of_ble_eq_true rfl, Nat.le_of_ble_eq_true rfl⟩) (RefL.same []))))))))))))))))))))) rfl (by decide) rfl rfl ?_ ?_
  all_goals try simp only [go_sem, simprocAttr, hL, hX]
  all_goals (rw [corNew_no c1] <;> rfl)
 ·intro c1 ρ hL
  refine awl_skip ?_
  refine zAD [0, 1, 0, 4, 3, 31, 63] ?_
  intro K hK
  refine zFD [0, 1, 0, 4, 3, 31, 63] (sat_impl_cloneState s hf) ?_
  refine zFD [0, 1, 0, 4, 3, 31, 63] (sat_impl_GuessNew) ?_
  refine zE [2] ?_
  clear hK K hL
  intro ρ hL
  refine awl_ret ?_
  refine retN (v := .agg [.slice 2 0 s.regs.length 0, .int .i64 s.pc.n, .bool s.pc.is, .int .i64 s.pc.key.base, .int .i64 s.pc.key.top, .int .i64 s.pc.key.perms, .int .i64 s.pc.key.lock, .slice 3 0 s.mem.words.length 0, .slice 4 0 s.mem.gone.length 0, .int .i64 s.trap, .nilsl, .int .i64 s.pc.n, .bool s.pc.is, .int .i64 s.pc.key.base, .int .i64 s.pc.key.top, .int .i64 s.pc.key.perms, .int .i64 s.pc.key.lock, .bool false, .slice 5 0 48 0]) [40] [2, 3, 4, 6, 5] [2, 3, 4, 6, 5] rfl (by simp only [go_sem, simprocAttr, hL, hX]; exact rfl) (by first | rfl | (simp only [go_sem, simprocAttr, hL, hX]; first | done | rfl)) (Ref.agg (RefL.cons (Ref.refl _) (RefL.cons (Ref.refl _) (RefL.cons (Ref.refl _) (RefL.cons (Ref.refl _) (RefL.cons (Ref.refl _) (RefL.cons (Ref.refl _) (RefL.cons (Ref.refl _) (RefL.cons (Ref.refl _) (RefL.cons (Ref.refl _) (RefL.cons (Ref.refl _) (RefL.cons (Ref.nil 6 ⟨Nat.le_of_ble_eq_true rfl, Nat.le_of_ble_eq_true rfl⟩) (RefL.cons (Ref.refl _) (RefL.cons (Ref.refl _) (RefL.cons (Ref.refl _) (RefL.cons (Ref.refl _) (RefL.cons (Ref.refl _) (RefL.cons (Ref.refl _) (RefL.cons (Ref.refl _) (RefL.cons (Ref.refl _) (RefL.same []))))))))))))))))))))) rfl (by decide) rfl rfl ?_ ?_
  all_goals try simp only [go_sem, simprocAttr, hL, hX]
  all_goals (rw [corNew_go c1] <;> rfl)
theorem sat_spec_Pull (l : List Ins) (c : Cor) (hl : l.length ≤ 1048576) (hf : c.fit) : Sat Tryz.prog 112 [.sl l.length l.length (rows l), .agg c.cells] [] (.tuple [.agg ((pull l c).1.own 0 1 2 3 4), .bool (pull l c).2]) (pull l c).1.blks := by
 have hX := trivial
 refine sat_mk [.cell 4 36, .tmp 5] 0 74 Tryz.call112 Tryz.func112 Tryz.ntmps112 rfl rfl rfl rfl rfl ?_
 refine zI [0, 1] ?_
 refine zS [0, 3, 4] ?_
 refine zSF [0, 3, 4, 12] (sat_spec_CoreOk c hf) ?_
 refine zC ?_ ?_
 ·intro c1
  refine zS [4, 5] ?_
  intro ρ hL
  refine awl_ret ?_
  refine retN (v := .tuple [.agg [.nilsl, .int .i64 0, .bool false, .int .i64 0, .int .i64 0, .int .i64 0, .int .i64 0, .nilsl, .nilsl, .int .i64 0, .nilsl, .int .i64 0, .bool false, .int .i64 0, .int .i64 0, .int .i64 0, .int .i64 0, .bool false, .nilsl], .bool false]) [6, 6, 1, 40, 1] [2, 3, 4, 5, 6] [2, 3, 4, 5, 6] rfl (by simp only [go_sem, simprocAttr, hL, hX]; exact rfl) (by first | rfl | (simp only [go_sem, simprocAttr, hL, hX]; first | done | rfl)) (Ref.tuple (RefL.cons (Ref.agg (RefL.cons (Ref.nil 2 ⟨Nat.le_of_ble_eq_true rfl, Nat.le_of_ble_eq_true rfl⟩) (RefL.cons (Ref.refl _) (RefL.cons (Ref.refl _) (RefL.cons (Ref.refl _) (RefL.cons (Ref.refl _) (RefL.cons (Ref.refl _) (RefL.cons (Ref.refl _) (RefL.cons (Ref.nil 3 ⟨Nat.le_of_ble_eq_true rfl, Nat.le_of_ble_eq_true rfl⟩) (RefL.cons (Ref.nil 4 ⟨Nat.le_of_ble_eq_true rfl, Nat.le_of_ble_eq_true rfl⟩) (RefL.cons (Ref.refl _) (RefL.cons (Ref.nil 5 ⟨Nat.le_of_ble_eq_true rfl, Nat.le_of_ble_eq_true rfl⟩) (RefL.cons (Ref.refl _) (RefL.cons (Ref.refl _) (RefL.cons (Ref.refl _) (RefL.cons (Ref.refl _) (RefL.cons (Ref.refl _) (RefL.cons (Ref.refl _) (RefL.cons (Ref.refl _) (RefL.cons (Ref.nil 6 ⟨Nat.le_of_ble_eq_true rfl, Nat.le_of_ble_eq_true rfl⟩) (RefL.same []))))))))))))))))))))) (RefL.same _))) rfl (by decide) rfl rfl ?_ ?_
  all_goals try simp only [go_sem, simprocAttr, hL, hX]
  all_goals (rw [pull_no c1] <;> rfl)
 ·intro c1 ρ hL
  refine awl_skip ?_
  revert ρ hL
  refine zSF [0, 3, 4, 6] (sat_spec_l12Copy c hf) ?_
  have hr6 := (corOk_parts c1).2.2.1
  intro ρ hL
  refine zA ?_
  intro K hK
  refine zL [0, 3, 4, 6, 18] ?_
  clear hL
  intro ρ hL
  refine grp_orN (v := ?v1) 4 rfl [0, 3, 4, 6] hL.2.2.2.2 rfl (fun hb K1 hK1 => ?run) (fun hb => skA (want := false) (b := _) (by rw [hb]; rfl) hL.2.2.2.2 rfl) (fun ρ hP hM => ?_)
  case run => exact zR1
  refine zPp ?_
  clear hL hP hM
  intro hL
  refine zL [0, 3, 4, 6, 24] ?_
  clear hL
  intro ρ hL
  refine grp_orN (v := ?v2) 4 rfl [0, 3, 4, 6] hL.2.2.2.2 rfl (fun hb K1 hK1 => ?run) (fun hb => skA (want := false) (b := _) (by rw [hb]; rfl) hL.2.2.2.2 rfl) (fun ρ hP hM => ?_)
  case run => exact zR1
  refine zPp ?_
  clear hL hP hM
  intro hL
  refine zE [0, 3, 4, 6, 29] ?_
  clear hK K hL
  refine zC ?_ ?_
  ·intro c2
   refine zS [4, 5] ?_
   refine zK [2, 3, 4, 5, 6] [2, 3, 4, 5, 6] ?_ ?_
   all_goals try simp only [go_sem, simprocAttr, hX]
   all_goals (rw [pull_idle c1 (c2.elim (fun h => h.elim Or.inl (fun h => Or.inr (Or.inl (by omega)))) (fun h => Or.inr (Or.inr h)))] <;> rfl)
  ·intro c2 ρ hL
   refine awl_skip ?_
   revert ρ hL
   refine zSF [3, 4, 6, 7, 8] (sat_spec_Fetch l c.next hl) ?_
   refine zS [3, 4, 6, 7, 8, 39] ?_
   refine zC ?_ ?_
   ·intro c3 ρ hL
    refine zAD [0, 1, 0, 4, 0, 0, 32, 112, 0, 256, 1020, 2044, 4095, 8191, 16383] ?_
    intro K hK
    refine zFD [0, 1, 0, 4, 0, 0, 32, 112, 0, 256, 1020, 2044, 4095, 8191, 16383] (sat_spec_l9Trap _ _) ?_
    refine zE [4, 6] ?_
    clear hK K hL
    refine zS [4, 6] ?_
    refine zS [4, 5] ?_
    refine zK [2, 3, 4, 10, 6] [2, 3, 4, 10, 6] ?_ ?_
    all_goals try simp only [go_sem, simprocAttr, hX]
    all_goals (rw [pull_trap c1 (fun h => h.elim (fun h => by rw [c2.1.1] at h; cases h) (fun h => h.elim (fun h => by omega) (fun h => h c2.2))) c3] <;> (try simp only [withRob, rows_append, rows_one, List.length_append, List.length_cons, List.length_nil]) <;> first | done | rfl)
   ·intro c3 ρ hL
    refine awl_skip ?_
    revert ρ hL
    refine zSF [3, 4, 6, 7, 9] (sat_spec_Guess c.guesses c.next (Nat.le_trans hf.2.2 (by decide))) ?_
    refine zS [4, 6, 9] ?_
    refine zS [4, 6] ?_
    refine zS [4, 5] ?_
    refine zK [2, 3, 4, 11, 6] [2, 3, 4, 11, 6] ?_ ?_
    all_goals try simp only [go_sem, simprocAttr, hX]
    all_goals (rw [pull_go c1 (fun h => h.elim (fun h => by rw [c2.1.1] at h; cases h) (fun h => h.elim (fun h => by omega) (fun h => h c2.2))) c3] <;> (try simp only [withRob, rows_append, rows_one, List.length_append, List.length_cons, List.length_nil]) <;> first | done | rfl)
theorem sat_impl_Pull (l : List Ins) (c : Cor) (hl : l.length ≤ 1048576) (hf : c.fit) : Sat Tryz.prog 201 [.sl l.length l.length (rows l), .agg c.cells] [] (.tuple [.agg ((pull l c).1.own 0 1 2 3 4), .bool (pull l c).2]) (pull l c).1.blks := by
 have hX := trivial
 refine sat_mk [.cell 4 36, .tmp 5] 0 73 Tryz.call201 Tryz.func201 Tryz.ntmps201 rfl rfl rfl rfl rfl ?_
 refine zI [0, 1] ?_
 refine zS [0, 3, 4] ?_
 refine zSF [0, 3, 4, 11] (sat_impl_CoreOk c hf) ?_
 refine zC ?_ ?_
 ·intro c1
  refine zS [4, 5] ?_
  intro ρ hL
  refine awl_ret ?_
  refine retN (v := .tuple [.agg [.nilsl, .int .i64 0, .bool false, .int .i64 0, .int .i64 0, .int .i64 0, .int .i64 0, .nilsl, .nilsl, .int .i64 0, .nilsl, .int .i64 0, .bool false, .int .i64 0, .int .i64 0, .int .i64 0, .int .i64 0, .bool false, .nilsl], .bool false]) [6, 6, 1, 40, 1] [2, 3, 4, 5, 6] [2, 3, 4, 5, 6] rfl (by simp only [go_sem, simprocAttr, hL, hX]; exact rfl) (by first | rfl | (simp only [go_sem, simprocAttr, hL, hX]; first | done | rfl)) (Ref.tuple (RefL.cons (Ref.agg (RefL.cons (Ref.nil 2 ⟨Nat.le_of_ble_eq_true rfl, Nat.le_of_ble_eq_true rfl⟩) (RefL.cons (Ref.refl _) (RefL.cons (Ref.refl _) (RefL.cons (Ref.refl _) (RefL.cons (Ref.refl _) (RefL.cons (Ref.refl _) (RefL.cons (Ref.refl _) (RefL.cons (Ref.nil 3 ⟨Nat.le_of_ble_eq_true rfl, Nat.le_of_ble_eq_true rfl⟩) (RefL.cons (Ref.nil 4 ⟨Nat.le_of_ble_eq_true rfl, Nat.le_of_ble_eq_true rfl⟩) (RefL.cons (Ref.refl _) (RefL.cons (Ref.nil 5 ⟨Nat.le_of_ble_eq_true rfl, Nat.le_of_ble_eq_true rfl⟩) (RefL.cons (Ref.refl _) (RefL.cons (Ref.refl _) (RefL.cons (Ref.refl _) (RefL.cons (Ref.refl _) (RefL.cons (Ref.refl _) (RefL.cons (Ref.refl _) (RefL.cons (Ref.refl _) (RefL.cons (Ref.nil 6 ⟨Nat.le_of_ble_eq_true rfl, Nat.le_of_ble_eq_true rfl⟩) (RefL.same []))))))))))))))))))))) (RefL.same _))) rfl (by decide) rfl rfl ?_ ?_
  all_goals try simp only [go_sem, simprocAttr, hL, hX]
  all_goals (rw [pull_no c1] <;> rfl)
 ·intro c1 ρ hL
  refine awl_skip ?_
  revert ρ hL
  refine zSF [0, 3, 4, 6] (sat_impl_cloneCore c hf) ?_
  have hr6 := (corOk_parts c1).2.2.1
  intro ρ hL
  refine zA ?_
  intro K hK
  refine zL [0, 3, 4, 6, 17] ?_
  clear hL
  intro ρ hL
  refine grp_orN (v := ?v1) 4 rfl [0, 3, 4, 6] hL.2.2.2.2 rfl (fun hb K1 hK1 => ?run) (fun hb => skA (want := false) (b := _) (by rw [hb]; rfl) hL.2.2.2.2 rfl) (fun ρ hP hM => ?_)
  case run => exact zR1
  refine zPp ?_
  clear hL hP hM
  intro hL
  refine zL [0, 3, 4, 6, 23] ?_
  clear hL
  intro ρ hL
  refine grp_orN (v := ?v2) 4 rfl [0, 3, 4, 6] hL.2.2.2.2 rfl (fun hb K1 hK1 => ?run) (fun hb => skA (want := false) (b := _) (by rw [hb]; rfl) hL.2.2.2.2 rfl) (fun ρ hP hM => ?_)
  case run => exact zR1
  refine zPp ?_
  clear hL hP hM
  intro hL
  refine zE [0, 3, 4, 6, 28] ?_
  clear hK K hL
  refine zC ?_ ?_
  ·intro c2
   refine zS [4, 5] ?_
   refine zK [2, 3, 4, 5, 6] [2, 3, 4, 5, 6] ?_ ?_
   all_goals try simp only [go_sem, simprocAttr, hX]
   all_goals (rw [pull_idle c1 (c2.elim (fun h => h.elim Or.inl (fun h => Or.inr (Or.inl (by omega)))) (fun h => Or.inr (Or.inr h)))] <;> rfl)
  ·intro c2 ρ hL
   refine awl_skip ?_
   revert ρ hL
   refine zSF [3, 4, 6, 7, 8] (sat_impl_Fetch l c.next hl) ?_
   refine zS [3, 4, 6, 7, 8, 38] ?_
   refine zC ?_ ?_
   ·intro c3 ρ hL
    refine zAD [0, 1, 0, 4, 0, 0, 32, 112, 0, 256, 1020, 2044, 4095, 8191, 16383] ?_
    intro K hK
    refine zFD [0, 1, 0, 4, 0, 0, 32, 112, 0, 256, 1020, 2044, 4095, 8191, 16383] (sat_impl_trapped _ _) ?_
    refine zE [4, 6] ?_
    clear hK K hL
    refine zS [4, 6] ?_
    refine zS [4, 5] ?_
    refine zK [2, 3, 4, 10, 6] [2, 3, 4, 10, 6] ?_ ?_
    all_goals try simp only [go_sem, simprocAttr, hX]
    all_goals (rw [pull_trap c1 (fun h => h.elim (fun h => by rw [c2.1.1] at h; cases h) (fun h => h.elim (fun h => by omega) (fun h => h c2.2))) c3] <;> (try simp only [withRob, rows_append, rows_one, List.length_append, List.length_cons, List.length_nil]) <;> first | done | rfl)
   ·intro c3 ρ hL
    refine awl_skip ?_
    revert ρ hL
    refine zSF [3, 4, 6, 7] (sat_impl_Guess c.guesses c.next (Nat.le_trans hf.2.2 (by decide))) ?_
    refine zS [4, 6] ?_
    refine zS [4, 5] ?_
    refine zK [2, 3, 4, 10, 6] [2, 3, 4, 10, 6] ?_ ?_
    all_goals try simp only [go_sem, simprocAttr, hX]
    all_goals (rw [pull_go c1 (fun h => h.elim (fun h => by rw [c2.1.1] at h; cases h) (fun h => h.elim (fun h => by omega) (fun h => h c2.2))) c3] <;> (try simp only [withRob, rows_append, rows_one, List.length_append, List.length_cons, List.length_nil]) <;> first | done | rfl)
theorem sat_slices_Delete_impl_Entry_impl_Entry (xs : List Ent) (hp : 0 < xs.length) (hb : xs.length ≤ 1048576) : Sat Tryz.prog 206 [.slice 0 0 xs.length 0, .int .i64 0, .int .i64 1] [⟨40, rows xs, true, false⟩] (.slice 0 0 (xs.length - 1) 0) [⟨40, rows (xs.drop 1), true, false⟩] := by
 have hX := trivial
 refine sat_mk [.tmp 6] 1 33 Tryz.call206 Tryz.func206 Tryz.ntmps206 rfl rfl rfl rfl rfl ?_
 refine zI [0, 1, 2] ?_
 refine zS [0, 1, 2] ?_
 have q1 : (0 : Int) ≤ (xs.length : Int) := by omega
 have q2 : (1 : Int) ≤ (xs.length : Int) := by omega
 have q3 : (xs.length : Int) ≤ (xs.length : Int) := by omega
 have q4 : 1 ≤ xs.length := hp
 intro ρ hL
 repeat refine awl_seq ?_
 refine awl_regS _ rfl fun K hK => ?_
 try simp only [go_sem, simprocAttr, hL, hX, q1, q2, q3, q4, Int.le_refl, Option.isSome_some, Option.isNone_some, Nat.sub_zero, Nat.sub_self, Nat.max_zero, Nat.zero_max, Nat.max_self, Option.isSome_none, Option.isNone_some, Option.isNone_none]
 repeat' refine And.intro (by first | rfl | omega | (simp; done)) ?_
 refine hK _ _ (.mk (awl_live' [0, 1, 2] fun ρ hM => ?_))
 try simp only [go_sem, simprocAttr, hL, hX, q1, q2, q3, q4, Int.le_refl, Option.isSome_some, Option.isNone_some, Nat.sub_zero, Nat.sub_self, Nat.max_zero, Nat.zero_max, Nat.max_self, Option.isSome_none, Option.isNone_some, Option.isNone_none] at hM
 clear hK K hL
 revert ρ hM
 refine zS [0, 1, 2, 16] ?_
 refine zQ ?_ ?_
 ·intro c1
  try simp only [cnd] at c1
  first | done | omega | simp at c1
 ·intro c1
  try simp only [cnd] at c1
  intro ρ hL
  refine awl_skip ?_
  revert ρ hL
  refine zS [0, 1, 2, 7] ?_
  have q5 : xs.length - 1 ≤ xs.length := by omega
  have q6 : (xs.length - 1) * 40 ≤ xs.length * 40 := by omega
  have q7 := ents_putHead hp
  have q8 : 1 + (xs.length - 1) = xs.length := by omega
  have q9 : 40 + (xs.length - 1) * 40 ≤ xs.length * 40 := by omega
  intro ρ hL
  repeat refine awl_seq ?_
  refine awl_regD mixed _ rfl fun K hK => ?_
  try simp only [go_sem, simprocAttr, hL, hX, q1, q2, q5, q6, q7, q9, hp, ents_drop1, ents_takeD rfl, Nat.sub_zero, Nat.sub_self, Nat.max_zero, Nat.zero_max, Nat.max_self, Option.isSome_none, Option.isNone_some, Option.isNone_none]
  repeat' refine And.intro (by first | omega | (exact ⟨[0, 0, 3, 0, 0, 24, 63, 127], by kernel_rfl⟩) | kernel_rfl) ?_
  refine hK _ _ (.mk (awl_live' [0, 7] fun ρ hM => ?_))
  try simp only [go_sem, simprocAttr, hL, hX, q1, q2, q5, q6, q7, q9, hp, ents_drop1, ents_takeD rfl, Nat.sub_zero, Nat.sub_self, Nat.max_zero, Nat.zero_max, Nat.max_self, Option.isSome_none, Option.isNone_some, Option.isNone_none] at hM
  clear hK K hL
  revert ρ hM
  have r1 : (0 : Int) ≤ ((xs.length - 1 : Nat) : Int) := by omega
  have r2 : ((xs.length - 1 : Nat) : Int) ≤ (xs.length : Int) := by omega
  have r3 : xs.length - (xs.length - 1) = 1 := by omega
  have r4 : max (xs.length - 1) xs.length = xs.length := by omega
  have r5 : (xs.length - 1) * 40 + 40 ≤ (xs.length - 1 + 1) * 40 := by omega
  intro ρ hL
  repeat refine awl_seq ?_
  refine awl_regS _ rfl fun K hK => ?_
  try simp only [go_sem, simprocAttr, hL, hX, r1, r2, r3, r4, q1, q3, List.length_append, List.length_drop, Nat.sub_zero, Nat.sub_self, Nat.max_zero, Nat.zero_max, Nat.max_self, Option.isSome_none, Option.isNone_some, Option.isNone_none]
  repeat' refine And.intro (by first | rfl | omega | (simp; done)) ?_
  refine hK _ _ (.mk (awl_live' [0] fun ρ hM => ?_))
  try simp only [go_sem, simprocAttr, hL, hX, r1, r2, r3, r4, q1, q3, List.length_append, List.length_drop, Nat.sub_zero, Nat.sub_self, Nat.max_zero, Nat.zero_max, Nat.max_self, Option.isSome_none, Option.isNone_some, Option.isNone_none] at hM
  clear hK K hL
  revert ρ hM
  refine zS [6] ?_
  intro ρ hL
  refine awl_ret ?_
  have h6 := hL
  refine ret_wk (Wk.norm [] (RefE.refl.upd h6 (Ref.cap _ _ _ _ 0 (Nat.zero_le _)))) ?_
  refine ret_wk (Wk.trunc 0 ((xs.length - 1) * 40) rfl) ?_
  refine retK [] [0] rfl (by simp only [go_sem, simprocAttr, hL, hX]; exact rfl) (by decide) (by first | rfl | (simp only [go_sem, simprocAttr, hL, hX]; first | done | rfl)) (by first | rfl | (simp only [go_sem, simprocAttr, hL, hX]; first | done | rfl)) ?_ ?_
  all_goals try simp only [go_sem, simprocAttr, hL, hX]
  all_goals (first | done | rfl | (rw [take_put (by rw [ents_len, List.length_append, List.length_drop]; omega), ents_takeN, List.take_left' (by rw [List.length_drop]), bor_rows]))
theorem sat_putC (x : Cor) (e : Fx) (hk : sttOk x.s = true) : Sat Tryz.prog 205 [.ptr 0 0, .agg e.cells] (⟨19, x.own 1 2 3 4 5, true, false⟩ :: x.blks) (.tuple []) (⟨19, (withS x (applyFx x.s e)).own 1 2 3 4 5, true, false⟩ :: (withS x (applyFx x.s e)).blks) := by
 have hX := trivial
 refine sat_mk [] 6 45 Tryz.call205 Tryz.func205 Tryz.ntmps205 rfl rfl rfl rfl rfl ?_
 refine zI [0, 1] ?_
 refine zS [0, 3] ?_
 refine zSF [0, 3, 6] (sat_impl_in _ _ _) ?_
 refine zC ?_ ?_
 ·intro c1
  have hr_r := inR_iff.1 (show inR e.r 0 7 = true by assumption)
  have h8_r := (sttOk_parts hk).2.1
  have h24_r := memOk_parts (sttOk_parts hk).2.2.2.1
  have hn_r : (e.r).toNat < x.s.regs.length := by omega
  intro ρ hL
  repeat refine awl_seq ?_
  refine awl_regD mixed _ rfl fun K hK => ?_
  try simp only [go_sem, simprocAttr, hL, hX, words_put hn_r, hn_r]
  repeat' refine And.intro (by first | omega | (exact ⟨[0, 1, 3, 7, 0, 16, 0, 64, 255, 511], by kernel_rfl⟩) | kernel_rfl) ?_
  refine hK _ _ (.mk (awl_live' [0, 3] fun ρ hM => ?_))
  try simp only [go_sem, simprocAttr, hL, hX, words_put hn_r, hn_r] at hM
  clear hK K hL
  revert ρ hM
  refine zSF [0, 3, 18] (sat_impl_in _ _ _) ?_
  refine zC ?_ ?_
  ·intro c2
   have hr_a := inR_iff.1 (show inR e.adr 0 23 = true by assumption)
   have h8_a := (sttOk_parts hk).2.1
   have h24_a := memOk_parts (sttOk_parts hk).2.2.2.1
   have hn_a : (e.adr).toNat < x.s.mem.words.length := by omega
   intro ρ hL
   repeat refine awl_seq ?_
   refine awl_regD mixed _ rfl fun K hK => ?_
   try simp only [go_sem, simprocAttr, hL, hX, words_put hn_a, hn_a]
   repeat' refine And.intro (by first | omega | (exact ⟨[0, 1, 3, 7, 15, 0, 32, 0, 128, 511, 1023], by kernel_rfl⟩) | kernel_rfl) ?_
   refine hK _ _ (.mk (awl_live' [0, 3] fun ρ hM => ?_))
   try simp only [go_sem, simprocAttr, hL, hX, words_put hn_a, hn_a] at hM
   clear hK K hL
   revert ρ hM
   refine zSF [0, 3, 31] (sat_impl_in _ _ _) ?_
   refine zC ?_ ?_
   ·intro c3
    have hr_d := inR_iff.1 (show inR e.drop 0 23 = true by assumption)
    have h8_d := (sttOk_parts hk).2.1
    have h24_d := memOk_parts (sttOk_parts hk).2.2.2.1
    have hn_d : (e.drop).toNat < x.s.mem.gone.length := by omega
    intro ρ hL
    repeat refine awl_seq ?_
    refine awl_regD mixed _ rfl fun K hK => ?_
    try simp only [go_sem, simprocAttr, hL, hX, bools_put hn_d, hn_d]
    repeat' refine And.intro (by first | omega | (exact ⟨[0, 1, 3, 7, 15, 0, 32, 127, 255], by kernel_rfl⟩) | kernel_rfl) ?_
    refine hK _ _ (.mk (awl_live' [0, 3] fun ρ hM => ?_))
    try simp only [go_sem, simprocAttr, hL, hX, bools_put hn_d, hn_d] at hM
    clear hK K hL
    revert ρ hM
    refine zS [0] ?_
    intro ρ hL
    refine awl_nil ?_
    refine end_mk ?_
    refine retK [] [0, 1, 2, 3, 4, 5] rfl (by simp only [go_sem, simprocAttr, hL, hX]; exact rfl) (by decide) (by first | rfl | (simp only [go_sem, simprocAttr, hL, hX]; first | done | rfl)) (by first | rfl | (simp only [go_sem, simprocAttr, hL, hX]; first | done | rfl)) ?_ ?_
    all_goals try simp only [go_sem, simprocAttr, hL, hX]
    all_goals ((try simp only [withS, applyFx, c1, c2, c3, if_true, if_false, Bool.false_eq_true, List.length_set]) <;> first | done | rfl)
   ·intro c3 ρ hL
    refine awl_skip ?_
    revert ρ hL
    refine zS [0] ?_
    intro ρ hL
    refine awl_nil ?_
    refine end_mk ?_
    refine retK [] [0, 1, 2, 3, 4, 5] rfl (by simp only [go_sem, simprocAttr, hL, hX]; exact rfl) (by decide) (by first | rfl | (simp only [go_sem, simprocAttr, hL, hX]; first | done | rfl)) (by first | rfl | (simp only [go_sem, simprocAttr, hL, hX]; first | done | rfl)) ?_ ?_
    all_goals try simp only [go_sem, simprocAttr, hL, hX]
    all_goals ((try simp only [withS, applyFx, c1, c2, c3, if_true, if_false, Bool.false_eq_true, List.length_set]) <;> first | done | rfl)
  ·intro c2 ρ hL
   refine awl_skip ?_
   revert ρ hL
   refine zSF [0, 3, 31] (sat_impl_in _ _ _) ?_
   refine zC ?_ ?_
   ·intro c4
    have hr_d := inR_iff.1 (show inR e.drop 0 23 = true by assumption)
    have h8_d := (sttOk_parts hk).2.1
    have h24_d := memOk_parts (sttOk_parts hk).2.2.2.1
    have hn_d : (e.drop).toNat < x.s.mem.gone.length := by omega
    intro ρ hL
    repeat refine awl_seq ?_
    refine awl_regD mixed _ rfl fun K hK => ?_
    try simp only [go_sem, simprocAttr, hL, hX, bools_put hn_d, hn_d]
    repeat' refine And.intro (by first | omega | (exact ⟨[0, 1, 3, 7, 15, 0, 32, 127, 255], by kernel_rfl⟩) | kernel_rfl) ?_
    refine hK _ _ (.mk (awl_live' [0, 3] fun ρ hM => ?_))
    try simp only [go_sem, simprocAttr, hL, hX, bools_put hn_d, hn_d] at hM
    clear hK K hL
    revert ρ hM
    refine zS [0] ?_
    intro ρ hL
    refine awl_nil ?_
    refine end_mk ?_
    refine retK [] [0, 1, 2, 3, 4, 5] rfl (by simp only [go_sem, simprocAttr, hL, hX]; exact rfl) (by decide) (by first | rfl | (simp only [go_sem, simprocAttr, hL, hX]; first | done | rfl)) (by first | rfl | (simp only [go_sem, simprocAttr, hL, hX]; first | done | rfl)) ?_ ?_
    all_goals try simp only [go_sem, simprocAttr, hL, hX]
    all_goals ((try simp only [withS, applyFx, c1, c2, c4, if_true, if_false, Bool.false_eq_true, List.length_set]) <;> first | done | rfl)
   ·intro c4 ρ hL
    refine awl_skip ?_
    revert ρ hL
    refine zS [0] ?_
    intro ρ hL
    refine awl_nil ?_
    refine end_mk ?_
    refine retK [] [0, 1, 2, 3, 4, 5] rfl (by simp only [go_sem, simprocAttr, hL, hX]; exact rfl) (by decide) (by first | rfl | (simp only [go_sem, simprocAttr, hL, hX]; first | done | rfl)) (by first | rfl | (simp only [go_sem, simprocAttr, hL, hX]; first | done | rfl)) ?_ ?_
    all_goals try simp only [go_sem, simprocAttr, hL, hX]
    all_goals ((try simp only [withS, applyFx, c1, c2, c4, if_true, if_false, Bool.false_eq_true, List.length_set]) <;> first | done | rfl)
 ·intro c1 ρ hL
  refine awl_skip ?_
  revert ρ hL
  refine zSF [0, 3, 18] (sat_impl_in _ _ _) ?_
  refine zC ?_ ?_
  ·intro c5
   have hr_a := inR_iff.1 (show inR e.adr 0 23 = true by assumption)
   have h8_a := (sttOk_parts hk).2.1
   have h24_a := memOk_parts (sttOk_parts hk).2.2.2.1
   have hn_a : (e.adr).toNat < x.s.mem.words.length := by omega
   intro ρ hL
   repeat refine awl_seq ?_
   refine awl_regD mixed _ rfl fun K hK => ?_
   try simp only [go_sem, simprocAttr, hL, hX, words_put hn_a, hn_a]
   repeat' refine And.intro (by first | omega | (exact ⟨[0, 1, 3, 7, 15, 0, 32, 0, 128, 511, 1023], by kernel_rfl⟩) | kernel_rfl) ?_
   refine hK _ _ (.mk (awl_live' [0, 3] fun ρ hM => ?_))
   try simp only [go_sem, simprocAttr, hL, hX, words_put hn_a, hn_a] at hM
   clear hK K hL
   revert ρ hM
   refine zSF [0, 3, 31] (sat_impl_in _ _ _) ?_
   refine zC ?_ ?_
   ·intro c6
    have hr_d := inR_iff.1 (show inR e.drop 0 23 = true by assumption)
    have h8_d := (sttOk_parts hk).2.1
    have h24_d := memOk_parts (sttOk_parts hk).2.2.2.1
    have hn_d : (e.drop).toNat < x.s.mem.gone.length := by omega
    intro ρ hL
    repeat refine awl_seq ?_
    refine awl_regD mixed _ rfl fun K hK => ?_
    try simp only [go_sem, simprocAttr, hL, hX, bools_put hn_d, hn_d]
    repeat' refine And.intro (by first | omega | (exact ⟨[0, 1, 3, 7, 15, 0, 32, 127, 255], by kernel_rfl⟩) | kernel_rfl) ?_
    refine hK _ _ (.mk (awl_live' [0, 3] fun ρ hM => ?_))
    try simp only [go_sem, simprocAttr, hL, hX, bools_put hn_d, hn_d] at hM
    clear hK K hL
    revert ρ hM
    refine zS [0] ?_
    intro ρ hL
    refine awl_nil ?_
    refine end_mk ?_
    refine retK [] [0, 1, 2, 3, 4, 5] rfl (by simp only [go_sem, simprocAttr, hL, hX]; exact rfl) (by decide) (by first | rfl | (simp only [go_sem, simprocAttr, hL, hX]; first | done | rfl)) (by first | rfl | (simp only [go_sem, simprocAttr, hL, hX]; first | done | rfl)) ?_ ?_
    all_goals try simp only [go_sem, simprocAttr, hL, hX]
    all_goals ((try simp only [withS, applyFx, c1, c5, c6, if_true, if_false, Bool.false_eq_true, List.length_set]) <;> first | done | rfl)
   ·intro c6 ρ hL
    refine awl_skip ?_
    revert ρ hL
    refine zS [0] ?_
    intro ρ hL
    refine awl_nil ?_
    refine end_mk ?_
    refine retK [] [0, 1, 2, 3, 4, 5] rfl (by simp only [go_sem, simprocAttr, hL, hX]; exact rfl) (by decide) (by first | rfl | (simp only [go_sem, simprocAttr, hL, hX]; first | done | rfl)) (by first | rfl | (simp only [go_sem, simprocAttr, hL, hX]; first | done | rfl)) ?_ ?_
    all_goals try simp only [go_sem, simprocAttr, hL, hX]
    all_goals ((try simp only [withS, applyFx, c1, c5, c6, if_true, if_false, Bool.false_eq_true, List.length_set]) <;> first | done | rfl)
  ·intro c5 ρ hL
   refine awl_skip ?_
   revert ρ hL
   refine zSF [0, 3, 31] (sat_impl_in _ _ _) ?_
   refine zC ?_ ?_
   ·intro c7
    have hr_d := inR_iff.1 (show inR e.drop 0 23 = true by assumption)
    have h8_d := (sttOk_parts hk).2.1
    have h24_d := memOk_parts (sttOk_parts hk).2.2.2.1
    have hn_d : (e.drop).toNat < x.s.mem.gone.length := by omega
    intro ρ hL
    repeat refine awl_seq ?_
    refine awl_regD mixed _ rfl fun K hK => ?_
    try simp only [go_sem, simprocAttr, hL, hX, bools_put hn_d, hn_d]
    repeat' refine And.intro (by first | omega | (exact ⟨[0, 1, 3, 7, 15, 0, 32, 127, 255], by kernel_rfl⟩) | kernel_rfl) ?_
    refine hK _ _ (.mk (awl_live' [0, 3] fun ρ hM => ?_))
    try simp only [go_sem, simprocAttr, hL, hX, bools_put hn_d, hn_d] at hM
    clear hK K hL
    revert ρ hM
    refine zS [0] ?_
    intro ρ hL
    refine awl_nil ?_
    refine end_mk ?_
    refine retK [] [0, 1, 2, 3, 4, 5] rfl (by simp only [go_sem, simprocAttr, hL, hX]; exact rfl) (by decide) (by first | rfl | (simp only [go_sem, simprocAttr, hL, hX]; first | done | rfl)) (by first | rfl | (simp only [go_sem, simprocAttr, hL, hX]; first | done | rfl)) ?_ ?_
    all_goals try simp only [go_sem, simprocAttr, hL, hX]
    all_goals ((try simp only [withS, applyFx, c1, c5, c7, if_true, if_false, Bool.false_eq_true, List.length_set]) <;> first | done | rfl)
   ·intro c7 ρ hL
    refine awl_skip ?_
    revert ρ hL
    refine zS [0] ?_
    intro ρ hL
    refine awl_nil ?_
    refine end_mk ?_
    refine retK [] [0, 1, 2, 3, 4, 5] rfl (by simp only [go_sem, simprocAttr, hL, hX]; exact rfl) (by decide) (by first | rfl | (simp only [go_sem, simprocAttr, hL, hX]; first | done | rfl)) (by first | rfl | (simp only [go_sem, simprocAttr, hL, hX]; first | done | rfl)) ?_ ?_
    all_goals try simp only [go_sem, simprocAttr, hL, hX]
    all_goals ((try simp only [withS, applyFx, c1, c5, c7, if_true, if_false, Bool.false_eq_true, List.length_set]) <;> first | done | rfl)
section
attribute [local go_sem] withS
theorem sat_spec_Commit (c : Cor) (hf : c.fit) : Sat Tryz.prog 111 [.agg c.cells] [] (.tuple [.agg ((commit c).1.own 0 1 2 3 4), .bool (commit c).2]) (commit c).1.blks := by
 have hX := trivial
 refine sat_mk [.cell 2 36, .tmp 3] 0 83 Tryz.call111 Tryz.func111 Tryz.ntmps111 rfl rfl rfl rfl rfl ?_
 refine zI [0] ?_
 refine zS [1, 2] ?_
 refine zSF [1, 2, 8] (sat_spec_CoreOk c hf) ?_
 refine zC ?_ ?_
 ·intro c1
  refine zS [2, 3] ?_
  intro ρ hL
  refine awl_ret ?_
  refine retN (v := .tuple [.agg [.nilsl, .int .i64 0, .bool false, .int .i64 0, .int .i64 0, .int .i64 0, .int .i64 0, .nilsl, .nilsl, .int .i64 0, .nilsl, .int .i64 0, .bool false, .int .i64 0, .int .i64 0, .int .i64 0, .int .i64 0, .bool false, .nilsl], .bool false]) [6, 6, 1, 40, 1] [2, 3, 4, 5, 6] [2, 3, 4, 5, 6] rfl (by simp only [go_sem, simprocAttr, hL, hX]; exact rfl) (by first | rfl | (simp only [go_sem, simprocAttr, hL, hX]; first | done | rfl)) (Ref.tuple (RefL.cons (Ref.agg (RefL.cons (Ref.nil 2 ⟨Nat.le_of_ble_eq_true rfl, Nat.le_of_ble_eq_true rfl⟩) (RefL.cons (Ref.refl _) (RefL.cons (Ref.refl _) (RefL.cons (Ref.refl _) (RefL.cons (Ref.refl _) (RefL.cons (Ref.refl _) (RefL.cons (Ref.refl _) (RefL.cons (Ref.nil 3 ⟨Nat.le_of_ble_eq_true rfl, Nat.le_of_ble_eq_true rfl⟩) (RefL.cons (Ref.nil 4 ⟨Nat.le_of_ble_eq_true rfl, Nat.le_of_ble_eq_true rfl⟩) (RefL.cons (Ref.refl _) (RefL.cons (Ref.nil 5 ⟨Nat.le_of_ble_eq_true rfl, Nat.le_of_ble_eq_true rfl⟩) (RefL.cons (Ref.refl _) (RefL.cons (Ref.refl _) (RefL.cons (Ref.refl _) (RefL.cons (Ref.refl _) (RefL.cons (Ref.refl _) (RefL.cons (Ref.refl _) (RefL.cons (Ref.refl _) (RefL.cons (Ref.nil 6 ⟨Nat.le_of_ble_eq_true rfl, Nat.le_of_ble_eq_true rfl⟩) (RefL.same []))))))))))))))))))))) (RefL.same _))) rfl (by decide) rfl rfl ?_ ?_
  all_goals try simp only [go_sem, simprocAttr, hL, hX]
  all_goals (rw [commit_no c1] <;> rfl)
 ·intro c1 ρ hL
  refine awl_skip ?_
  revert ρ hL
  refine zSF [1, 2, 4] (sat_spec_l12Copy c hf) ?_
  intro ρ hL
  refine zA ?_
  intro K hK
  refine zL [1, 2, 4, 16] ?_
  clear hL
  intro ρ hL
  refine grp_orN (v := ?v1) 6 rfl [1, 2, 4] hL.2.2.2 rfl (fun hb K1 hK1 => ?run) (fun hb => skA (want := false) (b := _) (by rw [hb]; rfl) hL.2.2.2 rfl) (fun ρ hP hM => ?_)
  case run =>
   simp only [List.take_succ_cons, List.take_zero]
   rw [hb] at hL
   have hp : 0 < c.rob.length := Nat.pos_of_ne_zero (fun h => by rw [h] at hb; simp at hb)
   have hpi : (0 : Int) < (c.rob.length : Int) := by omega
   have hd11 := ents_done0 hp
   try simp only [go_sem, simprocAttr, hL, hX, hd11, hpi, Int.le_refl, Nat.zero_mul, Int.toNat_zero]
   repeat' refine And.intro (by first | rfl | omega | (simp; done)) ?_
   refine hK1 _ ?_ ?_ ?_ <;> simp only [go_sem, simprocAttr, hL, hX, hd11, hpi, Int.le_refl, Nat.zero_mul, Int.toNat_zero] <;> exact rfl
  refine zPp ?_
  clear hL hP hM
  intro hL
  refine zL [1, 2, 4, 24] ?_
  clear hL
  intro ρ hL
  refine grp_orN (v := ?v2) 4 rfl [1, 2, 4] hL.2.2.2 rfl (fun hb K1 hK1 => ?run) (fun hb => skA (want := false) (b := _) (by rw [hb]; rfl) hL.2.2.2 rfl) (fun ρ hP hM => ?_)
  case run => exact zR1
  refine zPp ?_
  clear hL hP hM
  intro hL
  refine zE [1, 2, 4, 29] ?_
  clear hK K hL
  refine zC ?_ ?_
  ·intro c2
   refine zS [2, 3] ?_
   refine zK [2, 3, 4, 5, 6] [2, 3, 4, 5, 6] ?_ ?_
   all_goals try simp only [go_sem, simprocAttr, hX]
   all_goals (rw [commit_idle c1 (c2.elim (fun h => h.elim (fun h => Or.inl (List.eq_nil_of_length_eq_zero (by omega))) (fun h => Or.inr (Or.inl h))) (fun h => Or.inr (Or.inr h)))] <;> rfl)
  ·intro c2 ρ hL
   refine awl_skip ?_
   have hp : 0 < c.rob.length := by omega
   have hpi : (0 : Int) < (c.rob.length : Int) := by omega
   have ht40 := ents_take0 hp
   have hl40 : 40 ≤ c.rob.length * 40 := by omega
   have q1 : (1 : Int) ≤ (c.rob.length : Int) := by omega
   repeat refine awl_seq ?_
   refine awl_regS _ rfl fun K hK => ?_
   try simp only [go_sem, simprocAttr, hL, hX, ht40, hpi, hl40, Int.le_refl, Nat.zero_mul, Int.toNat_zero]
   repeat' refine And.intro (by first | rfl | omega | (simp; done)) ?_
   refine hK _ _ (.mk (awl_live' [1, 2, 4, 5] fun ρ hM => ?_))
   try simp only [go_sem, simprocAttr, hL, hX, ht40, hpi, hl40, Int.le_refl, Nat.zero_mul, Int.toNat_zero] at hM
   clear hK K hL
   revert ρ hM
   refine zS [1, 2, 4, 5, 38] ?_
   refine zC ?_ ?_
   ·intro c3
    refine zS [2, 4, 5] ?_
    refine zS [2, 4] ?_
    refine zS [2, 4] ?_
    refine zS [2, 4] ?_
    refine zS [2, 3] ?_
    intro ρ hL
    refine awl_ret ?_
    refine retN (v := .tuple [.agg [.slice 2 0 c.s.regs.length 0, .int .i64 (c.rob.getD 0 noEnt).pc.n, .bool (c.rob.getD 0 noEnt).pc.is, .int .i64 (c.rob.getD 0 noEnt).pc.key.base, .int .i64 (c.rob.getD 0 noEnt).pc.key.top, .int .i64 (c.rob.getD 0 noEnt).pc.key.perms, .int .i64 (c.rob.getD 0 noEnt).pc.key.lock, .slice 3 0 c.s.mem.words.length 0, .slice 4 0 c.s.mem.gone.length 0, .int .i64 (c.rob.getD 0 noEnt).e.trap, .nilsl, .int .i64 c.next.n, .bool c.next.is, .int .i64 c.next.key.base, .int .i64 c.next.key.top, .int .i64 c.next.key.perms, .int .i64 c.next.key.lock, .bool true, .slice 6 0 c.guesses.length 0], .bool true]) [40] [2, 3, 4, 9, 6] [2, 3, 4, 9, 6] rfl (by simp only [go_sem, simprocAttr, hL, hX]; exact rfl) (by first | rfl | (simp only [go_sem, simprocAttr, hL, hX]; first | done | rfl)) (Ref.tuple (RefL.cons (Ref.agg (RefL.cons (Ref.refl _) (RefL.cons (Ref.refl _) (RefL.cons (Ref.refl _) (RefL.cons (Ref.refl _) (RefL.cons (Ref.refl _) (RefL.cons (Ref.refl _) (RefL.cons (Ref.refl _) (RefL.cons (Ref.refl _) (RefL.cons (Ref.refl _) (RefL.cons (Ref.refl _) (RefL.cons (Ref.nil 9 ⟨Nat.le_of_ble_eq_true rfl, Nat.le_of_ble_eq_true rfl⟩) (RefL.cons (Ref.refl _) (RefL.cons (Ref.refl _) (RefL.cons (Ref.refl _) (RefL.cons (Ref.refl _) (RefL.cons (Ref.refl _) (RefL.cons (Ref.refl _) (RefL.cons (Ref.refl _) (RefL.cons (Ref.refl _) (RefL.same []))))))))))))))))))))) (RefL.same _))) rfl (by decide) rfl rfl ?_ ?_
    all_goals try simp only [go_sem, simprocAttr, hL, hX]
    all_goals (rw [commit_on c1 (fun h => h.elim (fun h => by rw [h] at hp; simp at hp) (fun h => h.elim (fun h => by rw [c2.1.2] at h; cases h) (fun h => h c2.2))), commitE_trap c3] <;> rfl)
   ·intro c3 ρ hL
    refine awl_skip ?_
    refine zA ?_
    intro K hK
    refine zFI [2, 3, 4] (sat_spec_l9Apply c.s (c.rob.getD 0 noEnt).e (corOk_parts c1).2.1) ?_
    refine zE [1, 2, 4, 5] ?_
    clear hK K hL
    have hb2 := hf.2.1
    intro ρ hL
    repeat refine awl_seq ?_
    refine awl_regS _ rfl fun K hK => ?_
    try simp only [go_sem, simprocAttr, hL, hX, q1, ents_drop1, ents_takeD (xs := c.rob) rfl, List.length_drop, Nat.sub_zero, Nat.sub_self, Nat.max_zero, Nat.zero_max, Nat.max_self, Option.isSome_none, Option.isNone_some, Option.isNone_none]
    repeat' refine And.intro (by first | rfl | omega | (simp; done)) ?_
    refine hK _ _ (.mk (awl_live' [1, 2, 4, 5] fun ρ hM => ?_))
    try simp only [go_sem, simprocAttr, hL, hX, q1, ents_drop1, ents_takeD (xs := c.rob) rfl, List.length_drop, Nat.sub_zero, Nat.sub_self, Nat.max_zero, Nat.zero_max, Nat.max_self, Option.isSome_none, Option.isNone_some, Option.isNone_none] at hM
    clear hK K hL
    revert ρ hM
    refine zSF [2, 4, 5] (sat_spec_Learn c.guesses (c.rob.getD 0 noEnt).pc (c.rob.getD 0 noEnt).e.next c.guesses.length (Nat.le_trans hf.2.2 (by decide))) ?_
    refine zS [2, 4, 75] ?_
    refine zC ?_ ?_
    ·intro c4
     refine zS [2, 4] ?_
     refine zS [2, 4] ?_
     refine zS [2, 4] ?_
     refine zS [2, 3] ?_
     intro ρ hL
     refine awl_ret ?_
     refine retN (v := .tuple [.agg [.slice 2 0 (applyFx c.s (c.rob.getD 0 noEnt).e).regs.length 0, .int .i64 (applyFx c.s (c.rob.getD 0 noEnt).e).pc.n, .bool (applyFx c.s (c.rob.getD 0 noEnt).e).pc.is, .int .i64 (applyFx c.s (c.rob.getD 0 noEnt).e).pc.key.base, .int .i64 (applyFx c.s (c.rob.getD 0 noEnt).e).pc.key.top, .int .i64 (applyFx c.s (c.rob.getD 0 noEnt).e).pc.key.perms, .int .i64 (applyFx c.s (c.rob.getD 0 noEnt).e).pc.key.lock, .slice 3 0 (applyFx c.s (c.rob.getD 0 noEnt).e).mem.words.length 0, .slice 4 0 (applyFx c.s (c.rob.getD 0 noEnt).e).mem.gone.length 0, .int .i64 (applyFx c.s (c.rob.getD 0 noEnt).e).trap, .nilsl, .int .i64 (applyFx c.s (c.rob.getD 0 noEnt).e).pc.n, .bool (applyFx c.s (c.rob.getD 0 noEnt).e).pc.is, .int .i64 (applyFx c.s (c.rob.getD 0 noEnt).e).pc.key.base, .int .i64 (applyFx c.s (c.rob.getD 0 noEnt).e).pc.key.top, .int .i64 (applyFx c.s (c.rob.getD 0 noEnt).e).pc.key.perms, .int .i64 (applyFx c.s (c.rob.getD 0 noEnt).e).pc.key.lock, .bool false, .slice 10 0 c.guesses.length 0], .bool true]) [40] [2, 3, 4, 11, 10] [2, 3, 4, 11, 10] rfl (by simp only [go_sem, simprocAttr, hL, hX]; exact rfl) (by first | rfl | (simp only [go_sem, simprocAttr, hL, hX]; first | done | rfl)) (Ref.tuple (RefL.cons (Ref.agg (RefL.cons (Ref.refl _) (RefL.cons (Ref.refl _) (RefL.cons (Ref.refl _) (RefL.cons (Ref.refl _) (RefL.cons (Ref.refl _) (RefL.cons (Ref.refl _) (RefL.cons (Ref.refl _) (RefL.cons (Ref.refl _) (RefL.cons (Ref.refl _) (RefL.cons (Ref.refl _) (RefL.cons (Ref.nil 11 ⟨Nat.le_of_ble_eq_true rfl, Nat.le_of_ble_eq_true rfl⟩) (RefL.cons (Ref.refl _) (RefL.cons (Ref.refl _) (RefL.cons (Ref.refl _) (RefL.cons (Ref.refl _) (RefL.cons (Ref.refl _) (RefL.cons (Ref.refl _) (RefL.cons (Ref.refl _) (RefL.cons (Ref.refl _) (RefL.same []))))))))))))))))))))) (RefL.same _))) rfl (by decide) rfl rfl ?_ ?_
     all_goals try simp only [go_sem, simprocAttr, hL, hX]
     all_goals (rw [commit_on c1 (fun h => h.elim (fun h => by rw [h] at hp; simp at hp) (fun h => h.elim (fun h => by rw [c2.1.2] at h; cases h) (fun h => h c2.2))), commitE_drop c3 c4] <;> (try simp only [learn_len]) <;> first | done | rfl)
    ·intro c4 ρ hL
     refine awl_skip ?_
     revert ρ hL
     refine zS [2, 3] ?_
     refine zK [2, 3, 4, 9, 10] [2, 3, 4, 9, 10] ?_ ?_
     all_goals try simp only [go_sem, simprocAttr, hX]
     all_goals (rw [commit_on c1 (fun h => h.elim (fun h => by rw [h] at hp; simp at hp) (fun h => h.elim (fun h => by rw [c2.1.2] at h; cases h) (fun h => h c2.2))), commitE_go c3 c4] <;> (try simp only [learn_len, List.length_drop]) <;> first | done | rfl)
end
section
attribute [local go_sem] withS
theorem sat_impl_Commit (c : Cor) (hf : c.fit) : Sat Tryz.prog 163 [.agg c.cells] [] (.tuple [.agg ((commit c).1.own 0 1 2 3 4), .bool (commit c).2]) (commit c).1.blks := by
 have hX := trivial
 refine sat_mk [.cell 2 36, .tmp 3] 0 79 Tryz.call163 Tryz.func163 Tryz.ntmps163 rfl rfl rfl rfl rfl ?_
 refine zI [0] ?_
 refine zS [1, 2] ?_
 refine zSF [1, 2, 8] (sat_impl_CoreOk c hf) ?_
 refine zC ?_ ?_
 ·intro c1
  refine zS [2, 3] ?_
  intro ρ hL
  refine awl_ret ?_
  refine retN (v := .tuple [.agg [.nilsl, .int .i64 0, .bool false, .int .i64 0, .int .i64 0, .int .i64 0, .int .i64 0, .nilsl, .nilsl, .int .i64 0, .nilsl, .int .i64 0, .bool false, .int .i64 0, .int .i64 0, .int .i64 0, .int .i64 0, .bool false, .nilsl], .bool false]) [6, 6, 1, 40, 1] [2, 3, 4, 5, 6] [2, 3, 4, 5, 6] rfl (by simp only [go_sem, simprocAttr, hL, hX]; exact rfl) (by first | rfl | (simp only [go_sem, simprocAttr, hL, hX]; first | done | rfl)) (Ref.tuple (RefL.cons (Ref.agg (RefL.cons (Ref.nil 2 ⟨Nat.le_of_ble_eq_true rfl, Nat.le_of_ble_eq_true rfl⟩) (RefL.cons (Ref.refl _) (RefL.cons (Ref.refl _) (RefL.cons (Ref.refl _) (RefL.cons (Ref.refl _) (RefL.cons (Ref.refl _) (RefL.cons (Ref.refl _) (RefL.cons (Ref.nil 3 ⟨Nat.le_of_ble_eq_true rfl, Nat.le_of_ble_eq_true rfl⟩) (RefL.cons (Ref.nil 4 ⟨Nat.le_of_ble_eq_true rfl, Nat.le_of_ble_eq_true rfl⟩) (RefL.cons (Ref.refl _) (RefL.cons (Ref.nil 5 ⟨Nat.le_of_ble_eq_true rfl, Nat.le_of_ble_eq_true rfl⟩) (RefL.cons (Ref.refl _) (RefL.cons (Ref.refl _) (RefL.cons (Ref.refl _) (RefL.cons (Ref.refl _) (RefL.cons (Ref.refl _) (RefL.cons (Ref.refl _) (RefL.cons (Ref.refl _) (RefL.cons (Ref.nil 6 ⟨Nat.le_of_ble_eq_true rfl, Nat.le_of_ble_eq_true rfl⟩) (RefL.same []))))))))))))))))))))) (RefL.same _))) rfl (by decide) rfl rfl ?_ ?_
  all_goals try simp only [go_sem, simprocAttr, hL, hX]
  all_goals (rw [commit_no c1] <;> rfl)
 ·intro c1 ρ hL
  refine awl_skip ?_
  revert ρ hL
  refine zSF [1, 2, 4] (sat_impl_cloneCore c hf) ?_
  intro ρ hL
  refine zA ?_
  intro K hK
  refine zL [1, 2, 4, 16] ?_
  clear hL
  intro ρ hL
  refine grp_orN (v := ?v1) 6 rfl [1, 2, 4] hL.2.2.2 rfl (fun hb K1 hK1 => ?run) (fun hb => skA (want := false) (b := _) (by rw [hb]; rfl) hL.2.2.2 rfl) (fun ρ hP hM => ?_)
  case run =>
   simp only [List.take_succ_cons, List.take_zero]
   rw [hb] at hL
   have hp : 0 < c.rob.length := Nat.pos_of_ne_zero (fun h => by rw [h] at hb; simp at hb)
   have hpi : (0 : Int) < (c.rob.length : Int) := by omega
   have hd11 := ents_done0 hp
   try simp only [go_sem, simprocAttr, hL, hX, hd11, hpi, Int.le_refl, Nat.zero_mul, Int.toNat_zero]
   repeat' refine And.intro (by first | rfl | omega | (simp; done)) ?_
   refine hK1 _ ?_ ?_ ?_ <;> simp only [go_sem, simprocAttr, hL, hX, hd11, hpi, Int.le_refl, Nat.zero_mul, Int.toNat_zero] <;> exact rfl
  refine zPp ?_
  clear hL hP hM
  intro hL
  refine zL [1, 2, 4, 24] ?_
  clear hL
  intro ρ hL
  refine grp_orN (v := ?v2) 4 rfl [1, 2, 4] hL.2.2.2 rfl (fun hb K1 hK1 => ?run) (fun hb => skA (want := false) (b := _) (by rw [hb]; rfl) hL.2.2.2 rfl) (fun ρ hP hM => ?_)
  case run => exact zR1
  refine zPp ?_
  clear hL hP hM
  intro hL
  refine zE [1, 2, 4, 29] ?_
  clear hK K hL
  refine zC ?_ ?_
  ·intro c2
   refine zS [2, 3] ?_
   refine zK [2, 3, 4, 5, 6] [2, 3, 4, 5, 6] ?_ ?_
   all_goals try simp only [go_sem, simprocAttr, hX]
   all_goals (rw [commit_idle c1 (c2.elim (fun h => h.elim (fun h => Or.inl (List.eq_nil_of_length_eq_zero (by omega))) (fun h => Or.inr (Or.inl h))) (fun h => Or.inr (Or.inr h)))] <;> rfl)
  ·intro c2 ρ hL
   refine awl_skip ?_
   have hp : 0 < c.rob.length := by omega
   have hpi : (0 : Int) < (c.rob.length : Int) := by omega
   have ht40 := ents_take0 hp
   have hl40 : 40 ≤ c.rob.length * 40 := by omega
   have q1 : (1 : Int) ≤ (c.rob.length : Int) := by omega
   repeat refine awl_seq ?_
   refine awl_regS _ rfl fun K hK => ?_
   try simp only [go_sem, simprocAttr, hL, hX, ht40, hpi, hl40, Int.le_refl, Nat.zero_mul, Int.toNat_zero]
   repeat' refine And.intro (by first | rfl | omega | (simp; done)) ?_
   refine hK _ _ (.mk (awl_live' [1, 2, 4, 5] fun ρ hM => ?_))
   try simp only [go_sem, simprocAttr, hL, hX, ht40, hpi, hl40, Int.le_refl, Nat.zero_mul, Int.toNat_zero] at hM
   clear hK K hL
   revert ρ hM
   refine zS [1, 2, 4, 5, 38] ?_
   refine zC ?_ ?_
   ·intro c3
    refine zD [0, 1, 3, 0, 8, 7, 39, 103, 255, 511, 1023] [2, 4] ?_
    refine zS [2, 4] ?_
    refine zS [2, 4] ?_
    refine zS [2, 3] ?_
    intro ρ hL
    refine awl_ret ?_
    refine retN (v := .tuple [.agg [.slice 2 0 c.s.regs.length 0, .int .i64 (c.rob.getD 0 noEnt).pc.n, .bool (c.rob.getD 0 noEnt).pc.is, .int .i64 (c.rob.getD 0 noEnt).pc.key.base, .int .i64 (c.rob.getD 0 noEnt).pc.key.top, .int .i64 (c.rob.getD 0 noEnt).pc.key.perms, .int .i64 (c.rob.getD 0 noEnt).pc.key.lock, .slice 3 0 c.s.mem.words.length 0, .slice 4 0 c.s.mem.gone.length 0, .int .i64 (c.rob.getD 0 noEnt).e.trap, .nilsl, .int .i64 c.next.n, .bool c.next.is, .int .i64 c.next.key.base, .int .i64 c.next.key.top, .int .i64 c.next.key.perms, .int .i64 c.next.key.lock, .bool true, .slice 6 0 c.guesses.length 0], .bool true]) [40] [2, 3, 4, 9, 6] [2, 3, 4, 9, 6] rfl (by simp only [go_sem, simprocAttr, hL, hX]; exact rfl) (by first | rfl | (simp only [go_sem, simprocAttr, hL, hX]; first | done | rfl)) (Ref.tuple (RefL.cons (Ref.agg (RefL.cons (Ref.refl _) (RefL.cons (Ref.refl _) (RefL.cons (Ref.refl _) (RefL.cons (Ref.refl _) (RefL.cons (Ref.refl _) (RefL.cons (Ref.refl _) (RefL.cons (Ref.refl _) (RefL.cons (Ref.refl _) (RefL.cons (Ref.refl _) (RefL.cons (Ref.refl _) (RefL.cons (Ref.nil 9 ⟨Nat.le_of_ble_eq_true rfl, Nat.le_of_ble_eq_true rfl⟩) (RefL.cons (Ref.refl _) (RefL.cons (Ref.refl _) (RefL.cons (Ref.refl _) (RefL.cons (Ref.refl _) (RefL.cons (Ref.refl _) (RefL.cons (Ref.refl _) (RefL.cons (Ref.refl _) (RefL.cons (Ref.refl _) (RefL.same []))))))))))))))))))))) (RefL.same _))) rfl (by decide) rfl rfl ?_ ?_
    all_goals try simp only [go_sem, simprocAttr, hL, hX]
    all_goals (rw [commit_on c1 (fun h => h.elim (fun h => by rw [h] at hp; simp at hp) (fun h => h.elim (fun h => by rw [c2.1.2] at h; cases h) (fun h => h c2.2))), commitE_trap c3] <;> rfl)
   ·intro c3 ρ hL
    refine awl_skip ?_
    refine zA ?_
    intro K hK
    refine zFI [7, 2, 3, 4, 5, 6] (sat_putC c (c.rob.getD 0 noEnt).e (corOk_parts c1).2.1) ?_
    refine zE [1, 2, 4, 5] ?_
    clear hK K hL
    intro ρ hL
    refine zA ?_
    intro K hK
    refine zFI [5] (sat_slices_Delete_impl_Entry_impl_Entry c.rob hp hf.2.1) ?_
    refine zE [1, 2, 4, 5] ?_
    clear hK K hL
    refine zSF [2, 4, 5] (sat_impl_Learn c.guesses (c.rob.getD 0 noEnt).pc (c.rob.getD 0 noEnt).e.next c.guesses.length (Nat.le_trans hf.2.2 (by decide))) ?_
    refine zS [2, 4, 71] ?_
    refine zC ?_ ?_
    ·intro c4
     refine zS [2, 4] ?_
     refine zS [2, 4] ?_
     refine zS [2, 4] ?_
     refine zS [2, 3] ?_
     intro ρ hL
     refine awl_ret ?_
     refine retN (v := .tuple [.agg [.slice 2 0 (applyFx c.s (c.rob.getD 0 noEnt).e).regs.length 0, .int .i64 (applyFx c.s (c.rob.getD 0 noEnt).e).pc.n, .bool (applyFx c.s (c.rob.getD 0 noEnt).e).pc.is, .int .i64 (applyFx c.s (c.rob.getD 0 noEnt).e).pc.key.base, .int .i64 (applyFx c.s (c.rob.getD 0 noEnt).e).pc.key.top, .int .i64 (applyFx c.s (c.rob.getD 0 noEnt).e).pc.key.perms, .int .i64 (applyFx c.s (c.rob.getD 0 noEnt).e).pc.key.lock, .slice 3 0 (applyFx c.s (c.rob.getD 0 noEnt).e).mem.words.length 0, .slice 4 0 (applyFx c.s (c.rob.getD 0 noEnt).e).mem.gone.length 0, .int .i64 (applyFx c.s (c.rob.getD 0 noEnt).e).trap, .nilsl, .int .i64 (applyFx c.s (c.rob.getD 0 noEnt).e).pc.n, .bool (applyFx c.s (c.rob.getD 0 noEnt).e).pc.is, .int .i64 (applyFx c.s (c.rob.getD 0 noEnt).e).pc.key.base, .int .i64 (applyFx c.s (c.rob.getD 0 noEnt).e).pc.key.top, .int .i64 (applyFx c.s (c.rob.getD 0 noEnt).e).pc.key.perms, .int .i64 (applyFx c.s (c.rob.getD 0 noEnt).e).pc.key.lock, .bool false, .slice 9 0 c.guesses.length 0], .bool true]) [40] [2, 3, 4, 10, 9] [2, 3, 4, 10, 9] rfl (by simp only [go_sem, simprocAttr, hL, hX]; exact rfl) (by first | rfl | (simp only [go_sem, simprocAttr, hL, hX]; first | done | rfl)) (Ref.tuple (RefL.cons (Ref.agg (RefL.cons (Ref.refl _) (RefL.cons (Ref.refl _) (RefL.cons (Ref.refl _) (RefL.cons (Ref.refl _) (RefL.cons (Ref.refl _) (RefL.cons (Ref.refl _) (RefL.cons (Ref.refl _) (RefL.cons (Ref.refl _) (RefL.cons (Ref.refl _) (RefL.cons (Ref.refl _) (RefL.cons (Ref.nil 10 ⟨Nat.le_of_ble_eq_true rfl, Nat.le_of_ble_eq_true rfl⟩) (RefL.cons (Ref.refl _) (RefL.cons (Ref.refl _) (RefL.cons (Ref.refl _) (RefL.cons (Ref.refl _) (RefL.cons (Ref.refl _) (RefL.cons (Ref.refl _) (RefL.cons (Ref.refl _) (RefL.cons (Ref.refl _) (RefL.same []))))))))))))))))))))) (RefL.same _))) rfl (by decide) rfl rfl ?_ ?_
     all_goals try simp only [go_sem, simprocAttr, hL, hX]
     all_goals (rw [commit_on c1 (fun h => h.elim (fun h => by rw [h] at hp; simp at hp) (fun h => h.elim (fun h => by rw [c2.1.2] at h; cases h) (fun h => h c2.2))), commitE_drop c3 c4] <;> (try simp only [learn_len]) <;> first | done | rfl)
    ·intro c4 ρ hL
     refine awl_skip ?_
     revert ρ hL
     refine zS [2, 3] ?_
     refine zK [2, 3, 4, 5, 9] [2, 3, 4, 5, 9] ?_ ?_
     all_goals try simp only [go_sem, simprocAttr, hX]
     all_goals (rw [commit_on c1 (fun h => h.elim (fun h => by rw [h] at hp; simp at hp) (fun h => h.elim (fun h => by rw [c2.1.2] at h; cases h) (fun h => h c2.2))), commitE_go c3 c4] <;> (try simp only [learn_len, List.length_drop]) <;> first | done | rfl)
end
end Go.Proofs.YtgpjgljgplngpaaGreatDoor.AM
