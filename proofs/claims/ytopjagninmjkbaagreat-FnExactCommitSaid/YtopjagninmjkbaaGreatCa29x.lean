/- Applying what a command comes to. No conditions but those each theorem bears. -/
import Derived.Test.YtopjagninmjkbaaGreatFa
import Derived.Test.YtopjagninmjkbaaGreatSp10
import Derived.Test.YtopjagninmjkbaaGreatCa28
import Derived.Test.YtopjagninmjkbaaGreatCa9
set_option linter.unusedSimpArgs false
set_option linter.unusedVariables false
namespace Go.Proofs.YtopjagninmjkbaaGreat.AM
open Go

set_option maxHeartbeats 8000000 in
set_option maxRecDepth 100000 in
theorem sat_spec_l9Apply (s : Stt) (e : Fx) (hk : sttOk s = true) : Sat Tryz.prog 47 [.agg (s.own 0 1 2), .agg e.cells] s.blks (.agg ((applyFx s e).own 0 1 2)) (applyFx s e).blks := by
 refine sat_mk [.cell 4 46] 3 39 Tryz.call47 Tryz.func47 Tryz.ntmps47 rfl rfl rfl rfl rfl ?_
 refine awl_live' [0, 1] fun ρ hL => ?_
 try simp only [go_sem, simprocAttr] at hL
 obtain ⟨h0, h1⟩ := hL
 refine awl_seq ?_
 refine awl_regS _ rfl fun K hK => ?_
 try simp only [go_sem, simprocAttr, h0, h1]
 repeat' (refine And.intro (by first | rfl | omega | (simp; done)) ?_)
 refine hK _ _ (.mk (awl_live' [2, 3, 4] fun ρ hL => ?_))
 try simp only [go_sem, simprocAttr, h0, h1] at hL
 try clear h0 h1
 obtain ⟨h2, h3, h4⟩ := hL
 clear hK K
 refine awl_seq ?_
 refine awl_seq ?_
 refine awl_regS _ rfl fun K hK => ?_
 try simp only [go_sem, simprocAttr, h2, h3, h4]
 repeat' (refine And.intro (by first | rfl | omega | (simp; done)) ?_)
 refine opS_call_ro rfl (sat_spec_l1In ?_ ?_ ?_) ?ha ?hv ?hh ?_
 case ha => simp only [go_sem, simprocAttr, h2, h3, h4]; first | done | rfl
 case hv => first | rfl | (simp only [go_sem]; done)
 case hh => first | rfl | (simp only [go_sem]; done)
 try simp only [go_sem, simprocAttr, h2, h3, h4]
 repeat' (refine And.intro (by first | rfl | omega | (simp; done)) ?_)
 refine hK _ _ (.mk (awl_live' [2, 3, 4, 7] fun ρ hL => ?_))
 try simp only [go_sem, simprocAttr, h2, h3, h4] at hL
 try clear h2 h3 h4
 obtain ⟨h2, h3, h4, h7⟩ := hL
 clear hK K
 refine awl_cond h7 (fun c1 => ?_) (fun c1 => ?_)
 ·
  try simp only [cnd] at c1
  have hr_r := inR_iff.1 (show inR e.r 0 7 = true by assumption)
  have h8_r := (sttOk_parts hk).2.1
  have h24_r := memOk_parts (sttOk_parts hk).2.2.2.1
  have hn_r : (e.r).toNat < s.regs.length := by omega
  refine awl_regS _ rfl fun K hK => ?_
  try simp only [go_sem, simprocAttr, h2, h3, h4, h7, words_put hn_r, hn_r]
  repeat' (refine And.intro (by first | rfl | omega | (simp; done)) ?_)
  refine hK _ _ (.mk (awl_live' [2, 3, 4] fun ρ hL => ?_))
  try simp only [go_sem, simprocAttr, h2, h3, h4, h7, words_put hn_r, hn_r] at hL
  try clear h2 h3 h4 h7
  obtain ⟨h2, h3, h4⟩ := hL
  clear hK K
  refine awl_seq ?_
  refine awl_seq ?_
  refine awl_regS _ rfl fun K hK => ?_
  try simp only [go_sem, simprocAttr, h2, h3, h4]
  repeat' (refine And.intro (by first | rfl | omega | (simp; done)) ?_)
  refine opS_call_ro rfl (sat_spec_l1In ?_ ?_ ?_) ?ha ?hv ?hh ?_
  case ha => simp only [go_sem, simprocAttr, h2, h3, h4]; first | done | rfl
  case hv => first | rfl | (simp only [go_sem]; done)
  case hh => first | rfl | (simp only [go_sem]; done)
  try simp only [go_sem, simprocAttr, h2, h3, h4]
  repeat' (refine And.intro (by first | rfl | omega | (simp; done)) ?_)
  refine hK _ _ (.mk (awl_live' [2, 3, 4, 17] fun ρ hL => ?_))
  try simp only [go_sem, simprocAttr, h2, h3, h4] at hL
  try clear h2 h3 h4
  obtain ⟨h2, h3, h4, h17⟩ := hL
  clear hK K
  refine awl_cond h17 (fun c2 => ?_) (fun c2 => ?_)
  ·
   try simp only [cnd] at c2
   have hr_a := inR_iff.1 (show inR e.adr 0 23 = true by assumption)
   have h8_a := (sttOk_parts hk).2.1
   have h24_a := memOk_parts (sttOk_parts hk).2.2.2.1
   have hn_a : (e.adr).toNat < s.mem.words.length := by omega
   refine awl_regS _ rfl fun K hK => ?_
   try simp only [go_sem, simprocAttr, h2, h3, h4, h17, words_put hn_a, hn_a]
   repeat' (refine And.intro (by first | rfl | omega | (simp; done)) ?_)
   refine hK _ _ (.mk (awl_live' [2, 3, 4] fun ρ hL => ?_))
   try simp only [go_sem, simprocAttr, h2, h3, h4, h17, words_put hn_a, hn_a] at hL
   try clear h2 h3 h4 h17
   obtain ⟨h2, h3, h4⟩ := hL
   clear hK K
   refine awl_seq ?_
   refine awl_seq ?_
   refine awl_regS _ rfl fun K hK => ?_
   try simp only [go_sem, simprocAttr, h2, h3, h4]
   repeat' (refine And.intro (by first | rfl | omega | (simp; done)) ?_)
   refine opS_call_ro rfl (sat_spec_l1In ?_ ?_ ?_) ?ha ?hv ?hh ?_
   case ha => simp only [go_sem, simprocAttr, h2, h3, h4]; first | done | rfl
   case hv => first | rfl | (simp only [go_sem]; done)
   case hh => first | rfl | (simp only [go_sem]; done)
   try simp only [go_sem, simprocAttr, h2, h3, h4]
   repeat' (refine And.intro (by first | rfl | omega | (simp; done)) ?_)
   refine hK _ _ (.mk (awl_live' [2, 3, 4, 28] fun ρ hL => ?_))
   try simp only [go_sem, simprocAttr, h2, h3, h4] at hL
   try clear h2 h3 h4
   obtain ⟨h2, h3, h4, h28⟩ := hL
   clear hK K
   refine awl_cond h28 (fun c3 => ?_) (fun c3 => ?_)
   ·
    try simp only [cnd] at c3
    have hr_d := inR_iff.1 (show inR e.drop 0 23 = true by assumption)
    have h8_d := (sttOk_parts hk).2.1
    have h24_d := memOk_parts (sttOk_parts hk).2.2.2.1
    have hn_d : (e.drop).toNat < s.mem.gone.length := by omega
    refine awl_regS _ rfl fun K hK => ?_
    try simp only [go_sem, simprocAttr, h2, h3, h4, h28, bools_put hn_d, hn_d]
    repeat' (refine And.intro (by first | rfl | omega | (simp; done)) ?_)
    refine hK _ _ (.mk (awl_live' [2, 3, 4] fun ρ hL => ?_))
    try simp only [go_sem, simprocAttr, h2, h3, h4, h28, bools_put hn_d, hn_d] at hL
    try clear h2 h3 h4 h28
    obtain ⟨h2, h3, h4⟩ := hL
    clear hK K
    refine awl_seq ?_
    refine awl_regS _ rfl fun K hK => ?_
    try simp only [go_sem, simprocAttr, h2, h3, h4]
    repeat' (refine And.intro (by first | rfl | omega | (simp; done)) ?_)
    refine hK _ _ (.mk (awl_live' [2, 4] fun ρ hL => ?_))
    try simp only [go_sem, simprocAttr, h2, h3, h4] at hL
    try clear h2 h3 h4
    obtain ⟨h2, h4⟩ := hL
    clear hK K
    refine awl_seq ?_
    refine awl_regS _ rfl fun K hK => ?_
    try simp only [go_sem, simprocAttr, h2, h4]
    repeat' (refine And.intro (by first | rfl | omega | (simp; done)) ?_)
    refine hK _ _ (.mk (awl_live' [4] fun ρ hL => ?_))
    try simp only [go_sem, simprocAttr, h2, h4] at hL
    try clear h2 h4
    have h4 := hL
    clear hL
    clear hK K
    refine awl_ret ?_
    refine retK [] [0, 1, 2] rfl (by simp only [go_sem, simprocAttr, h4]; exact rfl) (by decide) (by first | rfl | (simp only [go_sem, simprocAttr, h4]; first | done | rfl)) (by first | rfl | (simp only [go_sem, simprocAttr, h4]; first | done | rfl)) ?_ ?_
    all_goals try simp only [go_sem, simprocAttr, h4]
    all_goals ((try simp only [applyFx, c1, c2, c3, if_true, if_false, Bool.false_eq_true, List.length_set]) <;> first | done | rfl)
   ·
    try simp only [cnd] at c3
    refine awl_skip ?_
    refine awl_seq ?_
    refine awl_regS _ rfl fun K hK => ?_
    try simp only [go_sem, simprocAttr, h2, h3, h4, h28]
    repeat' (refine And.intro (by first | rfl | omega | (simp; done)) ?_)
    refine hK _ _ (.mk (awl_live' [2, 4] fun ρ hL => ?_))
    try simp only [go_sem, simprocAttr, h2, h3, h4, h28] at hL
    try clear h2 h3 h4 h28
    obtain ⟨h2, h4⟩ := hL
    clear hK K
    refine awl_seq ?_
    refine awl_regS _ rfl fun K hK => ?_
    try simp only [go_sem, simprocAttr, h2, h4]
    repeat' (refine And.intro (by first | rfl | omega | (simp; done)) ?_)
    refine hK _ _ (.mk (awl_live' [4] fun ρ hL => ?_))
    try simp only [go_sem, simprocAttr, h2, h4] at hL
    try clear h2 h4
    have h4 := hL
    clear hL
    clear hK K
    refine awl_ret ?_
    refine retK [] [0, 1, 2] rfl (by simp only [go_sem, simprocAttr, h4]; exact rfl) (by decide) (by first | rfl | (simp only [go_sem, simprocAttr, h4]; first | done | rfl)) (by first | rfl | (simp only [go_sem, simprocAttr, h4]; first | done | rfl)) ?_ ?_
    all_goals try simp only [go_sem, simprocAttr, h4]
    all_goals ((try simp only [applyFx, c1, c2, c3, if_true, if_false, Bool.false_eq_true, List.length_set]) <;> first | done | rfl)
  ·
   try simp only [cnd] at c2
   refine awl_skip ?_
   refine awl_seq ?_
   refine awl_seq ?_
   refine awl_regS _ rfl fun K hK => ?_
   try simp only [go_sem, simprocAttr, h2, h3, h4, h17]
   repeat' (refine And.intro (by first | rfl | omega | (simp; done)) ?_)
   refine opS_call_ro rfl (sat_spec_l1In ?_ ?_ ?_) ?ha ?hv ?hh ?_
   case ha => simp only [go_sem, simprocAttr, h2, h3, h4, h17]; first | done | rfl
   case hv => first | rfl | (simp only [go_sem]; done)
   case hh => first | rfl | (simp only [go_sem]; done)
   try simp only [go_sem, simprocAttr, h2, h3, h4, h17]
   repeat' (refine And.intro (by first | rfl | omega | (simp; done)) ?_)
   refine hK _ _ (.mk (awl_live' [2, 3, 4, 28] fun ρ hL => ?_))
   try simp only [go_sem, simprocAttr, h2, h3, h4, h17] at hL
   try clear h2 h3 h4 h17
   obtain ⟨h2, h3, h4, h28⟩ := hL
   clear hK K
   refine awl_cond h28 (fun c4 => ?_) (fun c4 => ?_)
   ·
    try simp only [cnd] at c4
    have hr_d := inR_iff.1 (show inR e.drop 0 23 = true by assumption)
    have h8_d := (sttOk_parts hk).2.1
    have h24_d := memOk_parts (sttOk_parts hk).2.2.2.1
    have hn_d : (e.drop).toNat < s.mem.gone.length := by omega
    refine awl_regS _ rfl fun K hK => ?_
    try simp only [go_sem, simprocAttr, h2, h3, h4, h28, bools_put hn_d, hn_d]
    repeat' (refine And.intro (by first | rfl | omega | (simp; done)) ?_)
    refine hK _ _ (.mk (awl_live' [2, 3, 4] fun ρ hL => ?_))
    try simp only [go_sem, simprocAttr, h2, h3, h4, h28, bools_put hn_d, hn_d] at hL
    try clear h2 h3 h4 h28
    obtain ⟨h2, h3, h4⟩ := hL
    clear hK K
    refine awl_seq ?_
    refine awl_regS _ rfl fun K hK => ?_
    try simp only [go_sem, simprocAttr, h2, h3, h4]
    repeat' (refine And.intro (by first | rfl | omega | (simp; done)) ?_)
    refine hK _ _ (.mk (awl_live' [2, 4] fun ρ hL => ?_))
    try simp only [go_sem, simprocAttr, h2, h3, h4] at hL
    try clear h2 h3 h4
    obtain ⟨h2, h4⟩ := hL
    clear hK K
    refine awl_seq ?_
    refine awl_regS _ rfl fun K hK => ?_
    try simp only [go_sem, simprocAttr, h2, h4]
    repeat' (refine And.intro (by first | rfl | omega | (simp; done)) ?_)
    refine hK _ _ (.mk (awl_live' [4] fun ρ hL => ?_))
    try simp only [go_sem, simprocAttr, h2, h4] at hL
    try clear h2 h4
    have h4 := hL
    clear hL
    clear hK K
    refine awl_ret ?_
    refine retK [] [0, 1, 2] rfl (by simp only [go_sem, simprocAttr, h4]; exact rfl) (by decide) (by first | rfl | (simp only [go_sem, simprocAttr, h4]; first | done | rfl)) (by first | rfl | (simp only [go_sem, simprocAttr, h4]; first | done | rfl)) ?_ ?_
    all_goals try simp only [go_sem, simprocAttr, h4]
    all_goals ((try simp only [applyFx, c1, c2, c4, if_true, if_false, Bool.false_eq_true, List.length_set]) <;> first | done | rfl)
   ·
    try simp only [cnd] at c4
    refine awl_skip ?_
    refine awl_seq ?_
    refine awl_regS _ rfl fun K hK => ?_
    try simp only [go_sem, simprocAttr, h2, h3, h4, h28]
    repeat' (refine And.intro (by first | rfl | omega | (simp; done)) ?_)
    refine hK _ _ (.mk (awl_live' [2, 4] fun ρ hL => ?_))
    try simp only [go_sem, simprocAttr, h2, h3, h4, h28] at hL
    try clear h2 h3 h4 h28
    obtain ⟨h2, h4⟩ := hL
    clear hK K
    refine awl_seq ?_
    refine awl_regS _ rfl fun K hK => ?_
    try simp only [go_sem, simprocAttr, h2, h4]
    repeat' (refine And.intro (by first | rfl | omega | (simp; done)) ?_)
    refine hK _ _ (.mk (awl_live' [4] fun ρ hL => ?_))
    try simp only [go_sem, simprocAttr, h2, h4] at hL
    try clear h2 h4
    have h4 := hL
    clear hL
    clear hK K
    refine awl_ret ?_
    refine retK [] [0, 1, 2] rfl (by simp only [go_sem, simprocAttr, h4]; exact rfl) (by decide) (by first | rfl | (simp only [go_sem, simprocAttr, h4]; first | done | rfl)) (by first | rfl | (simp only [go_sem, simprocAttr, h4]; first | done | rfl)) ?_ ?_
    all_goals try simp only [go_sem, simprocAttr, h4]
    all_goals ((try simp only [applyFx, c1, c2, c4, if_true, if_false, Bool.false_eq_true, List.length_set]) <;> first | done | rfl)
 ·
  try simp only [cnd] at c1
  refine awl_skip ?_
  refine awl_seq ?_
  refine awl_seq ?_
  refine awl_regS _ rfl fun K hK => ?_
  try simp only [go_sem, simprocAttr, h2, h3, h4, h7]
  repeat' (refine And.intro (by first | rfl | omega | (simp; done)) ?_)
  refine opS_call_ro rfl (sat_spec_l1In ?_ ?_ ?_) ?ha ?hv ?hh ?_
  case ha => simp only [go_sem, simprocAttr, h2, h3, h4, h7]; first | done | rfl
  case hv => first | rfl | (simp only [go_sem]; done)
  case hh => first | rfl | (simp only [go_sem]; done)
  try simp only [go_sem, simprocAttr, h2, h3, h4, h7]
  repeat' (refine And.intro (by first | rfl | omega | (simp; done)) ?_)
  refine hK _ _ (.mk (awl_live' [2, 3, 4, 17] fun ρ hL => ?_))
  try simp only [go_sem, simprocAttr, h2, h3, h4, h7] at hL
  try clear h2 h3 h4 h7
  obtain ⟨h2, h3, h4, h17⟩ := hL
  clear hK K
  refine awl_cond h17 (fun c5 => ?_) (fun c5 => ?_)
  ·
   try simp only [cnd] at c5
   have hr_a := inR_iff.1 (show inR e.adr 0 23 = true by assumption)
   have h8_a := (sttOk_parts hk).2.1
   have h24_a := memOk_parts (sttOk_parts hk).2.2.2.1
   have hn_a : (e.adr).toNat < s.mem.words.length := by omega
   refine awl_regS _ rfl fun K hK => ?_
   try simp only [go_sem, simprocAttr, h2, h3, h4, h17, words_put hn_a, hn_a]
   repeat' (refine And.intro (by first | rfl | omega | (simp; done)) ?_)
   refine hK _ _ (.mk (awl_live' [2, 3, 4] fun ρ hL => ?_))
   try simp only [go_sem, simprocAttr, h2, h3, h4, h17, words_put hn_a, hn_a] at hL
   try clear h2 h3 h4 h17
   obtain ⟨h2, h3, h4⟩ := hL
   clear hK K
   refine awl_seq ?_
   refine awl_seq ?_
   refine awl_regS _ rfl fun K hK => ?_
   try simp only [go_sem, simprocAttr, h2, h3, h4]
   repeat' (refine And.intro (by first | rfl | omega | (simp; done)) ?_)
   refine opS_call_ro rfl (sat_spec_l1In ?_ ?_ ?_) ?ha ?hv ?hh ?_
   case ha => simp only [go_sem, simprocAttr, h2, h3, h4]; first | done | rfl
   case hv => first | rfl | (simp only [go_sem]; done)
   case hh => first | rfl | (simp only [go_sem]; done)
   try simp only [go_sem, simprocAttr, h2, h3, h4]
   repeat' (refine And.intro (by first | rfl | omega | (simp; done)) ?_)
   refine hK _ _ (.mk (awl_live' [2, 3, 4, 28] fun ρ hL => ?_))
   try simp only [go_sem, simprocAttr, h2, h3, h4] at hL
   try clear h2 h3 h4
   obtain ⟨h2, h3, h4, h28⟩ := hL
   clear hK K
   refine awl_cond h28 (fun c6 => ?_) (fun c6 => ?_)
   ·
    try simp only [cnd] at c6
    have hr_d := inR_iff.1 (show inR e.drop 0 23 = true by assumption)
    have h8_d := (sttOk_parts hk).2.1
    have h24_d := memOk_parts (sttOk_parts hk).2.2.2.1
    have hn_d : (e.drop).toNat < s.mem.gone.length := by omega
    refine awl_regS _ rfl fun K hK => ?_
    try simp only [go_sem, simprocAttr, h2, h3, h4, h28, bools_put hn_d, hn_d]
    repeat' (refine And.intro (by first | rfl | omega | (simp; done)) ?_)
    refine hK _ _ (.mk (awl_live' [2, 3, 4] fun ρ hL => ?_))
    try simp only [go_sem, simprocAttr, h2, h3, h4, h28, bools_put hn_d, hn_d] at hL
    try clear h2 h3 h4 h28
    obtain ⟨h2, h3, h4⟩ := hL
    clear hK K
    refine awl_seq ?_
    refine awl_regS _ rfl fun K hK => ?_
    try simp only [go_sem, simprocAttr, h2, h3, h4]
    repeat' (refine And.intro (by first | rfl | omega | (simp; done)) ?_)
    refine hK _ _ (.mk (awl_live' [2, 4] fun ρ hL => ?_))
    try simp only [go_sem, simprocAttr, h2, h3, h4] at hL
    try clear h2 h3 h4
    obtain ⟨h2, h4⟩ := hL
    clear hK K
    refine awl_seq ?_
    refine awl_regS _ rfl fun K hK => ?_
    try simp only [go_sem, simprocAttr, h2, h4]
    repeat' (refine And.intro (by first | rfl | omega | (simp; done)) ?_)
    refine hK _ _ (.mk (awl_live' [4] fun ρ hL => ?_))
    try simp only [go_sem, simprocAttr, h2, h4] at hL
    try clear h2 h4
    have h4 := hL
    clear hL
    clear hK K
    refine awl_ret ?_
    refine retK [] [0, 1, 2] rfl (by simp only [go_sem, simprocAttr, h4]; exact rfl) (by decide) (by first | rfl | (simp only [go_sem, simprocAttr, h4]; first | done | rfl)) (by first | rfl | (simp only [go_sem, simprocAttr, h4]; first | done | rfl)) ?_ ?_
    all_goals try simp only [go_sem, simprocAttr, h4]
    all_goals ((try simp only [applyFx, c1, c5, c6, if_true, if_false, Bool.false_eq_true, List.length_set]) <;> first | done | rfl)
   ·
    try simp only [cnd] at c6
    refine awl_skip ?_
    refine awl_seq ?_
    refine awl_regS _ rfl fun K hK => ?_
    try simp only [go_sem, simprocAttr, h2, h3, h4, h28]
    repeat' (refine And.intro (by first | rfl | omega | (simp; done)) ?_)
    refine hK _ _ (.mk (awl_live' [2, 4] fun ρ hL => ?_))
    try simp only [go_sem, simprocAttr, h2, h3, h4, h28] at hL
    try clear h2 h3 h4 h28
    obtain ⟨h2, h4⟩ := hL
    clear hK K
    refine awl_seq ?_
    refine awl_regS _ rfl fun K hK => ?_
    try simp only [go_sem, simprocAttr, h2, h4]
    repeat' (refine And.intro (by first | rfl | omega | (simp; done)) ?_)
    refine hK _ _ (.mk (awl_live' [4] fun ρ hL => ?_))
    try simp only [go_sem, simprocAttr, h2, h4] at hL
    try clear h2 h4
    have h4 := hL
    clear hL
    clear hK K
    refine awl_ret ?_
    refine retK [] [0, 1, 2] rfl (by simp only [go_sem, simprocAttr, h4]; exact rfl) (by decide) (by first | rfl | (simp only [go_sem, simprocAttr, h4]; first | done | rfl)) (by first | rfl | (simp only [go_sem, simprocAttr, h4]; first | done | rfl)) ?_ ?_
    all_goals try simp only [go_sem, simprocAttr, h4]
    all_goals ((try simp only [applyFx, c1, c5, c6, if_true, if_false, Bool.false_eq_true, List.length_set]) <;> first | done | rfl)
  ·
   try simp only [cnd] at c5
   refine awl_skip ?_
   refine awl_seq ?_
   refine awl_seq ?_
   refine awl_regS _ rfl fun K hK => ?_
   try simp only [go_sem, simprocAttr, h2, h3, h4, h17]
   repeat' (refine And.intro (by first | rfl | omega | (simp; done)) ?_)
   refine opS_call_ro rfl (sat_spec_l1In ?_ ?_ ?_) ?ha ?hv ?hh ?_
   case ha => simp only [go_sem, simprocAttr, h2, h3, h4, h17]; first | done | rfl
   case hv => first | rfl | (simp only [go_sem]; done)
   case hh => first | rfl | (simp only [go_sem]; done)
   try simp only [go_sem, simprocAttr, h2, h3, h4, h17]
   repeat' (refine And.intro (by first | rfl | omega | (simp; done)) ?_)
   refine hK _ _ (.mk (awl_live' [2, 3, 4, 28] fun ρ hL => ?_))
   try simp only [go_sem, simprocAttr, h2, h3, h4, h17] at hL
   try clear h2 h3 h4 h17
   obtain ⟨h2, h3, h4, h28⟩ := hL
   clear hK K
   refine awl_cond h28 (fun c7 => ?_) (fun c7 => ?_)
   ·
    try simp only [cnd] at c7
    have hr_d := inR_iff.1 (show inR e.drop 0 23 = true by assumption)
    have h8_d := (sttOk_parts hk).2.1
    have h24_d := memOk_parts (sttOk_parts hk).2.2.2.1
    have hn_d : (e.drop).toNat < s.mem.gone.length := by omega
    refine awl_regS _ rfl fun K hK => ?_
    try simp only [go_sem, simprocAttr, h2, h3, h4, h28, bools_put hn_d, hn_d]
    repeat' (refine And.intro (by first | rfl | omega | (simp; done)) ?_)
    refine hK _ _ (.mk (awl_live' [2, 3, 4] fun ρ hL => ?_))
    try simp only [go_sem, simprocAttr, h2, h3, h4, h28, bools_put hn_d, hn_d] at hL
    try clear h2 h3 h4 h28
    obtain ⟨h2, h3, h4⟩ := hL
    clear hK K
    refine awl_seq ?_
    refine awl_regS _ rfl fun K hK => ?_
    try simp only [go_sem, simprocAttr, h2, h3, h4]
    repeat' (refine And.intro (by first | rfl | omega | (simp; done)) ?_)
    refine hK _ _ (.mk (awl_live' [2, 4] fun ρ hL => ?_))
    try simp only [go_sem, simprocAttr, h2, h3, h4] at hL
    try clear h2 h3 h4
    obtain ⟨h2, h4⟩ := hL
    clear hK K
    refine awl_seq ?_
    refine awl_regS _ rfl fun K hK => ?_
    try simp only [go_sem, simprocAttr, h2, h4]
    repeat' (refine And.intro (by first | rfl | omega | (simp; done)) ?_)
    refine hK _ _ (.mk (awl_live' [4] fun ρ hL => ?_))
    try simp only [go_sem, simprocAttr, h2, h4] at hL
    try clear h2 h4
    have h4 := hL
    clear hL
    clear hK K
    refine awl_ret ?_
    refine retK [] [0, 1, 2] rfl (by simp only [go_sem, simprocAttr, h4]; exact rfl) (by decide) (by first | rfl | (simp only [go_sem, simprocAttr, h4]; first | done | rfl)) (by first | rfl | (simp only [go_sem, simprocAttr, h4]; first | done | rfl)) ?_ ?_
    all_goals try simp only [go_sem, simprocAttr, h4]
    all_goals ((try simp only [applyFx, c1, c5, c7, if_true, if_false, Bool.false_eq_true, List.length_set]) <;> first | done | rfl)
   ·
    try simp only [cnd] at c7
    refine awl_skip ?_
    refine awl_seq ?_
    refine awl_regS _ rfl fun K hK => ?_
    try simp only [go_sem, simprocAttr, h2, h3, h4, h28]
    repeat' (refine And.intro (by first | rfl | omega | (simp; done)) ?_)
    refine hK _ _ (.mk (awl_live' [2, 4] fun ρ hL => ?_))
    try simp only [go_sem, simprocAttr, h2, h3, h4, h28] at hL
    try clear h2 h3 h4 h28
    obtain ⟨h2, h4⟩ := hL
    clear hK K
    refine awl_seq ?_
    refine awl_regS _ rfl fun K hK => ?_
    try simp only [go_sem, simprocAttr, h2, h4]
    repeat' (refine And.intro (by first | rfl | omega | (simp; done)) ?_)
    refine hK _ _ (.mk (awl_live' [4] fun ρ hL => ?_))
    try simp only [go_sem, simprocAttr, h2, h4] at hL
    try clear h2 h4
    have h4 := hL
    clear hL
    clear hK K
    refine awl_ret ?_
    refine retK [] [0, 1, 2] rfl (by simp only [go_sem, simprocAttr, h4]; exact rfl) (by decide) (by first | rfl | (simp only [go_sem, simprocAttr, h4]; first | done | rfl)) (by first | rfl | (simp only [go_sem, simprocAttr, h4]; first | done | rfl)) ?_ ?_
    all_goals try simp only [go_sem, simprocAttr, h4]
    all_goals ((try simp only [applyFx, c1, c5, c7, if_true, if_false, Bool.false_eq_true, List.length_set]) <;> first | done | rfl)
set_option maxHeartbeats 8000000 in
set_option maxRecDepth 100000 in
theorem sat_impl_State_put (s : Stt) (e : Fx) (hk : sttOk s = true) : Sat Tryz.prog 49 [.ptr 0 0, .agg e.cells] (⟨10, s.own 1 2 3, true, false⟩ :: s.blks) (.tuple []) (⟨10, (applyFx s e).own 1 2 3, true, false⟩ :: (applyFx s e).blks) := by
 refine sat_mk [] 4 45 Tryz.call49 Tryz.func49 Tryz.ntmps49 rfl rfl rfl rfl rfl ?_
 refine awl_live' [0, 1] fun ρ hL => ?_
 try simp only [go_sem, simprocAttr] at hL
 obtain ⟨h0, h1⟩ := hL
 refine awl_seq ?_
 refine awl_regS _ rfl fun K hK => ?_
 try simp only [go_sem, simprocAttr, h0, h1]
 repeat' (refine And.intro (by first | rfl | omega | (simp; done)) ?_)
 refine hK _ _ (.mk (awl_live' [0, 3] fun ρ hL => ?_))
 try simp only [go_sem, simprocAttr, h0, h1] at hL
 try clear h0 h1
 obtain ⟨h0, h3⟩ := hL
 clear hK K
 refine awl_seq ?_
 refine awl_seq ?_
 refine awl_regS _ rfl fun K hK => ?_
 try simp only [go_sem, simprocAttr, h0, h3]
 repeat' (refine And.intro (by first | rfl | omega | (simp; done)) ?_)
 refine opS_call_ro rfl (sat_impl_in ?_ ?_ ?_) ?ha ?hv ?hh ?_
 case ha => simp only [go_sem, simprocAttr, h0, h3]; first | done | rfl
 case hv => first | rfl | (simp only [go_sem]; done)
 case hh => first | rfl | (simp only [go_sem]; done)
 try simp only [go_sem, simprocAttr, h0, h3]
 repeat' (refine And.intro (by first | rfl | omega | (simp; done)) ?_)
 refine hK _ _ (.mk (awl_live' [0, 3, 6] fun ρ hL => ?_))
 try simp only [go_sem, simprocAttr, h0, h3] at hL
 try clear h0 h3
 obtain ⟨h0, h3, h6⟩ := hL
 clear hK K
 refine awl_cond h6 (fun c1 => ?_) (fun c1 => ?_)
 ·
  try simp only [cnd] at c1
  have hr_r := inR_iff.1 (show inR e.r 0 7 = true by assumption)
  have h8_r := (sttOk_parts hk).2.1
  have h24_r := memOk_parts (sttOk_parts hk).2.2.2.1
  have hn_r : (e.r).toNat < s.regs.length := by omega
  refine awl_regD mixed _ rfl fun K hK => ?_
  try simp only [go_sem, simprocAttr, h0, h3, h6, words_put hn_r, hn_r]
  repeat' (refine And.intro (by first | omega | (exact ⟨[0, 1, 3, 7, 0, 16, 0, 64, 255, 511], by kernel_rfl⟩) | kernel_rfl) ?_)
  refine hK _ _ (.mk (awl_live' [0, 3] fun ρ hL => ?_))
  try simp only [go_sem, simprocAttr, h0, h3, h6, words_put hn_r, hn_r] at hL
  try clear h0 h3 h6
  obtain ⟨h0, h3⟩ := hL
  clear hK K
  refine awl_seq ?_
  refine awl_seq ?_
  refine awl_regS _ rfl fun K hK => ?_
  try simp only [go_sem, simprocAttr, h0, h3]
  repeat' (refine And.intro (by first | rfl | omega | (simp; done)) ?_)
  refine opS_call_ro rfl (sat_impl_in ?_ ?_ ?_) ?ha ?hv ?hh ?_
  case ha => simp only [go_sem, simprocAttr, h0, h3]; first | done | rfl
  case hv => first | rfl | (simp only [go_sem]; done)
  case hh => first | rfl | (simp only [go_sem]; done)
  try simp only [go_sem, simprocAttr, h0, h3]
  repeat' (refine And.intro (by first | rfl | omega | (simp; done)) ?_)
  refine hK _ _ (.mk (awl_live' [0, 3, 18] fun ρ hL => ?_))
  try simp only [go_sem, simprocAttr, h0, h3] at hL
  try clear h0 h3
  obtain ⟨h0, h3, h18⟩ := hL
  clear hK K
  refine awl_cond h18 (fun c2 => ?_) (fun c2 => ?_)
  ·
   try simp only [cnd] at c2
   have hr_a := inR_iff.1 (show inR e.adr 0 23 = true by assumption)
   have h8_a := (sttOk_parts hk).2.1
   have h24_a := memOk_parts (sttOk_parts hk).2.2.2.1
   have hn_a : (e.adr).toNat < s.mem.words.length := by omega
   refine awl_regD mixed _ rfl fun K hK => ?_
   try simp only [go_sem, simprocAttr, h0, h3, h18, words_put hn_a, hn_a]
   repeat' (refine And.intro (by first | omega | (exact ⟨[0, 1, 3, 7, 15, 0, 32, 0, 128, 511, 1023], by kernel_rfl⟩) | kernel_rfl) ?_)
   refine hK _ _ (.mk (awl_live' [0, 3] fun ρ hL => ?_))
   try simp only [go_sem, simprocAttr, h0, h3, h18, words_put hn_a, hn_a] at hL
   try clear h0 h3 h18
   obtain ⟨h0, h3⟩ := hL
   clear hK K
   refine awl_seq ?_
   refine awl_seq ?_
   refine awl_regS _ rfl fun K hK => ?_
   try simp only [go_sem, simprocAttr, h0, h3]
   repeat' (refine And.intro (by first | rfl | omega | (simp; done)) ?_)
   refine opS_call_ro rfl (sat_impl_in ?_ ?_ ?_) ?ha ?hv ?hh ?_
   case ha => simp only [go_sem, simprocAttr, h0, h3]; first | done | rfl
   case hv => first | rfl | (simp only [go_sem]; done)
   case hh => first | rfl | (simp only [go_sem]; done)
   try simp only [go_sem, simprocAttr, h0, h3]
   repeat' (refine And.intro (by first | rfl | omega | (simp; done)) ?_)
   refine hK _ _ (.mk (awl_live' [0, 3, 31] fun ρ hL => ?_))
   try simp only [go_sem, simprocAttr, h0, h3] at hL
   try clear h0 h3
   obtain ⟨h0, h3, h31⟩ := hL
   clear hK K
   refine awl_cond h31 (fun c3 => ?_) (fun c3 => ?_)
   ·
    try simp only [cnd] at c3
    have hr_d := inR_iff.1 (show inR e.drop 0 23 = true by assumption)
    have h8_d := (sttOk_parts hk).2.1
    have h24_d := memOk_parts (sttOk_parts hk).2.2.2.1
    have hn_d : (e.drop).toNat < s.mem.gone.length := by omega
    refine awl_regD mixed _ rfl fun K hK => ?_
    try simp only [go_sem, simprocAttr, h0, h3, h31, bools_put hn_d, hn_d]
    repeat' (refine And.intro (by first | omega | (exact ⟨[0, 1, 3, 7, 15, 0, 32, 127, 255], by kernel_rfl⟩) | kernel_rfl) ?_)
    refine hK _ _ (.mk (awl_live' [0, 3] fun ρ hL => ?_))
    try simp only [go_sem, simprocAttr, h0, h3, h31, bools_put hn_d, hn_d] at hL
    try clear h0 h3 h31
    obtain ⟨h0, h3⟩ := hL
    clear hK K
    refine awl_regS _ rfl fun K hK => ?_
    try simp only [go_sem, simprocAttr, h0, h3]
    repeat' (refine And.intro (by first | rfl | omega | (simp; done)) ?_)
    refine hK _ _ (.mk (awl_live' [] fun ρ hL => ?_))
    clear hL h0 h3
    clear hK K
    refine awl_nil ?_
    refine end_mk ?_
    refine retK [] [0, 1, 2, 3] rfl (by simp only [go_sem, simprocAttr]; exact rfl) (by decide) (by first | rfl | (simp only [go_sem, simprocAttr]; first | done | rfl)) (by first | rfl | (simp only [go_sem, simprocAttr]; first | done | rfl)) ?_ ?_
    all_goals try simp only [go_sem, simprocAttr]
    all_goals ((try simp only [applyFx, c1, c2, c3, if_true, if_false, Bool.false_eq_true, List.length_set]) <;> first | done | rfl)
   ·
    try simp only [cnd] at c3
    refine awl_skip ?_
    refine awl_regS _ rfl fun K hK => ?_
    try simp only [go_sem, simprocAttr, h0, h3, h31]
    repeat' (refine And.intro (by first | rfl | omega | (simp; done)) ?_)
    refine hK _ _ (.mk (awl_live' [] fun ρ hL => ?_))
    clear hL h0 h3 h31
    clear hK K
    refine awl_nil ?_
    refine end_mk ?_
    refine retK [] [0, 1, 2, 3] rfl (by simp only [go_sem, simprocAttr]; exact rfl) (by decide) (by first | rfl | (simp only [go_sem, simprocAttr]; first | done | rfl)) (by first | rfl | (simp only [go_sem, simprocAttr]; first | done | rfl)) ?_ ?_
    all_goals try simp only [go_sem, simprocAttr]
    all_goals ((try simp only [applyFx, c1, c2, c3, if_true, if_false, Bool.false_eq_true, List.length_set]) <;> first | done | rfl)
  ·
   try simp only [cnd] at c2
   refine awl_skip ?_
   refine awl_seq ?_
   refine awl_seq ?_
   refine awl_regS _ rfl fun K hK => ?_
   try simp only [go_sem, simprocAttr, h0, h3, h18]
   repeat' (refine And.intro (by first | rfl | omega | (simp; done)) ?_)
   refine opS_call_ro rfl (sat_impl_in ?_ ?_ ?_) ?ha ?hv ?hh ?_
   case ha => simp only [go_sem, simprocAttr, h0, h3, h18]; first | done | rfl
   case hv => first | rfl | (simp only [go_sem]; done)
   case hh => first | rfl | (simp only [go_sem]; done)
   try simp only [go_sem, simprocAttr, h0, h3, h18]
   repeat' (refine And.intro (by first | rfl | omega | (simp; done)) ?_)
   refine hK _ _ (.mk (awl_live' [0, 3, 31] fun ρ hL => ?_))
   try simp only [go_sem, simprocAttr, h0, h3, h18] at hL
   try clear h0 h3 h18
   obtain ⟨h0, h3, h31⟩ := hL
   clear hK K
   refine awl_cond h31 (fun c4 => ?_) (fun c4 => ?_)
   ·
    try simp only [cnd] at c4
    have hr_d := inR_iff.1 (show inR e.drop 0 23 = true by assumption)
    have h8_d := (sttOk_parts hk).2.1
    have h24_d := memOk_parts (sttOk_parts hk).2.2.2.1
    have hn_d : (e.drop).toNat < s.mem.gone.length := by omega
    refine awl_regD mixed _ rfl fun K hK => ?_
    try simp only [go_sem, simprocAttr, h0, h3, h31, bools_put hn_d, hn_d]
    repeat' (refine And.intro (by first | omega | (exact ⟨[0, 1, 3, 7, 15, 0, 32, 127, 255], by kernel_rfl⟩) | kernel_rfl) ?_)
    refine hK _ _ (.mk (awl_live' [0, 3] fun ρ hL => ?_))
    try simp only [go_sem, simprocAttr, h0, h3, h31, bools_put hn_d, hn_d] at hL
    try clear h0 h3 h31
    obtain ⟨h0, h3⟩ := hL
    clear hK K
    refine awl_regS _ rfl fun K hK => ?_
    try simp only [go_sem, simprocAttr, h0, h3]
    repeat' (refine And.intro (by first | rfl | omega | (simp; done)) ?_)
    refine hK _ _ (.mk (awl_live' [] fun ρ hL => ?_))
    clear hL h0 h3
    clear hK K
    refine awl_nil ?_
    refine end_mk ?_
    refine retK [] [0, 1, 2, 3] rfl (by simp only [go_sem, simprocAttr]; exact rfl) (by decide) (by first | rfl | (simp only [go_sem, simprocAttr]; first | done | rfl)) (by first | rfl | (simp only [go_sem, simprocAttr]; first | done | rfl)) ?_ ?_
    all_goals try simp only [go_sem, simprocAttr]
    all_goals ((try simp only [applyFx, c1, c2, c4, if_true, if_false, Bool.false_eq_true, List.length_set]) <;> first | done | rfl)
   ·
    try simp only [cnd] at c4
    refine awl_skip ?_
    refine awl_regS _ rfl fun K hK => ?_
    try simp only [go_sem, simprocAttr, h0, h3, h31]
    repeat' (refine And.intro (by first | rfl | omega | (simp; done)) ?_)
    refine hK _ _ (.mk (awl_live' [] fun ρ hL => ?_))
    clear hL h0 h3 h31
    clear hK K
    refine awl_nil ?_
    refine end_mk ?_
    refine retK [] [0, 1, 2, 3] rfl (by simp only [go_sem, simprocAttr]; exact rfl) (by decide) (by first | rfl | (simp only [go_sem, simprocAttr]; first | done | rfl)) (by first | rfl | (simp only [go_sem, simprocAttr]; first | done | rfl)) ?_ ?_
    all_goals try simp only [go_sem, simprocAttr]
    all_goals ((try simp only [applyFx, c1, c2, c4, if_true, if_false, Bool.false_eq_true, List.length_set]) <;> first | done | rfl)
 ·
  try simp only [cnd] at c1
  refine awl_skip ?_
  refine awl_seq ?_
  refine awl_seq ?_
  refine awl_regS _ rfl fun K hK => ?_
  try simp only [go_sem, simprocAttr, h0, h3, h6]
  repeat' (refine And.intro (by first | rfl | omega | (simp; done)) ?_)
  refine opS_call_ro rfl (sat_impl_in ?_ ?_ ?_) ?ha ?hv ?hh ?_
  case ha => simp only [go_sem, simprocAttr, h0, h3, h6]; first | done | rfl
  case hv => first | rfl | (simp only [go_sem]; done)
  case hh => first | rfl | (simp only [go_sem]; done)
  try simp only [go_sem, simprocAttr, h0, h3, h6]
  repeat' (refine And.intro (by first | rfl | omega | (simp; done)) ?_)
  refine hK _ _ (.mk (awl_live' [0, 3, 18] fun ρ hL => ?_))
  try simp only [go_sem, simprocAttr, h0, h3, h6] at hL
  try clear h0 h3 h6
  obtain ⟨h0, h3, h18⟩ := hL
  clear hK K
  refine awl_cond h18 (fun c5 => ?_) (fun c5 => ?_)
  ·
   try simp only [cnd] at c5
   have hr_a := inR_iff.1 (show inR e.adr 0 23 = true by assumption)
   have h8_a := (sttOk_parts hk).2.1
   have h24_a := memOk_parts (sttOk_parts hk).2.2.2.1
   have hn_a : (e.adr).toNat < s.mem.words.length := by omega
   refine awl_regD mixed _ rfl fun K hK => ?_
   try simp only [go_sem, simprocAttr, h0, h3, h18, words_put hn_a, hn_a]
   repeat' (refine And.intro (by first | omega | (exact ⟨[0, 1, 3, 7, 15, 0, 32, 0, 128, 511, 1023], by kernel_rfl⟩) | kernel_rfl) ?_)
   refine hK _ _ (.mk (awl_live' [0, 3] fun ρ hL => ?_))
   try simp only [go_sem, simprocAttr, h0, h3, h18, words_put hn_a, hn_a] at hL
   try clear h0 h3 h18
   obtain ⟨h0, h3⟩ := hL
   clear hK K
   refine awl_seq ?_
   refine awl_seq ?_
   refine awl_regS _ rfl fun K hK => ?_
   try simp only [go_sem, simprocAttr, h0, h3]
   repeat' (refine And.intro (by first | rfl | omega | (simp; done)) ?_)
   refine opS_call_ro rfl (sat_impl_in ?_ ?_ ?_) ?ha ?hv ?hh ?_
   case ha => simp only [go_sem, simprocAttr, h0, h3]; first | done | rfl
   case hv => first | rfl | (simp only [go_sem]; done)
   case hh => first | rfl | (simp only [go_sem]; done)
   try simp only [go_sem, simprocAttr, h0, h3]
   repeat' (refine And.intro (by first | rfl | omega | (simp; done)) ?_)
   refine hK _ _ (.mk (awl_live' [0, 3, 31] fun ρ hL => ?_))
   try simp only [go_sem, simprocAttr, h0, h3] at hL
   try clear h0 h3
   obtain ⟨h0, h3, h31⟩ := hL
   clear hK K
   refine awl_cond h31 (fun c6 => ?_) (fun c6 => ?_)
   ·
    try simp only [cnd] at c6
    have hr_d := inR_iff.1 (show inR e.drop 0 23 = true by assumption)
    have h8_d := (sttOk_parts hk).2.1
    have h24_d := memOk_parts (sttOk_parts hk).2.2.2.1
    have hn_d : (e.drop).toNat < s.mem.gone.length := by omega
    refine awl_regD mixed _ rfl fun K hK => ?_
    try simp only [go_sem, simprocAttr, h0, h3, h31, bools_put hn_d, hn_d]
    repeat' (refine And.intro (by first | omega | (exact ⟨[0, 1, 3, 7, 15, 0, 32, 127, 255], by kernel_rfl⟩) | kernel_rfl) ?_)
    refine hK _ _ (.mk (awl_live' [0, 3] fun ρ hL => ?_))
    try simp only [go_sem, simprocAttr, h0, h3, h31, bools_put hn_d, hn_d] at hL
    try clear h0 h3 h31
    obtain ⟨h0, h3⟩ := hL
    clear hK K
    refine awl_regS _ rfl fun K hK => ?_
    try simp only [go_sem, simprocAttr, h0, h3]
    repeat' (refine And.intro (by first | rfl | omega | (simp; done)) ?_)
    refine hK _ _ (.mk (awl_live' [] fun ρ hL => ?_))
    clear hL h0 h3
    clear hK K
    refine awl_nil ?_
    refine end_mk ?_
    refine retK [] [0, 1, 2, 3] rfl (by simp only [go_sem, simprocAttr]; exact rfl) (by decide) (by first | rfl | (simp only [go_sem, simprocAttr]; first | done | rfl)) (by first | rfl | (simp only [go_sem, simprocAttr]; first | done | rfl)) ?_ ?_
    all_goals try simp only [go_sem, simprocAttr]
    all_goals ((try simp only [applyFx, c1, c5, c6, if_true, if_false, Bool.false_eq_true, List.length_set]) <;> first | done | rfl)
   ·
    try simp only [cnd] at c6
    refine awl_skip ?_
    refine awl_regS _ rfl fun K hK => ?_
    try simp only [go_sem, simprocAttr, h0, h3, h31]
    repeat' (refine And.intro (by first | rfl | omega | (simp; done)) ?_)
    refine hK _ _ (.mk (awl_live' [] fun ρ hL => ?_))
    clear hL h0 h3 h31
    clear hK K
    refine awl_nil ?_
    refine end_mk ?_
    refine retK [] [0, 1, 2, 3] rfl (by simp only [go_sem, simprocAttr]; exact rfl) (by decide) (by first | rfl | (simp only [go_sem, simprocAttr]; first | done | rfl)) (by first | rfl | (simp only [go_sem, simprocAttr]; first | done | rfl)) ?_ ?_
    all_goals try simp only [go_sem, simprocAttr]
    all_goals ((try simp only [applyFx, c1, c5, c6, if_true, if_false, Bool.false_eq_true, List.length_set]) <;> first | done | rfl)
  ·
   try simp only [cnd] at c5
   refine awl_skip ?_
   refine awl_seq ?_
   refine awl_seq ?_
   refine awl_regS _ rfl fun K hK => ?_
   try simp only [go_sem, simprocAttr, h0, h3, h18]
   repeat' (refine And.intro (by first | rfl | omega | (simp; done)) ?_)
   refine opS_call_ro rfl (sat_impl_in ?_ ?_ ?_) ?ha ?hv ?hh ?_
   case ha => simp only [go_sem, simprocAttr, h0, h3, h18]; first | done | rfl
   case hv => first | rfl | (simp only [go_sem]; done)
   case hh => first | rfl | (simp only [go_sem]; done)
   try simp only [go_sem, simprocAttr, h0, h3, h18]
   repeat' (refine And.intro (by first | rfl | omega | (simp; done)) ?_)
   refine hK _ _ (.mk (awl_live' [0, 3, 31] fun ρ hL => ?_))
   try simp only [go_sem, simprocAttr, h0, h3, h18] at hL
   try clear h0 h3 h18
   obtain ⟨h0, h3, h31⟩ := hL
   clear hK K
   refine awl_cond h31 (fun c7 => ?_) (fun c7 => ?_)
   ·
    try simp only [cnd] at c7
    have hr_d := inR_iff.1 (show inR e.drop 0 23 = true by assumption)
    have h8_d := (sttOk_parts hk).2.1
    have h24_d := memOk_parts (sttOk_parts hk).2.2.2.1
    have hn_d : (e.drop).toNat < s.mem.gone.length := by omega
    refine awl_regD mixed _ rfl fun K hK => ?_
    try simp only [go_sem, simprocAttr, h0, h3, h31, bools_put hn_d, hn_d]
    repeat' (refine And.intro (by first | omega | (exact ⟨[0, 1, 3, 7, 15, 0, 32, 127, 255], by kernel_rfl⟩) | kernel_rfl) ?_)
    refine hK _ _ (.mk (awl_live' [0, 3] fun ρ hL => ?_))
    try simp only [go_sem, simprocAttr, h0, h3, h31, bools_put hn_d, hn_d] at hL
    try clear h0 h3 h31
    obtain ⟨h0, h3⟩ := hL
    clear hK K
    refine awl_regS _ rfl fun K hK => ?_
    try simp only [go_sem, simprocAttr, h0, h3]
    repeat' (refine And.intro (by first | rfl | omega | (simp; done)) ?_)
    refine hK _ _ (.mk (awl_live' [] fun ρ hL => ?_))
    clear hL h0 h3
    clear hK K
    refine awl_nil ?_
    refine end_mk ?_
    refine retK [] [0, 1, 2, 3] rfl (by simp only [go_sem, simprocAttr]; exact rfl) (by decide) (by first | rfl | (simp only [go_sem, simprocAttr]; first | done | rfl)) (by first | rfl | (simp only [go_sem, simprocAttr]; first | done | rfl)) ?_ ?_
    all_goals try simp only [go_sem, simprocAttr]
    all_goals ((try simp only [applyFx, c1, c5, c7, if_true, if_false, Bool.false_eq_true, List.length_set]) <;> first | done | rfl)
   ·
    try simp only [cnd] at c7
    refine awl_skip ?_
    refine awl_regS _ rfl fun K hK => ?_
    try simp only [go_sem, simprocAttr, h0, h3, h31]
    repeat' (refine And.intro (by first | rfl | omega | (simp; done)) ?_)
    refine hK _ _ (.mk (awl_live' [] fun ρ hL => ?_))
    clear hL h0 h3 h31
    clear hK K
    refine awl_nil ?_
    refine end_mk ?_
    refine retK [] [0, 1, 2, 3] rfl (by simp only [go_sem, simprocAttr]; exact rfl) (by decide) (by first | rfl | (simp only [go_sem, simprocAttr]; first | done | rfl)) (by first | rfl | (simp only [go_sem, simprocAttr]; first | done | rfl)) ?_ ?_
    all_goals try simp only [go_sem, simprocAttr]
    all_goals ((try simp only [applyFx, c1, c5, c7, if_true, if_false, Bool.false_eq_true, List.length_set]) <;> first | done | rfl)
end Go.Proofs.YtopjagninmjkbaaGreat.AM
