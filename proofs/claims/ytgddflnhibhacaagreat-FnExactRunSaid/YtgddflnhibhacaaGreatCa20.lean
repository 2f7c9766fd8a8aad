/- What is made of words; what a command comes to. No conditions but those each theorem bears. -/
import Derived.Test.YtgddflnhibhacaaGreatFa
import Derived.Test.YtgddflnhibhacaaGreatSp8
import Derived.Test.YtgddflnhibhacaaGreatCa5b
import Derived.Test.YtgddflnhibhacaaGreatCa10
set_option linter.unusedSimpArgs false
set_option linter.unusedVariables false
namespace Go.Proofs.YtgddflnhibhacaaGreat.AM
open Go

set_option maxHeartbeats 8000000 in
set_option maxRecDepth 100000 in
theorem sat_spec_Narrow (w : Word) (n : Int)  : Sat Tryz.prog 91 [.agg w.cells, .int .i64 n] [] (.agg (Word.cells (narrow w n))) [] := by
 refine sat_mk [.cell 4 38] 0 58 Tryz.call91 Tryz.func91 Tryz.ntmps91 rfl rfl rfl rfl rfl ?_
 refine awl_live' [0, 1] fun ρ hL => ?_
 try simp only [go_sem, simprocAttr] at hL
 obtain ⟨h0, h1⟩ := hL
 refine awl_seq ?_
 refine awl_regS _ rfl fun K hK => ?_
 try simp only [go_sem, simprocAttr, h0, h1]
 repeat' (refine And.intro (by first | rfl | omega | (simp; done)) ?_)
 refine hK _ _ (.mk (awl_live' [1, 2, 4] fun ρ hL => ?_))
 try simp only [go_sem, simprocAttr, h0, h1] at hL
 try clear h0 h1
 obtain ⟨h1, h2, h4⟩ := hL
 clear hK K
 refine awl_seq ?_
 refine awl_seq ?_
 refine awl_regS _ rfl fun K hK => ?_
 try simp only [go_sem, simprocAttr, h1, h2, h4]
 repeat' (refine And.intro (by first | rfl | omega | (simp; done)) ?_)
 refine opS_call_ro rfl (sat_spec_l4Open ?_) ?ha ?hv ?hh ?_
 case ha => simp only [go_sem, simprocAttr, h1, h2, h4]; first | done | rfl
 case hv => first | rfl | (simp only [go_sem]; done)
 case hh => first | rfl | (simp only [go_sem]; done)
 try simp only [go_sem, simprocAttr, h1, h2, h4]
 repeat' (refine And.intro (by first | rfl | omega | (simp; done)) ?_)
 refine awpS_live [1, 2, 4, 10] fun ρ hL => ?_
 try simp only [go_sem, simprocAttr, h1, h2, h4] at hL
 try clear h1 h2 h4
 obtain ⟨h1, h2, h4, h10⟩ := hL
 refine grp_orN (tc := 10) (tv := 13) (td := 14) (v := ?v1) 3 rfl [1, 2, 4] h10 rfl (fun hb K1 hK1 => ?run) (fun hb => ?skip) (fun ρ hP hL => ?_)
 case skip =>
  exact awpS_skip (want := false) (b := _) (by rw [hb]; rfl) _ [] ρ h10 (fun _ _ => rfl) (by simp) rfl
 case run =>
  simp only [List.take_succ_cons, List.take_zero]
  rw [hb] at h10
  try simp only [go_sem, simprocAttr, h1, h2, h4, h10]
  repeat' (refine And.intro (by first | rfl | omega | (simp; done)) ?_)
  refine opS_call_ro rfl (sat_spec_l1In ?_ ?_ ?_) ?ha ?hv ?hh ?_
  case ha => simp only [go_sem, simprocAttr, h1, h2, h4, h10]; first | done | rfl
  case hv => first | rfl | (simp only [go_sem]; done)
  case hh => first | rfl | (simp only [go_sem]; done)
  try simp only [go_sem, simprocAttr, h1, h2, h4, h10]
  repeat' (refine And.intro (by first | rfl | omega | (simp; done)) ?_)
  exact hK1 _ (by simp only [go_sem, simprocAttr, h1, h2, h4, h10]) (by simp only [go_sem, simprocAttr, h1, h2, h4, h10]; exact rfl) (by simp only [go_sem, simprocAttr, h1, h2, h4, h10])
 simp only [List.drop_succ_cons, List.drop_zero]
 try simp only [go_sem, simprocAttr, h1, h2, h4, h10] at hL
 try clear h1 h2 h4 h10
 obtain ⟨h1, h2, h4⟩ := hL
 have h14 := hP
 clear hP
 try simp only [go_sem, simprocAttr, h1, h2, h4, h14]
 repeat' (refine And.intro (by first | rfl | omega | (simp; done)) ?_)
 refine awpS_live [1, 2, 4, 15] fun ρ hL => ?_
 try simp only [go_sem, simprocAttr, h1, h2, h4, h14] at hL
 try clear h1 h2 h4 h14
 obtain ⟨h1, h2, h4, h15⟩ := hL
 refine grp_orN (tc := 15) (tv := 23) (td := 24) (v := ?v2) 8 rfl [1, 2, 4] h15 rfl (fun hb K1 hK1 => ?run) (fun hb => ?skip) (fun ρ hP hL => ?_)
 case skip =>
  exact awpS_skip (want := false) (b := _) (by rw [hb]; rfl) _ [] ρ h15 (fun _ _ => rfl) (by simp) rfl
 case run =>
  simp only [List.take_succ_cons, List.take_zero]
  rw [hb] at h15
  try simp only [go_sem, simprocAttr, h1, h2, h4, h15]
  repeat' (refine And.intro (by first | rfl | omega | (simp; done)) ?_)
  refine opS_call_ro rfl (sat_spec_BoundsOk ?_ ?_) ?ha ?hv ?hh ?_
  case ha => simp only [go_sem, simprocAttr, h1, h2, h4, h15]; first | done | rfl
  case hv => first | rfl | (simp only [go_sem]; done)
  case hh => first | rfl | (simp only [go_sem]; done)
  try simp only [go_sem, simprocAttr, h1, h2, h4, h15]
  repeat' (refine And.intro (by first | rfl | omega | (simp; done)) ?_)
  exact hK1 _ (by simp only [go_sem, simprocAttr, h1, h2, h4, h15]) (by simp only [go_sem, simprocAttr, h1, h2, h4, h15]; exact rfl) (by simp only [go_sem, simprocAttr, h1, h2, h4, h15])
 simp only [List.drop_succ_cons, List.drop_zero]
 try simp only [go_sem, simprocAttr, h1, h2, h4, h15] at hL
 try clear h1 h2 h4 h15
 obtain ⟨h1, h2, h4⟩ := hL
 have h24 := hP
 clear hP
 try simp only [go_sem, simprocAttr, h1, h2, h4, h24]
 repeat' (refine And.intro (by first | rfl | omega | (simp; done)) ?_)
 refine hK _ _ (.mk (awl_live' [1, 2, 4, 24] fun ρ hL => ?_))
 try simp only [go_sem, simprocAttr, h1, h2, h4, h24] at hL
 try clear h1 h2 h4 h24
 obtain ⟨h1, h2, h4, h24⟩ := hL
 clear hK K
 refine awl_cond h24 (fun c1 => ?_) (fun c1 => ?_)
 ·
  try simp only [cnd] at c1
  refine awl_seq ?_
  refine awl_regS _ rfl fun K hK => ?_
  try simp only [go_sem, simprocAttr, h1, h2, h4, h24]
  repeat' (refine And.intro (by first | rfl | omega | (simp; done)) ?_)
  refine opS_call_ro rfl (sat_spec_Bare ?_) ?ha ?hv ?hh ?_
  case ha => simp only [go_sem, simprocAttr, h1, h2, h4, h24]; first | done | rfl
  case hv => first | rfl | (simp only [go_sem]; done)
  case hh => first | rfl | (simp only [go_sem]; done)
  try simp only [go_sem, simprocAttr, h1, h2, h4, h24]
  repeat' (refine And.intro (by first | rfl | omega | (simp; done)) ?_)
  refine hK _ _ (.mk (awl_live' [4] fun ρ hL => ?_))
  try simp only [go_sem, simprocAttr, h1, h2, h4, h24] at hL
  try clear h1 h2 h4 h24
  have h4 := hL
  clear hL
  clear hK K
  refine awl_ret ?_
  refine ret0 (by simp only [go_sem, simprocAttr, h4]; exact rfl) ?_
  try simp only [go_sem, simprocAttr]
  all_goals (rw [narrow, if_neg (by simp only [wadd]; rintro ⟨a, b, d, e, f⟩; rw [a, b, d] at c1; simp at c1)] <;> simp only [bare, plain, low, noKey])
 ·
  try simp only [cnd] at c1
  refine awl_skip ?_
  refine awl_seq ?_
  refine awl_regS _ rfl fun K hK => ?_
  try simp only [go_sem, simprocAttr, h1, h2, h4, h24]
  repeat' (refine And.intro (by first | rfl | omega | (simp; done)) ?_)
  refine opS_call_ro rfl (sat_spec_Wide ?_ ?_) ?ha ?hv ?hh ?_
  case ha => simp only [go_sem, simprocAttr, h1, h2, h4, h24]; first | done | rfl
  case hv => first | rfl | (simp only [go_sem]; done)
  case hh => first | rfl | (simp only [go_sem]; done)
  try simp only [go_sem, simprocAttr, h1, h2, h4, h24]
  repeat' (refine And.intro (by first | rfl | omega | (simp; done)) ?_)
  refine hK _ _ (.mk (awl_live' [2, 4, 5, 6] fun ρ hL => ?_))
  try simp only [go_sem, simprocAttr, h1, h2, h4, h24] at hL
  try clear h1 h2 h4 h24
  obtain ⟨h2, h4, h5, h6⟩ := hL
  clear hK K
  refine awl_seq ?_
  refine awl_seq ?_
  refine awl_regS _ rfl fun K hK => ?_
  try simp only [go_sem, simprocAttr, h2, h4, h5, h6]
  repeat' (refine And.intro (by first | rfl | omega | (simp; done)) ?_)
  refine awpS_live [2, 4, 5, 6, 42] fun ρ hL => ?_
  try simp only [go_sem, simprocAttr, h2, h4, h5, h6] at hL
  try clear h2 h4 h5 h6
  obtain ⟨h2, h4, h5, h6, h42⟩ := hL
  refine grp_orN (tc := 42) (tv := 47) (td := 48) (v := ?v3) 5 rfl [2, 4, 5, 6] h42 rfl (fun hb K1 hK1 => ?run) (fun hb => ?skip) (fun ρ hP hL => ?_)
  case skip =>
   exact awpS_skip (want := false) (b := _) (by rw [hb]; rfl) _ [] ρ h42 (fun _ _ => rfl) (by simp) rfl
  case run =>
   simp only [List.take_succ_cons, List.take_zero]
   rw [hb] at h42
   try simp only [go_sem, simprocAttr, h2, h4, h5, h6, h42]
   repeat' (refine And.intro (by first | rfl | omega | (simp; done)) ?_)
   exact hK1 _ (by simp only [go_sem, simprocAttr, h2, h4, h5, h6, h42]) (by simp only [go_sem, simprocAttr, h2, h4, h5, h6, h42]; exact rfl) (by simp only [go_sem, simprocAttr, h2, h4, h5, h6, h42])
  simp only [List.drop_succ_cons, List.drop_zero]
  try simp only [go_sem, simprocAttr, h2, h4, h5, h6, h42] at hL
  try clear h2 h4 h5 h6 h42
  obtain ⟨h2, h4, h5, h6⟩ := hL
  have h48 := hP
  clear hP
  try simp only [go_sem, simprocAttr, h2, h4, h5, h6, h48]
  repeat' (refine And.intro (by first | rfl | omega | (simp; done)) ?_)
  refine hK _ _ (.mk (awl_live' [2, 4, 5, 6, 48] fun ρ hL => ?_))
  try simp only [go_sem, simprocAttr, h2, h4, h5, h6, h48] at hL
  try clear h2 h4 h5 h6 h48
  obtain ⟨h2, h4, h5, h6, h48⟩ := hL
  clear hK K
  refine awl_cond h48 (fun c2 => ?_) (fun c2 => ?_)
  ·
   try simp only [cnd] at c2
   refine awl_seq ?_
   refine awl_regS _ rfl fun K hK => ?_
   try simp only [go_sem, simprocAttr, h2, h4, h5, h6, h48]
   repeat' (refine And.intro (by first | rfl | omega | (simp; done)) ?_)
   refine opS_call_ro rfl (sat_spec_Bare ?_) ?ha ?hv ?hh ?_
   case ha => simp only [go_sem, simprocAttr, h2, h4, h5, h6, h48]; first | done | rfl
   case hv => first | rfl | (simp only [go_sem]; done)
   case hh => first | rfl | (simp only [go_sem]; done)
   try simp only [go_sem, simprocAttr, h2, h4, h5, h6, h48]
   repeat' (refine And.intro (by first | rfl | omega | (simp; done)) ?_)
   refine hK _ _ (.mk (awl_live' [4] fun ρ hL => ?_))
   try simp only [go_sem, simprocAttr, h2, h4, h5, h6, h48] at hL
   try clear h2 h4 h5 h6 h48
   have h4 := hL
   clear hL
   clear hK K
   refine awl_ret ?_
   refine ret0 (by simp only [go_sem, simprocAttr, h4]; exact rfl) ?_
   try simp only [go_sem, simprocAttr]
   all_goals (rw [narrow, if_neg (by simp only [wadd]; rintro ⟨a, b, d, e, f⟩; omega)] <;> simp only [bare, plain, low, noKey])
  ·
   try simp only [cnd] at c2
   refine awl_skip ?_
   refine awl_seq ?_
   refine awl_regS _ rfl fun K hK => ?_
   try simp only [go_sem, simprocAttr, h2, h4, h5, h6, h48]
   repeat' (refine And.intro (by first | rfl | omega | (simp; done)) ?_)
   refine hK _ _ (.mk (awl_live' [2, 4, 6] fun ρ hL => ?_))
   try simp only [go_sem, simprocAttr, h2, h4, h5, h6, h48] at hL
   try clear h2 h4 h5 h6 h48
   obtain ⟨h2, h4, h6⟩ := hL
   clear hK K
   refine awl_seq ?_
   refine awl_regS _ rfl fun K hK => ?_
   try simp only [go_sem, simprocAttr, h2, h4, h6]
   repeat' (refine And.intro (by first | rfl | omega | (simp; done)) ?_)
   refine hK _ _ (.mk (awl_live' [2, 4] fun ρ hL => ?_))
   try simp only [go_sem, simprocAttr, h2, h4, h6] at hL
   try clear h2 h4 h6
   obtain ⟨h2, h4⟩ := hL
   clear hK K
   refine awl_seq ?_
   refine awl_regS _ rfl fun K hK => ?_
   try simp only [go_sem, simprocAttr, h2, h4]
   repeat' (refine And.intro (by first | rfl | omega | (simp; done)) ?_)
   refine hK _ _ (.mk (awl_live' [4] fun ρ hL => ?_))
   try simp only [go_sem, simprocAttr, h2, h4] at hL
   try clear h2 h4
   have h4 := hL
   clear hL
   clear hK K
   refine awl_ret ?_
   refine ret0 (by simp only [go_sem, simprocAttr, h4]; exact rfl) ?_
   try simp only [go_sem, simprocAttr]
   all_goals (rw [narrow, if_pos (by simp only [wadd]; obtain ⟨⟨a, b⟩, d⟩ := c1; exact ⟨a, b, d, by omega, by omega⟩)] <;> rfl)
set_option maxHeartbeats 8000000 in
set_option maxRecDepth 100000 in
theorem sat_impl_Narrow (w : Word) (n : Int)  : Sat Tryz.prog 121 [.agg w.cells, .int .i64 n] [] (.agg (Word.cells (narrow w n))) [] := by
 refine sat_mk [.cell 4 38] 0 61 Tryz.call121 Tryz.func121 Tryz.ntmps121 rfl rfl rfl rfl rfl ?_
 refine awl_live' [0, 1] fun ρ hL => ?_
 try simp only [go_sem, simprocAttr] at hL
 obtain ⟨h0, h1⟩ := hL
 refine awl_seq ?_
 refine awl_regS _ rfl fun K hK => ?_
 try simp only [go_sem, simprocAttr, h0, h1]
 repeat' (refine And.intro (by first | rfl | omega | (simp; done)) ?_)
 refine hK _ _ (.mk (awl_live' [1, 2, 4] fun ρ hL => ?_))
 try simp only [go_sem, simprocAttr, h0, h1] at hL
 try clear h0 h1
 obtain ⟨h1, h2, h4⟩ := hL
 clear hK K
 refine awl_seq ?_
 refine awl_seq ?_
 refine awl_regS _ rfl fun K hK => ?_
 try simp only [go_sem, simprocAttr, h1, h2, h4]
 repeat' (refine And.intro (by first | rfl | omega | (simp; done)) ?_)
 refine opS_call_ro rfl (sat_impl_open ?_) ?ha ?hv ?hh ?_
 case ha => simp only [go_sem, simprocAttr, h1, h2, h4]; first | done | rfl
 case hv => first | rfl | (simp only [go_sem]; done)
 case hh => first | rfl | (simp only [go_sem]; done)
 try simp only [go_sem, simprocAttr, h1, h2, h4]
 repeat' (refine And.intro (by first | rfl | omega | (simp; done)) ?_)
 refine awpS_live [1, 2, 4, 10] fun ρ hL => ?_
 try simp only [go_sem, simprocAttr, h1, h2, h4] at hL
 try clear h1 h2 h4
 obtain ⟨h1, h2, h4, h10⟩ := hL
 refine grp_orN (tc := 10) (tv := 12) (td := 13) (v := ?v1) 2 rfl [1, 2, 4] h10 rfl (fun hb K1 hK1 => ?run) (fun hb => ?skip) (fun ρ hP hL => ?_)
 case skip =>
  exact awpS_skip (want := false) (b := _) (by rw [hb]; rfl) _ [] ρ h10 (fun _ _ => rfl) (by simp) rfl
 case run =>
  simp only [List.take_succ_cons, List.take_zero]
  rw [hb] at h10
  try simp only [go_sem, simprocAttr, h1, h2, h4, h10]
  repeat' (refine And.intro (by first | rfl | omega | (simp; done)) ?_)
  exact hK1 _ (by simp only [go_sem, simprocAttr, h1, h2, h4, h10]) (by simp only [go_sem, simprocAttr, h1, h2, h4, h10]; exact rfl) (by simp only [go_sem, simprocAttr, h1, h2, h4, h10])
 simp only [List.drop_succ_cons, List.drop_zero]
 try simp only [go_sem, simprocAttr, h1, h2, h4, h10] at hL
 try clear h1 h2 h4 h10
 obtain ⟨h1, h2, h4⟩ := hL
 have h13 := hP
 clear hP
 try simp only [go_sem, simprocAttr, h1, h2, h4, h13]
 repeat' (refine And.intro (by first | rfl | omega | (simp; done)) ?_)
 refine awpS_live [1, 2, 4, 14] fun ρ hL => ?_
 try simp only [go_sem, simprocAttr, h1, h2, h4, h13] at hL
 try clear h1 h2 h4 h13
 obtain ⟨h1, h2, h4, h14⟩ := hL
 refine grp_orN (tc := 14) (tv := 16) (td := 17) (v := ?v2) 2 rfl [1, 2, 4] h14 rfl (fun hb K1 hK1 => ?run) (fun hb => ?skip) (fun ρ hP hL => ?_)
 case skip =>
  exact awpS_skip (want := false) (b := _) (by rw [hb]; rfl) _ [] ρ h14 (fun _ _ => rfl) (by simp) rfl
 case run =>
  simp only [List.take_succ_cons, List.take_zero]
  rw [hb] at h14
  try simp only [go_sem, simprocAttr, h1, h2, h4, h14]
  repeat' (refine And.intro (by first | rfl | omega | (simp; done)) ?_)
  exact hK1 _ (by simp only [go_sem, simprocAttr, h1, h2, h4, h14]) (by simp only [go_sem, simprocAttr, h1, h2, h4, h14]; exact rfl) (by simp only [go_sem, simprocAttr, h1, h2, h4, h14])
 simp only [List.drop_succ_cons, List.drop_zero]
 try simp only [go_sem, simprocAttr, h1, h2, h4, h14] at hL
 try clear h1 h2 h4 h14
 obtain ⟨h1, h2, h4⟩ := hL
 have h17 := hP
 clear hP
 try simp only [go_sem, simprocAttr, h1, h2, h4, h17]
 repeat' (refine And.intro (by first | rfl | omega | (simp; done)) ?_)
 refine awpS_live [1, 2, 4, 18] fun ρ hL => ?_
 try simp only [go_sem, simprocAttr, h1, h2, h4, h17] at hL
 try clear h1 h2 h4 h17
 obtain ⟨h1, h2, h4, h18⟩ := hL
 refine grp_orN (tc := 18) (tv := 26) (td := 27) (v := ?v3) 8 rfl [1, 2, 4] h18 rfl (fun hb K1 hK1 => ?run) (fun hb => ?skip) (fun ρ hP hL => ?_)
 case skip =>
  exact awpS_skip (want := false) (b := _) (by rw [hb]; rfl) _ [] ρ h18 (fun _ _ => rfl) (by simp) rfl
 case run =>
  simp only [List.take_succ_cons, List.take_zero]
  rw [hb] at h18
  try simp only [go_sem, simprocAttr, h1, h2, h4, h18]
  repeat' (refine And.intro (by first | rfl | omega | (simp; done)) ?_)
  refine opS_call_ro rfl (sat_impl_BoundsOk ?_ ?_) ?ha ?hv ?hh ?_
  case ha => simp only [go_sem, simprocAttr, h1, h2, h4, h18]; first | done | rfl
  case hv => first | rfl | (simp only [go_sem]; done)
  case hh => first | rfl | (simp only [go_sem]; done)
  try simp only [go_sem, simprocAttr, h1, h2, h4, h18]
  repeat' (refine And.intro (by first | rfl | omega | (simp; done)) ?_)
  exact hK1 _ (by simp only [go_sem, simprocAttr, h1, h2, h4, h18]) (by simp only [go_sem, simprocAttr, h1, h2, h4, h18]; exact rfl) (by simp only [go_sem, simprocAttr, h1, h2, h4, h18])
 simp only [List.drop_succ_cons, List.drop_zero]
 try simp only [go_sem, simprocAttr, h1, h2, h4, h18] at hL
 try clear h1 h2 h4 h18
 obtain ⟨h1, h2, h4⟩ := hL
 have h27 := hP
 clear hP
 try simp only [go_sem, simprocAttr, h1, h2, h4, h27]
 repeat' (refine And.intro (by first | rfl | omega | (simp; done)) ?_)
 refine hK _ _ (.mk (awl_live' [1, 2, 4, 27] fun ρ hL => ?_))
 try simp only [go_sem, simprocAttr, h1, h2, h4, h27] at hL
 try clear h1 h2 h4 h27
 obtain ⟨h1, h2, h4, h27⟩ := hL
 clear hK K
 refine awl_cond h27 (fun c1 => ?_) (fun c1 => ?_)
 ·
  try simp only [cnd] at c1
  refine awl_seq ?_
  refine awl_regS _ rfl fun K hK => ?_
  try simp only [go_sem, simprocAttr, h1, h2, h4, h27]
  repeat' (refine And.intro (by first | rfl | omega | (simp; done)) ?_)
  refine opS_call_ro rfl (sat_impl_Bare ?_) ?ha ?hv ?hh ?_
  case ha => simp only [go_sem, simprocAttr, h1, h2, h4, h27]; first | done | rfl
  case hv => first | rfl | (simp only [go_sem]; done)
  case hh => first | rfl | (simp only [go_sem]; done)
  try simp only [go_sem, simprocAttr, h1, h2, h4, h27]
  repeat' (refine And.intro (by first | rfl | omega | (simp; done)) ?_)
  refine hK _ _ (.mk (awl_live' [4] fun ρ hL => ?_))
  try simp only [go_sem, simprocAttr, h1, h2, h4, h27] at hL
  try clear h1 h2 h4 h27
  have h4 := hL
  clear hL
  clear hK K
  refine awl_ret ?_
  refine ret0 (by simp only [go_sem, simprocAttr, h4]; exact rfl) ?_
  try simp only [go_sem, simprocAttr]
  all_goals (rw [narrow, if_neg (by simp only [wadd]; rintro ⟨a, b, d, e, f⟩; have := inR_iff.1 b; rw [a, d] at c1; simp at c1; omega)] <;> simp only [bare, plain, low, noKey])
 ·
  try simp only [cnd] at c1
  refine awl_skip ?_
  refine awl_seq ?_
  refine awl_regS _ rfl fun K hK => ?_
  try simp only [go_sem, simprocAttr, h1, h2, h4, h27]
  repeat' (refine And.intro (by first | rfl | omega | (simp; done)) ?_)
  refine opS_call_ro rfl (sat_impl_Wide ?_ ?_) ?ha ?hv ?hh ?_
  case ha => simp only [go_sem, simprocAttr, h1, h2, h4, h27]; first | done | rfl
  case hv => first | rfl | (simp only [go_sem]; done)
  case hh => first | rfl | (simp only [go_sem]; done)
  try simp only [go_sem, simprocAttr, h1, h2, h4, h27]
  repeat' (refine And.intro (by first | rfl | omega | (simp; done)) ?_)
  refine hK _ _ (.mk (awl_live' [2, 4, 5, 6] fun ρ hL => ?_))
  try simp only [go_sem, simprocAttr, h1, h2, h4, h27] at hL
  try clear h1 h2 h4 h27
  obtain ⟨h2, h4, h5, h6⟩ := hL
  clear hK K
  refine awl_seq ?_
  refine awl_seq ?_
  refine awl_regS _ rfl fun K hK => ?_
  try simp only [go_sem, simprocAttr, h2, h4, h5, h6]
  repeat' (refine And.intro (by first | rfl | omega | (simp; done)) ?_)
  refine awpS_live [2, 4, 5, 6, 45] fun ρ hL => ?_
  try simp only [go_sem, simprocAttr, h2, h4, h5, h6] at hL
  try clear h2 h4 h5 h6
  obtain ⟨h2, h4, h5, h6, h45⟩ := hL
  refine grp_orN (tc := 45) (tv := 50) (td := 51) (v := ?v4) 5 rfl [2, 4, 5, 6] h45 rfl (fun hb K1 hK1 => ?run) (fun hb => ?skip) (fun ρ hP hL => ?_)
  case skip =>
   exact awpS_skip (want := false) (b := _) (by rw [hb]; rfl) _ [] ρ h45 (fun _ _ => rfl) (by simp) rfl
  case run =>
   simp only [List.take_succ_cons, List.take_zero]
   rw [hb] at h45
   try simp only [go_sem, simprocAttr, h2, h4, h5, h6, h45]
   repeat' (refine And.intro (by first | rfl | omega | (simp; done)) ?_)
   exact hK1 _ (by simp only [go_sem, simprocAttr, h2, h4, h5, h6, h45]) (by simp only [go_sem, simprocAttr, h2, h4, h5, h6, h45]; exact rfl) (by simp only [go_sem, simprocAttr, h2, h4, h5, h6, h45])
  simp only [List.drop_succ_cons, List.drop_zero]
  try simp only [go_sem, simprocAttr, h2, h4, h5, h6, h45] at hL
  try clear h2 h4 h5 h6 h45
  obtain ⟨h2, h4, h5, h6⟩ := hL
  have h51 := hP
  clear hP
  try simp only [go_sem, simprocAttr, h2, h4, h5, h6, h51]
  repeat' (refine And.intro (by first | rfl | omega | (simp; done)) ?_)
  refine hK _ _ (.mk (awl_live' [2, 4, 5, 6, 51] fun ρ hL => ?_))
  try simp only [go_sem, simprocAttr, h2, h4, h5, h6, h51] at hL
  try clear h2 h4 h5 h6 h51
  obtain ⟨h2, h4, h5, h6, h51⟩ := hL
  clear hK K
  refine awl_cond h51 (fun c2 => ?_) (fun c2 => ?_)
  ·
   try simp only [cnd] at c2
   refine awl_seq ?_
   refine awl_regS _ rfl fun K hK => ?_
   try simp only [go_sem, simprocAttr, h2, h4, h5, h6, h51]
   repeat' (refine And.intro (by first | rfl | omega | (simp; done)) ?_)
   refine opS_call_ro rfl (sat_impl_Bare ?_) ?ha ?hv ?hh ?_
   case ha => simp only [go_sem, simprocAttr, h2, h4, h5, h6, h51]; first | done | rfl
   case hv => first | rfl | (simp only [go_sem]; done)
   case hh => first | rfl | (simp only [go_sem]; done)
   try simp only [go_sem, simprocAttr, h2, h4, h5, h6, h51]
   repeat' (refine And.intro (by first | rfl | omega | (simp; done)) ?_)
   refine hK _ _ (.mk (awl_live' [4] fun ρ hL => ?_))
   try simp only [go_sem, simprocAttr, h2, h4, h5, h6, h51] at hL
   try clear h2 h4 h5 h6 h51
   have h4 := hL
   clear hL
   clear hK K
   refine awl_ret ?_
   refine ret0 (by simp only [go_sem, simprocAttr, h4]; exact rfl) ?_
   try simp only [go_sem, simprocAttr]
   all_goals (rw [narrow, if_neg (by simp only [wadd]; rintro ⟨a, b, d, e, f⟩; omega)] <;> simp only [bare, plain, low, noKey])
  ·
   try simp only [cnd] at c2
   refine awl_skip ?_
   refine awl_seq ?_
   refine awl_regS _ rfl fun K hK => ?_
   try simp only [go_sem, simprocAttr, h2, h4, h5, h6, h51]
   repeat' (refine And.intro (by first | rfl | omega | (simp; done)) ?_)
   refine hK _ _ (.mk (awl_live' [2, 4] fun ρ hL => ?_))
   try simp only [go_sem, simprocAttr, h2, h4, h5, h6, h51] at hL
   try clear h2 h4 h5 h6 h51
   obtain ⟨h2, h4⟩ := hL
   clear hK K
   refine awl_seq ?_
   refine awl_regS _ rfl fun K hK => ?_
   try simp only [go_sem, simprocAttr, h2, h4]
   repeat' (refine And.intro (by first | rfl | omega | (simp; done)) ?_)
   refine hK _ _ (.mk (awl_live' [4] fun ρ hL => ?_))
   try simp only [go_sem, simprocAttr, h2, h4] at hL
   try clear h2 h4
   have h4 := hL
   clear hL
   clear hK K
   refine awl_ret ?_
   refine ret0 (by simp only [go_sem, simprocAttr, h4]; exact rfl) ?_
   try simp only [go_sem, simprocAttr]
   all_goals (rw [narrow, if_pos (by simp only [wadd]; obtain ⟨⟨⟨a, b⟩, b2⟩, d⟩ := c1; exact ⟨a, inR_iff.2 (by omega), d, by omega, by omega⟩)] <;> rfl)
set_option maxHeartbeats 8000000 in
set_option maxRecDepth 100000 in
theorem sat_spec_l4Sealer (w : Word)  : Sat Tryz.prog 111 [.agg w.cells] [] (.bool (sealer w)) [] := by
 refine sat_mk [.tmp 2] 0 33 Tryz.call111 Tryz.func111 Tryz.ntmps111 rfl rfl rfl rfl rfl ?_
 refine awl_live' [0] fun ρ hL => ?_
 try simp only [go_sem, simprocAttr] at hL
 have h0 := hL
 clear hL
 refine awl_seq ?_
 refine awl_regS _ rfl fun K hK => ?_
 try simp only [go_sem, simprocAttr, h0]
 repeat' (refine And.intro (by first | rfl | omega | (simp; done)) ?_)
 refine hK _ _ (.mk (awl_live' [1] fun ρ hL => ?_))
 try simp only [go_sem, simprocAttr, h0] at hL
 try clear h0
 have h1 := hL
 clear hL
 clear hK K
 refine awl_seq ?_
 refine awl_regS _ rfl fun K hK => ?_
 try simp only [go_sem, simprocAttr, h1]
 repeat' (refine And.intro (by first | rfl | omega | (simp; done)) ?_)
 refine opS_call_ro rfl (sat_spec_l4Open ?_) ?ha ?hv ?hh ?_
 case ha => simp only [go_sem, simprocAttr, h1]; first | done | rfl
 case hv => first | rfl | (simp only [go_sem]; done)
 case hh => first | rfl | (simp only [go_sem]; done)
 try simp only [go_sem, simprocAttr, h1]
 repeat' (refine And.intro (by first | rfl | omega | (simp; done)) ?_)
 refine awpS_live [1, 5] fun ρ hL => ?_
 try simp only [go_sem, simprocAttr, h1] at hL
 try clear h1
 obtain ⟨h1, h5⟩ := hL
 refine grp_andN (tc := 5) (tv := 10) (td := 11) (v := ?v1) 5 rfl [1] h5 rfl (fun hb K1 hK1 => ?run) (fun hb => ?skip) (fun ρ hP hL => ?_)
 case skip =>
  exact awpS_skip (want := true) (b := _) (by rw [hb]; rfl) _ [] ρ h5 (fun _ _ => rfl) (by simp) rfl
 case run =>
  simp only [List.take_succ_cons, List.take_zero]
  rw [hb] at h5
  try simp only [go_sem, simprocAttr, h1, h5]
  repeat' (refine And.intro (by first | rfl | omega | (simp; done)) ?_)
  exact hK1 _ (by simp only [go_sem, simprocAttr, h1, h5]) (by simp only [go_sem, simprocAttr, h1, h5]; exact rfl) (by simp only [go_sem, simprocAttr, h1, h5])
 simp only [List.drop_succ_cons, List.drop_zero]
 try simp only [go_sem, simprocAttr, h1, h5] at hL
 try clear h1 h5
 have h1 := hL
 clear hL
 have h11 := hP
 clear hP
 try simp only [go_sem, simprocAttr, h1, h11]
 repeat' (refine And.intro (by first | rfl | omega | (simp; done)) ?_)
 refine awpS_live [1, 12] fun ρ hL => ?_
 try simp only [go_sem, simprocAttr, h1, h11] at hL
 try clear h1 h11
 obtain ⟨h1, h12⟩ := hL
 refine grp_andN (tc := 12) (tv := 18) (td := 19) (v := ?v2) 6 rfl [1] h12 rfl (fun hb K1 hK1 => ?run) (fun hb => ?skip) (fun ρ hP hL => ?_)
 case skip =>
  exact awpS_skip (want := true) (b := _) (by rw [hb]; rfl) _ [] ρ h12 (fun _ _ => rfl) (by simp) rfl
 case run =>
  simp only [List.take_succ_cons, List.take_zero]
  rw [hb] at h12
  try simp only [go_sem, simprocAttr, h1, h12]
  repeat' (refine And.intro (by first | rfl | omega | (simp; done)) ?_)
  exact hK1 _ (by simp only [go_sem, simprocAttr, h1, h12]) (by simp only [go_sem, simprocAttr, h1, h12]; exact rfl) (by simp only [go_sem, simprocAttr, h1, h12])
 simp only [List.drop_succ_cons, List.drop_zero]
 try simp only [go_sem, simprocAttr, h1, h12] at hL
 try clear h1 h12
 have h1 := hL
 clear hL
 have h19 := hP
 clear hP
 try simp only [go_sem, simprocAttr, h1, h19]
 repeat' (refine And.intro (by first | rfl | omega | (simp; done)) ?_)
 refine awpS_live [1, 20] fun ρ hL => ?_
 try simp only [go_sem, simprocAttr, h1, h19] at hL
 try clear h1 h19
 obtain ⟨h1, h20⟩ := hL
 refine grp_andN (tc := 20) (tv := 26) (td := 27) (v := ?v3) 6 rfl [1] h20 rfl (fun hb K1 hK1 => ?run) (fun hb => ?skip) (fun ρ hP hL => ?_)
 case skip =>
  exact awpS_skip (want := true) (b := _) (by rw [hb]; rfl) _ [] ρ h20 (fun _ _ => rfl) (by simp) rfl
 case run =>
  simp only [List.take_succ_cons, List.take_zero]
  rw [hb] at h20
  try simp only [go_sem, simprocAttr, h1, h20]
  repeat' (refine And.intro (by first | rfl | omega | (simp; done)) ?_)
  exact hK1 _ (by simp only [go_sem, simprocAttr, h1, h20]) (by simp only [go_sem, simprocAttr, h1, h20]; exact rfl) (by simp only [go_sem, simprocAttr, h1, h20])
 simp only [List.drop_succ_cons, List.drop_zero]
 try simp only [go_sem, simprocAttr, h1, h20] at hL
 try clear h1 h20
 have h1 := hL
 clear hL
 have h27 := hP
 clear hP
 try simp only [go_sem, simprocAttr, h1, h27]
 repeat' (refine And.intro (by first | rfl | omega | (simp; done)) ?_)
 refine awpS_live [1, 28] fun ρ hL => ?_
 try simp only [go_sem, simprocAttr, h1, h27] at hL
 try clear h1 h27
 obtain ⟨h1, h28⟩ := hL
 refine grp_andN (tc := 28) (tv := 31) (td := 32) (v := ?v4) 3 rfl [] h28 rfl (fun hb K1 hK1 => ?run) (fun hb => ?skip) (fun ρ hP hL => ?_)
 case skip =>
  exact awpS_skip (want := true) (b := _) (by rw [hb]; rfl) _ [] ρ h28 (fun _ _ => rfl) (by simp) rfl
 case run =>
  simp only [List.take_succ_cons, List.take_zero]
  rw [hb] at h28
  try simp only [go_sem, simprocAttr, h1, h28]
  repeat' (refine And.intro (by first | rfl | omega | (simp; done)) ?_)
  refine opS_call_ro rfl (sat_spec_l1In ?_ ?_ ?_) ?ha ?hv ?hh ?_
  case ha => simp only [go_sem, simprocAttr, h1, h28]; first | done | rfl
  case hv => first | rfl | (simp only [go_sem]; done)
  case hh => first | rfl | (simp only [go_sem]; done)
  try simp only [go_sem, simprocAttr, h1, h28]
  repeat' (refine And.intro (by first | rfl | omega | (simp; done)) ?_)
  exact hK1 _ (by simp only [go_sem, simprocAttr, h1, h28]) (by simp only [go_sem, simprocAttr, h1, h28]; exact rfl) (by simp only [go_sem, simprocAttr, h1, h28])
 simp only [List.drop_succ_cons, List.drop_zero]
 clear hL h1 h28
 have h32 := hP
 clear hP
 try simp only [go_sem, simprocAttr, h32]
 repeat' (refine And.intro (by first | rfl | omega | (simp; done)) ?_)
 refine hK _ _ (.mk (awl_live' [2] fun ρ hL => ?_))
 try simp only [go_sem, simprocAttr, h32] at hL
 try clear h32
 have h2 := hL
 clear hL
 clear hK K
 refine awl_ret ?_
 refine ret0 (by simp only [go_sem, simprocAttr, h2]; exact rfl) ?_
 try simp only [go_sem, simprocAttr]
 all_goals (rw [sealer_eq] <;> rfl)
set_option maxHeartbeats 8000000 in
set_option maxRecDepth 100000 in
theorem sat_impl_seals (w : Word)  : Sat Tryz.prog 129 [.agg w.cells] [] (.bool (sealer w)) [] := by
 refine sat_mk [.tmp 2] 0 33 Tryz.call129 Tryz.func129 Tryz.ntmps129 rfl rfl rfl rfl rfl ?_
 refine awl_live' [0] fun ρ hL => ?_
 try simp only [go_sem, simprocAttr] at hL
 have h0 := hL
 clear hL
 refine awl_seq ?_
 refine awl_regS _ rfl fun K hK => ?_
 try simp only [go_sem, simprocAttr, h0]
 repeat' (refine And.intro (by first | rfl | omega | (simp; done)) ?_)
 refine hK _ _ (.mk (awl_live' [1] fun ρ hL => ?_))
 try simp only [go_sem, simprocAttr, h0] at hL
 try clear h0
 have h1 := hL
 clear hL
 clear hK K
 refine awl_seq ?_
 refine awl_regS _ rfl fun K hK => ?_
 try simp only [go_sem, simprocAttr, h1]
 repeat' (refine And.intro (by first | rfl | omega | (simp; done)) ?_)
 refine opS_call_ro rfl (sat_impl_open ?_) ?ha ?hv ?hh ?_
 case ha => simp only [go_sem, simprocAttr, h1]; first | done | rfl
 case hv => first | rfl | (simp only [go_sem]; done)
 case hh => first | rfl | (simp only [go_sem]; done)
 try simp only [go_sem, simprocAttr, h1]
 repeat' (refine And.intro (by first | rfl | omega | (simp; done)) ?_)
 refine awpS_live [1, 5] fun ρ hL => ?_
 try simp only [go_sem, simprocAttr, h1] at hL
 try clear h1
 obtain ⟨h1, h5⟩ := hL
 refine grp_andN (tc := 5) (tv := 10) (td := 11) (v := ?v1) 5 rfl [1] h5 rfl (fun hb K1 hK1 => ?run) (fun hb => ?skip) (fun ρ hP hL => ?_)
 case skip =>
  exact awpS_skip (want := true) (b := _) (by rw [hb]; rfl) _ [] ρ h5 (fun _ _ => rfl) (by simp) rfl
 case run =>
  simp only [List.take_succ_cons, List.take_zero]
  rw [hb] at h5
  try simp only [go_sem, simprocAttr, h1, h5]
  repeat' (refine And.intro (by first | rfl | omega | (simp; done)) ?_)
  exact hK1 _ (by simp only [go_sem, simprocAttr, h1, h5]) (by simp only [go_sem, simprocAttr, h1, h5]; exact rfl) (by simp only [go_sem, simprocAttr, h1, h5])
 simp only [List.drop_succ_cons, List.drop_zero]
 try simp only [go_sem, simprocAttr, h1, h5] at hL
 try clear h1 h5
 have h1 := hL
 clear hL
 have h11 := hP
 clear hP
 try simp only [go_sem, simprocAttr, h1, h11]
 repeat' (refine And.intro (by first | rfl | omega | (simp; done)) ?_)
 refine awpS_live [1, 12] fun ρ hL => ?_
 try simp only [go_sem, simprocAttr, h1, h11] at hL
 try clear h1 h11
 obtain ⟨h1, h12⟩ := hL
 refine grp_andN (tc := 12) (tv := 18) (td := 19) (v := ?v2) 6 rfl [1] h12 rfl (fun hb K1 hK1 => ?run) (fun hb => ?skip) (fun ρ hP hL => ?_)
 case skip =>
  exact awpS_skip (want := true) (b := _) (by rw [hb]; rfl) _ [] ρ h12 (fun _ _ => rfl) (by simp) rfl
 case run =>
  simp only [List.take_succ_cons, List.take_zero]
  rw [hb] at h12
  try simp only [go_sem, simprocAttr, h1, h12]
  repeat' (refine And.intro (by first | rfl | omega | (simp; done)) ?_)
  exact hK1 _ (by simp only [go_sem, simprocAttr, h1, h12]) (by simp only [go_sem, simprocAttr, h1, h12]; exact rfl) (by simp only [go_sem, simprocAttr, h1, h12])
 simp only [List.drop_succ_cons, List.drop_zero]
 try simp only [go_sem, simprocAttr, h1, h12] at hL
 try clear h1 h12
 have h1 := hL
 clear hL
 have h19 := hP
 clear hP
 try simp only [go_sem, simprocAttr, h1, h19]
 repeat' (refine And.intro (by first | rfl | omega | (simp; done)) ?_)
 refine awpS_live [1, 20] fun ρ hL => ?_
 try simp only [go_sem, simprocAttr, h1, h19] at hL
 try clear h1 h19
 obtain ⟨h1, h20⟩ := hL
 refine grp_andN (tc := 20) (tv := 26) (td := 27) (v := ?v3) 6 rfl [1] h20 rfl (fun hb K1 hK1 => ?run) (fun hb => ?skip) (fun ρ hP hL => ?_)
 case skip =>
  exact awpS_skip (want := true) (b := _) (by rw [hb]; rfl) _ [] ρ h20 (fun _ _ => rfl) (by simp) rfl
 case run =>
  simp only [List.take_succ_cons, List.take_zero]
  rw [hb] at h20
  try simp only [go_sem, simprocAttr, h1, h20]
  repeat' (refine And.intro (by first | rfl | omega | (simp; done)) ?_)
  exact hK1 _ (by simp only [go_sem, simprocAttr, h1, h20]) (by simp only [go_sem, simprocAttr, h1, h20]; exact rfl) (by simp only [go_sem, simprocAttr, h1, h20])
 simp only [List.drop_succ_cons, List.drop_zero]
 try simp only [go_sem, simprocAttr, h1, h20] at hL
 try clear h1 h20
 have h1 := hL
 clear hL
 have h27 := hP
 clear hP
 try simp only [go_sem, simprocAttr, h1, h27]
 repeat' (refine And.intro (by first | rfl | omega | (simp; done)) ?_)
 refine awpS_live [1, 28] fun ρ hL => ?_
 try simp only [go_sem, simprocAttr, h1, h27] at hL
 try clear h1 h27
 obtain ⟨h1, h28⟩ := hL
 refine grp_andN (tc := 28) (tv := 31) (td := 32) (v := ?v4) 3 rfl [] h28 rfl (fun hb K1 hK1 => ?run) (fun hb => ?skip) (fun ρ hP hL => ?_)
 case skip =>
  exact awpS_skip (want := true) (b := _) (by rw [hb]; rfl) _ [] ρ h28 (fun _ _ => rfl) (by simp) rfl
 case run =>
  simp only [List.take_succ_cons, List.take_zero]
  rw [hb] at h28
  try simp only [go_sem, simprocAttr, h1, h28]
  repeat' (refine And.intro (by first | rfl | omega | (simp; done)) ?_)
  refine opS_call_ro rfl (sat_impl_in ?_ ?_ ?_) ?ha ?hv ?hh ?_
  case ha => simp only [go_sem, simprocAttr, h1, h28]; first | done | rfl
  case hv => first | rfl | (simp only [go_sem]; done)
  case hh => first | rfl | (simp only [go_sem]; done)
  try simp only [go_sem, simprocAttr, h1, h28]
  repeat' (refine And.intro (by first | rfl | omega | (simp; done)) ?_)
  exact hK1 _ (by simp only [go_sem, simprocAttr, h1, h28]) (by simp only [go_sem, simprocAttr, h1, h28]; exact rfl) (by simp only [go_sem, simprocAttr, h1, h28])
 simp only [List.drop_succ_cons, List.drop_zero]
 clear hL h1 h28
 have h32 := hP
 clear hP
 try simp only [go_sem, simprocAttr, h32]
 repeat' (refine And.intro (by first | rfl | omega | (simp; done)) ?_)
 refine hK _ _ (.mk (awl_live' [2] fun ρ hL => ?_))
 try simp only [go_sem, simprocAttr, h32] at hL
 try clear h32
 have h2 := hL
 clear hL
 clear hK K
 refine awl_ret ?_
 refine ret0 (by simp only [go_sem, simprocAttr, h2]; exact rfl) ?_
 try simp only [go_sem, simprocAttr]
 all_goals (rw [sealer_eq] <;> rfl)
set_option maxHeartbeats 8000000 in
set_option maxRecDepth 100000 in
theorem sat_spec_SealBy (w : Word) (by_ : Word)  : Sat Tryz.prog 92 [.agg w.cells, .agg by_.cells] [] (.agg (Word.cells (sealBy w by_))) [] := by
 refine sat_mk [.cell 4 38] 0 20 Tryz.call92 Tryz.func92 Tryz.ntmps92 rfl rfl rfl rfl rfl ?_
 refine awl_live' [0, 1] fun ρ hL => ?_
 try simp only [go_sem, simprocAttr] at hL
 obtain ⟨h0, h1⟩ := hL
 refine awl_seq ?_
 refine awl_regS _ rfl fun K hK => ?_
 try simp only [go_sem, simprocAttr, h0, h1]
 repeat' (refine And.intro (by first | rfl | omega | (simp; done)) ?_)
 refine hK _ _ (.mk (awl_live' [2, 3, 4] fun ρ hL => ?_))
 try simp only [go_sem, simprocAttr, h0, h1] at hL
 try clear h0 h1
 obtain ⟨h2, h3, h4⟩ := hL
 clear hK K
 refine awl_seq ?_
 refine awl_seq ?_
 refine awl_regS _ rfl fun K hK => ?_
 try simp only [go_sem, simprocAttr, h2, h3, h4]
 repeat' (refine And.intro (by first | rfl | omega | (simp; done)) ?_)
 refine opS_call_ro rfl (sat_spec_l4Open ?_) ?ha ?hv ?hh ?_
 case ha => simp only [go_sem, simprocAttr, h2, h3, h4]; first | done | rfl
 case hv => first | rfl | (simp only [go_sem]; done)
 case hh => first | rfl | (simp only [go_sem]; done)
 try simp only [go_sem, simprocAttr, h2, h3, h4]
 repeat' (refine And.intro (by first | rfl | omega | (simp; done)) ?_)
 refine awpS_live [2, 3, 4, 8] fun ρ hL => ?_
 try simp only [go_sem, simprocAttr, h2, h3, h4] at hL
 try clear h2 h3 h4
 obtain ⟨h2, h3, h4, h8⟩ := hL
 refine grp_orN (tc := 8) (tv := 11) (td := 12) (v := ?v1) 3 rfl [2, 3, 4] h8 rfl (fun hb K1 hK1 => ?run) (fun hb => ?skip) (fun ρ hP hL => ?_)
 case skip =>
  exact awpS_skip (want := false) (b := _) (by rw [hb]; rfl) _ [] ρ h8 (fun _ _ => rfl) (by simp) rfl
 case run =>
  simp only [List.take_succ_cons, List.take_zero]
  rw [hb] at h8
  try simp only [go_sem, simprocAttr, h2, h3, h4, h8]
  repeat' (refine And.intro (by first | rfl | omega | (simp; done)) ?_)
  refine opS_call_ro rfl (sat_spec_l4Sealer ?_) ?ha ?hv ?hh ?_
  case ha => simp only [go_sem, simprocAttr, h2, h3, h4, h8]; first | done | rfl
  case hv => first | rfl | (simp only [go_sem]; done)
  case hh => first | rfl | (simp only [go_sem]; done)
  try simp only [go_sem, simprocAttr, h2, h3, h4, h8]
  repeat' (refine And.intro (by first | rfl | omega | (simp; done)) ?_)
  exact hK1 _ (by simp only [go_sem, simprocAttr, h2, h3, h4, h8]) (by simp only [go_sem, simprocAttr, h2, h3, h4, h8]; exact rfl) (by simp only [go_sem, simprocAttr, h2, h3, h4, h8])
 simp only [List.drop_succ_cons, List.drop_zero]
 try simp only [go_sem, simprocAttr, h2, h3, h4, h8] at hL
 try clear h2 h3 h4 h8
 obtain ⟨h2, h3, h4⟩ := hL
 have h12 := hP
 clear hP
 try simp only [go_sem, simprocAttr, h2, h3, h4, h12]
 repeat' (refine And.intro (by first | rfl | omega | (simp; done)) ?_)
 refine hK _ _ (.mk (awl_live' [2, 3, 4, 12] fun ρ hL => ?_))
 try simp only [go_sem, simprocAttr, h2, h3, h4, h12] at hL
 try clear h2 h3 h4 h12
 obtain ⟨h2, h3, h4, h12⟩ := hL
 clear hK K
 refine awl_cond h12 (fun c1 => ?_) (fun c1 => ?_)
 ·
  try simp only [cnd] at c1
  refine awl_seq ?_
  refine awl_regS _ rfl fun K hK => ?_
  try simp only [go_sem, simprocAttr, h2, h3, h4, h12]
  repeat' (refine And.intro (by first | rfl | omega | (simp; done)) ?_)
  refine opS_call_ro rfl (sat_spec_Bare ?_) ?ha ?hv ?hh ?_
  case ha => simp only [go_sem, simprocAttr, h2, h3, h4, h12]; first | done | rfl
  case hv => first | rfl | (simp only [go_sem]; done)
  case hh => first | rfl | (simp only [go_sem]; done)
  try simp only [go_sem, simprocAttr, h2, h3, h4, h12]
  repeat' (refine And.intro (by first | rfl | omega | (simp; done)) ?_)
  refine hK _ _ (.mk (awl_live' [4] fun ρ hL => ?_))
  try simp only [go_sem, simprocAttr, h2, h3, h4, h12] at hL
  try clear h2 h3 h4 h12
  have h4 := hL
  clear hL
  clear hK K
  refine awl_ret ?_
  refine ret0 (by simp only [go_sem, simprocAttr, h4]; exact rfl) ?_
  try simp only [go_sem, simprocAttr]
  all_goals (rw [sealBy, if_neg (by rintro ⟨a, b⟩; rw [a, b] at c1; simp at c1)] <;> simp only [bare, plain, low, noKey])
 ·
  try simp only [cnd] at c1
  refine awl_skip ?_
  refine awl_seq ?_
  refine awl_regS _ rfl fun K hK => ?_
  try simp only [go_sem, simprocAttr, h2, h3, h4, h12]
  repeat' (refine And.intro (by first | rfl | omega | (simp; done)) ?_)
  refine hK _ _ (.mk (awl_live' [2, 4] fun ρ hL => ?_))
  try simp only [go_sem, simprocAttr, h2, h3, h4, h12] at hL
  try clear h2 h3 h4 h12
  obtain ⟨h2, h4⟩ := hL
  clear hK K
  refine awl_seq ?_
  refine awl_regS _ rfl fun K hK => ?_
  try simp only [go_sem, simprocAttr, h2, h4]
  repeat' (refine And.intro (by first | rfl | omega | (simp; done)) ?_)
  refine hK _ _ (.mk (awl_live' [4] fun ρ hL => ?_))
  try simp only [go_sem, simprocAttr, h2, h4] at hL
  try clear h2 h4
  have h4 := hL
  clear hL
  clear hK K
  refine awl_ret ?_
  refine ret0 (by simp only [go_sem, simprocAttr, h4]; exact rfl) ?_
  try simp only [go_sem, simprocAttr]
  all_goals (rw [sealBy, if_pos c1] <;> rfl)
set_option maxHeartbeats 8000000 in
set_option maxRecDepth 100000 in
theorem sat_impl_SealBy (w : Word) (by_ : Word)  : Sat Tryz.prog 122 [.agg w.cells, .agg by_.cells] [] (.agg (Word.cells (sealBy w by_))) [] := by
 refine sat_mk [.cell 4 38] 0 20 Tryz.call122 Tryz.func122 Tryz.ntmps122 rfl rfl rfl rfl rfl ?_
 refine awl_live' [0, 1] fun ρ hL => ?_
 try simp only [go_sem, simprocAttr] at hL
 obtain ⟨h0, h1⟩ := hL
 refine awl_seq ?_
 refine awl_regS _ rfl fun K hK => ?_
 try simp only [go_sem, simprocAttr, h0, h1]
 repeat' (refine And.intro (by first | rfl | omega | (simp; done)) ?_)
 refine hK _ _ (.mk (awl_live' [2, 3, 4] fun ρ hL => ?_))
 try simp only [go_sem, simprocAttr, h0, h1] at hL
 try clear h0 h1
 obtain ⟨h2, h3, h4⟩ := hL
 clear hK K
 refine awl_seq ?_
 refine awl_seq ?_
 refine awl_regS _ rfl fun K hK => ?_
 try simp only [go_sem, simprocAttr, h2, h3, h4]
 repeat' (refine And.intro (by first | rfl | omega | (simp; done)) ?_)
 refine opS_call_ro rfl (sat_impl_open ?_) ?ha ?hv ?hh ?_
 case ha => simp only [go_sem, simprocAttr, h2, h3, h4]; first | done | rfl
 case hv => first | rfl | (simp only [go_sem]; done)
 case hh => first | rfl | (simp only [go_sem]; done)
 try simp only [go_sem, simprocAttr, h2, h3, h4]
 repeat' (refine And.intro (by first | rfl | omega | (simp; done)) ?_)
 refine awpS_live [2, 3, 4, 8] fun ρ hL => ?_
 try simp only [go_sem, simprocAttr, h2, h3, h4] at hL
 try clear h2 h3 h4
 obtain ⟨h2, h3, h4, h8⟩ := hL
 refine grp_orN (tc := 8) (tv := 11) (td := 12) (v := ?v1) 3 rfl [2, 3, 4] h8 rfl (fun hb K1 hK1 => ?run) (fun hb => ?skip) (fun ρ hP hL => ?_)
 case skip =>
  exact awpS_skip (want := false) (b := _) (by rw [hb]; rfl) _ [] ρ h8 (fun _ _ => rfl) (by simp) rfl
 case run =>
  simp only [List.take_succ_cons, List.take_zero]
  rw [hb] at h8
  try simp only [go_sem, simprocAttr, h2, h3, h4, h8]
  repeat' (refine And.intro (by first | rfl | omega | (simp; done)) ?_)
  refine opS_call_ro rfl (sat_impl_seals ?_) ?ha ?hv ?hh ?_
  case ha => simp only [go_sem, simprocAttr, h2, h3, h4, h8]; first | done | rfl
  case hv => first | rfl | (simp only [go_sem]; done)
  case hh => first | rfl | (simp only [go_sem]; done)
  try simp only [go_sem, simprocAttr, h2, h3, h4, h8]
  repeat' (refine And.intro (by first | rfl | omega | (simp; done)) ?_)
  exact hK1 _ (by simp only [go_sem, simprocAttr, h2, h3, h4, h8]) (by simp only [go_sem, simprocAttr, h2, h3, h4, h8]; exact rfl) (by simp only [go_sem, simprocAttr, h2, h3, h4, h8])
 simp only [List.drop_succ_cons, List.drop_zero]
 try simp only [go_sem, simprocAttr, h2, h3, h4, h8] at hL
 try clear h2 h3 h4 h8
 obtain ⟨h2, h3, h4⟩ := hL
 have h12 := hP
 clear hP
 try simp only [go_sem, simprocAttr, h2, h3, h4, h12]
 repeat' (refine And.intro (by first | rfl | omega | (simp; done)) ?_)
 refine hK _ _ (.mk (awl_live' [2, 3, 4, 12] fun ρ hL => ?_))
 try simp only [go_sem, simprocAttr, h2, h3, h4, h12] at hL
 try clear h2 h3 h4 h12
 obtain ⟨h2, h3, h4, h12⟩ := hL
 clear hK K
 refine awl_cond h12 (fun c1 => ?_) (fun c1 => ?_)
 ·
  try simp only [cnd] at c1
  refine awl_seq ?_
  refine awl_regS _ rfl fun K hK => ?_
  try simp only [go_sem, simprocAttr, h2, h3, h4, h12]
  repeat' (refine And.intro (by first | rfl | omega | (simp; done)) ?_)
  refine opS_call_ro rfl (sat_impl_Bare ?_) ?ha ?hv ?hh ?_
  case ha => simp only [go_sem, simprocAttr, h2, h3, h4, h12]; first | done | rfl
  case hv => first | rfl | (simp only [go_sem]; done)
  case hh => first | rfl | (simp only [go_sem]; done)
  try simp only [go_sem, simprocAttr, h2, h3, h4, h12]
  repeat' (refine And.intro (by first | rfl | omega | (simp; done)) ?_)
  refine hK _ _ (.mk (awl_live' [4] fun ρ hL => ?_))
  try simp only [go_sem, simprocAttr, h2, h3, h4, h12] at hL
  try clear h2 h3 h4 h12
  have h4 := hL
  clear hL
  clear hK K
  refine awl_ret ?_
  refine ret0 (by simp only [go_sem, simprocAttr, h4]; exact rfl) ?_
  try simp only [go_sem, simprocAttr]
  all_goals (rw [sealBy, if_neg (by rintro ⟨a, b⟩; rw [a, b] at c1; simp at c1)] <;> simp only [bare, plain, low, noKey])
 ·
  try simp only [cnd] at c1
  refine awl_skip ?_
  refine awl_seq ?_
  refine awl_regS _ rfl fun K hK => ?_
  try simp only [go_sem, simprocAttr, h2, h3, h4, h12]
  repeat' (refine And.intro (by first | rfl | omega | (simp; done)) ?_)
  refine hK _ _ (.mk (awl_live' [2, 4] fun ρ hL => ?_))
  try simp only [go_sem, simprocAttr, h2, h3, h4, h12] at hL
  try clear h2 h3 h4 h12
  obtain ⟨h2, h4⟩ := hL
  clear hK K
  refine awl_seq ?_
  refine awl_regS _ rfl fun K hK => ?_
  try simp only [go_sem, simprocAttr, h2, h4]
  repeat' (refine And.intro (by first | rfl | omega | (simp; done)) ?_)
  refine hK _ _ (.mk (awl_live' [4] fun ρ hL => ?_))
  try simp only [go_sem, simprocAttr, h2, h4] at hL
  try clear h2 h4
  have h4 := hL
  clear hL
  clear hK K
  refine awl_ret ?_
  refine ret0 (by simp only [go_sem, simprocAttr, h4]; exact rfl) ?_
  try simp only [go_sem, simprocAttr]
  all_goals (rw [sealBy, if_pos c1] <;> rfl)
set_option maxHeartbeats 8000000 in
set_option maxRecDepth 100000 in
theorem sat_spec_OpenBy (w : Word) (by_ : Word)  : Sat Tryz.prog 93 [.agg w.cells, .agg by_.cells] [] (.agg (Word.cells (openBy w by_))) [] := by
 refine sat_mk [.cell 4 38] 0 31 Tryz.call93 Tryz.func93 Tryz.ntmps93 rfl rfl rfl rfl rfl ?_
 refine awl_live' [0, 1] fun ρ hL => ?_
 try simp only [go_sem, simprocAttr] at hL
 obtain ⟨h0, h1⟩ := hL
 refine awl_seq ?_
 refine awl_regS _ rfl fun K hK => ?_
 try simp only [go_sem, simprocAttr, h0, h1]
 repeat' (refine And.intro (by first | rfl | omega | (simp; done)) ?_)
 refine hK _ _ (.mk (awl_live' [2, 3, 4] fun ρ hL => ?_))
 try simp only [go_sem, simprocAttr, h0, h1] at hL
 try clear h0 h1
 obtain ⟨h2, h3, h4⟩ := hL
 clear hK K
 refine awl_seq ?_
 refine awl_seq ?_
 refine awl_regS _ rfl fun K hK => ?_
 try simp only [go_sem, simprocAttr, h2, h3, h4]
 repeat' (refine And.intro (by first | rfl | omega | (simp; done)) ?_)
 refine opS_call_ro rfl (sat_spec_WordOk ?_) ?ha ?hv ?hh ?_
 case ha => simp only [go_sem, simprocAttr, h2, h3, h4]; first | done | rfl
 case hv => first | rfl | (simp only [go_sem]; done)
 case hh => first | rfl | (simp only [go_sem]; done)
 try simp only [go_sem, simprocAttr, h2, h3, h4]
 repeat' (refine And.intro (by first | rfl | omega | (simp; done)) ?_)
 refine awpS_live [2, 3, 4, 8] fun ρ hL => ?_
 try simp only [go_sem, simprocAttr, h2, h3, h4] at hL
 try clear h2 h3 h4
 obtain ⟨h2, h3, h4, h8⟩ := hL
 refine grp_orN (tc := 8) (tv := 11) (td := 12) (v := ?v1) 3 rfl [2, 3, 4] h8 rfl (fun hb K1 hK1 => ?run) (fun hb => ?skip) (fun ρ hP hL => ?_)
 case skip =>
  exact awpS_skip (want := false) (b := _) (by rw [hb]; rfl) _ [] ρ h8 (fun _ _ => rfl) (by simp) rfl
 case run =>
  simp only [List.take_succ_cons, List.take_zero]
  rw [hb] at h8
  try simp only [go_sem, simprocAttr, h2, h3, h4, h8]
  repeat' (refine And.intro (by first | rfl | omega | (simp; done)) ?_)
  exact hK1 _ (by simp only [go_sem, simprocAttr, h2, h3, h4, h8]) (by simp only [go_sem, simprocAttr, h2, h3, h4, h8]; exact rfl) (by simp only [go_sem, simprocAttr, h2, h3, h4, h8])
 simp only [List.drop_succ_cons, List.drop_zero]
 try simp only [go_sem, simprocAttr, h2, h3, h4, h8] at hL
 try clear h2 h3 h4 h8
 obtain ⟨h2, h3, h4⟩ := hL
 have h12 := hP
 clear hP
 try simp only [go_sem, simprocAttr, h2, h3, h4, h12]
 repeat' (refine And.intro (by first | rfl | omega | (simp; done)) ?_)
 refine awpS_live [2, 3, 4, 13] fun ρ hL => ?_
 try simp only [go_sem, simprocAttr, h2, h3, h4, h12] at hL
 try clear h2 h3 h4 h12
 obtain ⟨h2, h3, h4, h13⟩ := hL
 refine grp_orN (tc := 13) (tv := 16) (td := 17) (v := ?v2) 3 rfl [2, 3, 4] h13 rfl (fun hb K1 hK1 => ?run) (fun hb => ?skip) (fun ρ hP hL => ?_)
 case skip =>
  exact awpS_skip (want := false) (b := _) (by rw [hb]; rfl) _ [] ρ h13 (fun _ _ => rfl) (by simp) rfl
 case run =>
  simp only [List.take_succ_cons, List.take_zero]
  rw [hb] at h13
  try simp only [go_sem, simprocAttr, h2, h3, h4, h13]
  repeat' (refine And.intro (by first | rfl | omega | (simp; done)) ?_)
  refine opS_call_ro rfl (sat_spec_l4Sealer ?_) ?ha ?hv ?hh ?_
  case ha => simp only [go_sem, simprocAttr, h2, h3, h4, h13]; first | done | rfl
  case hv => first | rfl | (simp only [go_sem]; done)
  case hh => first | rfl | (simp only [go_sem]; done)
  try simp only [go_sem, simprocAttr, h2, h3, h4, h13]
  repeat' (refine And.intro (by first | rfl | omega | (simp; done)) ?_)
  exact hK1 _ (by simp only [go_sem, simprocAttr, h2, h3, h4, h13]) (by simp only [go_sem, simprocAttr, h2, h3, h4, h13]; exact rfl) (by simp only [go_sem, simprocAttr, h2, h3, h4, h13])
 simp only [List.drop_succ_cons, List.drop_zero]
 try simp only [go_sem, simprocAttr, h2, h3, h4, h13] at hL
 try clear h2 h3 h4 h13
 obtain ⟨h2, h3, h4⟩ := hL
 have h17 := hP
 clear hP
 try simp only [go_sem, simprocAttr, h2, h3, h4, h17]
 repeat' (refine And.intro (by first | rfl | omega | (simp; done)) ?_)
 refine awpS_live [2, 3, 4, 18] fun ρ hL => ?_
 try simp only [go_sem, simprocAttr, h2, h3, h4, h17] at hL
 try clear h2 h3 h4 h17
 obtain ⟨h2, h3, h4, h18⟩ := hL
 refine grp_orN (tc := 18) (tv := 24) (td := 25) (v := ?v3) 6 rfl [2, 4] h18 rfl (fun hb K1 hK1 => ?run) (fun hb => ?skip) (fun ρ hP hL => ?_)
 case skip =>
  exact awpS_skip (want := false) (b := _) (by rw [hb]; rfl) _ [] ρ h18 (fun _ _ => rfl) (by simp) rfl
 case run =>
  simp only [List.take_succ_cons, List.take_zero]
  rw [hb] at h18
  try simp only [go_sem, simprocAttr, h2, h3, h4, h18]
  repeat' (refine And.intro (by first | rfl | omega | (simp; done)) ?_)
  exact hK1 _ (by simp only [go_sem, simprocAttr, h2, h3, h4, h18]) (by simp only [go_sem, simprocAttr, h2, h3, h4, h18]; exact rfl) (by simp only [go_sem, simprocAttr, h2, h3, h4, h18])
 simp only [List.drop_succ_cons, List.drop_zero]
 try simp only [go_sem, simprocAttr, h2, h3, h4, h18] at hL
 try clear h2 h3 h4 h18
 obtain ⟨h2, h4⟩ := hL
 have h25 := hP
 clear hP
 try simp only [go_sem, simprocAttr, h2, h4, h25]
 repeat' (refine And.intro (by first | rfl | omega | (simp; done)) ?_)
 refine hK _ _ (.mk (awl_live' [2, 4, 25] fun ρ hL => ?_))
 try simp only [go_sem, simprocAttr, h2, h4, h25] at hL
 try clear h2 h4 h25
 obtain ⟨h2, h4, h25⟩ := hL
 clear hK K
 refine awl_cond h25 (fun c1 => ?_) (fun c1 => ?_)
 ·
  try simp only [cnd] at c1
  refine awl_seq ?_
  refine awl_regS _ rfl fun K hK => ?_
  try simp only [go_sem, simprocAttr, h2, h4, h25]
  repeat' (refine And.intro (by first | rfl | omega | (simp; done)) ?_)
  refine opS_call_ro rfl (sat_spec_Bare ?_) ?ha ?hv ?hh ?_
  case ha => simp only [go_sem, simprocAttr, h2, h4, h25]; first | done | rfl
  case hv => first | rfl | (simp only [go_sem]; done)
  case hh => first | rfl | (simp only [go_sem]; done)
  try simp only [go_sem, simprocAttr, h2, h4, h25]
  repeat' (refine And.intro (by first | rfl | omega | (simp; done)) ?_)
  refine hK _ _ (.mk (awl_live' [4] fun ρ hL => ?_))
  try simp only [go_sem, simprocAttr, h2, h4, h25] at hL
  try clear h2 h4 h25
  have h4 := hL
  clear hL
  clear hK K
  refine awl_ret ?_
  refine ret0 (by simp only [go_sem, simprocAttr, h4]; exact rfl) ?_
  try simp only [go_sem, simprocAttr]
  all_goals (rw [openBy, if_neg (by rintro ⟨a, b, d, e⟩; rw [a, b, d, e] at c1; simp at c1)] <;> simp only [bare, plain, low, noKey])
 ·
  try simp only [cnd] at c1
  refine awl_skip ?_
  refine awl_seq ?_
  refine awl_regS _ rfl fun K hK => ?_
  try simp only [go_sem, simprocAttr, h2, h4, h25]
  repeat' (refine And.intro (by first | rfl | omega | (simp; done)) ?_)
  refine hK _ _ (.mk (awl_live' [2, 4] fun ρ hL => ?_))
  try simp only [go_sem, simprocAttr, h2, h4, h25] at hL
  try clear h2 h4 h25
  obtain ⟨h2, h4⟩ := hL
  clear hK K
  refine awl_seq ?_
  refine awl_regS _ rfl fun K hK => ?_
  try simp only [go_sem, simprocAttr, h2, h4]
  repeat' (refine And.intro (by first | rfl | omega | (simp; done)) ?_)
  refine hK _ _ (.mk (awl_live' [4] fun ρ hL => ?_))
  try simp only [go_sem, simprocAttr, h2, h4] at hL
  try clear h2 h4
  have h4 := hL
  clear hL
  clear hK K
  refine awl_ret ?_
  refine ret0 (by simp only [go_sem, simprocAttr, h4]; exact rfl) ?_
  try simp only [go_sem, simprocAttr]
  all_goals (rw [openBy, if_pos ⟨c1.1.1.1, c1.1.1.2, c1.1.2, by omega⟩] <;> rfl)
set_option maxHeartbeats 8000000 in
set_option maxRecDepth 100000 in
theorem sat_impl_OpenBy (w : Word) (by_ : Word)  : Sat Tryz.prog 123 [.agg w.cells, .agg by_.cells] [] (.agg (Word.cells (openBy w by_))) [] := by
 refine sat_mk [.cell 4 38] 0 31 Tryz.call123 Tryz.func123 Tryz.ntmps123 rfl rfl rfl rfl rfl ?_
 refine awl_live' [0, 1] fun ρ hL => ?_
 try simp only [go_sem, simprocAttr] at hL
 obtain ⟨h0, h1⟩ := hL
 refine awl_seq ?_
 refine awl_regS _ rfl fun K hK => ?_
 try simp only [go_sem, simprocAttr, h0, h1]
 repeat' (refine And.intro (by first | rfl | omega | (simp; done)) ?_)
 refine hK _ _ (.mk (awl_live' [2, 3, 4] fun ρ hL => ?_))
 try simp only [go_sem, simprocAttr, h0, h1] at hL
 try clear h0 h1
 obtain ⟨h2, h3, h4⟩ := hL
 clear hK K
 refine awl_seq ?_
 refine awl_seq ?_
 refine awl_regS _ rfl fun K hK => ?_
 try simp only [go_sem, simprocAttr, h2, h3, h4]
 repeat' (refine And.intro (by first | rfl | omega | (simp; done)) ?_)
 refine opS_call_ro rfl (sat_impl_WordOk ?_) ?ha ?hv ?hh ?_
 case ha => simp only [go_sem, simprocAttr, h2, h3, h4]; first | done | rfl
 case hv => first | rfl | (simp only [go_sem]; done)
 case hh => first | rfl | (simp only [go_sem]; done)
 try simp only [go_sem, simprocAttr, h2, h3, h4]
 repeat' (refine And.intro (by first | rfl | omega | (simp; done)) ?_)
 refine awpS_live [2, 3, 4, 8] fun ρ hL => ?_
 try simp only [go_sem, simprocAttr, h2, h3, h4] at hL
 try clear h2 h3 h4
 obtain ⟨h2, h3, h4, h8⟩ := hL
 refine grp_orN (tc := 8) (tv := 11) (td := 12) (v := ?v1) 3 rfl [2, 3, 4] h8 rfl (fun hb K1 hK1 => ?run) (fun hb => ?skip) (fun ρ hP hL => ?_)
 case skip =>
  exact awpS_skip (want := false) (b := _) (by rw [hb]; rfl) _ [] ρ h8 (fun _ _ => rfl) (by simp) rfl
 case run =>
  simp only [List.take_succ_cons, List.take_zero]
  rw [hb] at h8
  try simp only [go_sem, simprocAttr, h2, h3, h4, h8]
  repeat' (refine And.intro (by first | rfl | omega | (simp; done)) ?_)
  exact hK1 _ (by simp only [go_sem, simprocAttr, h2, h3, h4, h8]) (by simp only [go_sem, simprocAttr, h2, h3, h4, h8]; exact rfl) (by simp only [go_sem, simprocAttr, h2, h3, h4, h8])
 simp only [List.drop_succ_cons, List.drop_zero]
 try simp only [go_sem, simprocAttr, h2, h3, h4, h8] at hL
 try clear h2 h3 h4 h8
 obtain ⟨h2, h3, h4⟩ := hL
 have h12 := hP
 clear hP
 try simp only [go_sem, simprocAttr, h2, h3, h4, h12]
 repeat' (refine And.intro (by first | rfl | omega | (simp; done)) ?_)
 refine awpS_live [2, 3, 4, 13] fun ρ hL => ?_
 try simp only [go_sem, simprocAttr, h2, h3, h4, h12] at hL
 try clear h2 h3 h4 h12
 obtain ⟨h2, h3, h4, h13⟩ := hL
 refine grp_orN (tc := 13) (tv := 16) (td := 17) (v := ?v2) 3 rfl [2, 3, 4] h13 rfl (fun hb K1 hK1 => ?run) (fun hb => ?skip) (fun ρ hP hL => ?_)
 case skip =>
  exact awpS_skip (want := false) (b := _) (by rw [hb]; rfl) _ [] ρ h13 (fun _ _ => rfl) (by simp) rfl
 case run =>
  simp only [List.take_succ_cons, List.take_zero]
  rw [hb] at h13
  try simp only [go_sem, simprocAttr, h2, h3, h4, h13]
  repeat' (refine And.intro (by first | rfl | omega | (simp; done)) ?_)
  refine opS_call_ro rfl (sat_impl_seals ?_) ?ha ?hv ?hh ?_
  case ha => simp only [go_sem, simprocAttr, h2, h3, h4, h13]; first | done | rfl
  case hv => first | rfl | (simp only [go_sem]; done)
  case hh => first | rfl | (simp only [go_sem]; done)
  try simp only [go_sem, simprocAttr, h2, h3, h4, h13]
  repeat' (refine And.intro (by first | rfl | omega | (simp; done)) ?_)
  exact hK1 _ (by simp only [go_sem, simprocAttr, h2, h3, h4, h13]) (by simp only [go_sem, simprocAttr, h2, h3, h4, h13]; exact rfl) (by simp only [go_sem, simprocAttr, h2, h3, h4, h13])
 simp only [List.drop_succ_cons, List.drop_zero]
 try simp only [go_sem, simprocAttr, h2, h3, h4, h13] at hL
 try clear h2 h3 h4 h13
 obtain ⟨h2, h3, h4⟩ := hL
 have h17 := hP
 clear hP
 try simp only [go_sem, simprocAttr, h2, h3, h4, h17]
 repeat' (refine And.intro (by first | rfl | omega | (simp; done)) ?_)
 refine awpS_live [2, 3, 4, 18] fun ρ hL => ?_
 try simp only [go_sem, simprocAttr, h2, h3, h4, h17] at hL
 try clear h2 h3 h4 h17
 obtain ⟨h2, h3, h4, h18⟩ := hL
 refine grp_orN (tc := 18) (tv := 24) (td := 25) (v := ?v3) 6 rfl [2, 4] h18 rfl (fun hb K1 hK1 => ?run) (fun hb => ?skip) (fun ρ hP hL => ?_)
 case skip =>
  exact awpS_skip (want := false) (b := _) (by rw [hb]; rfl) _ [] ρ h18 (fun _ _ => rfl) (by simp) rfl
 case run =>
  simp only [List.take_succ_cons, List.take_zero]
  rw [hb] at h18
  try simp only [go_sem, simprocAttr, h2, h3, h4, h18]
  repeat' (refine And.intro (by first | rfl | omega | (simp; done)) ?_)
  exact hK1 _ (by simp only [go_sem, simprocAttr, h2, h3, h4, h18]) (by simp only [go_sem, simprocAttr, h2, h3, h4, h18]; exact rfl) (by simp only [go_sem, simprocAttr, h2, h3, h4, h18])
 simp only [List.drop_succ_cons, List.drop_zero]
 try simp only [go_sem, simprocAttr, h2, h3, h4, h18] at hL
 try clear h2 h3 h4 h18
 obtain ⟨h2, h4⟩ := hL
 have h25 := hP
 clear hP
 try simp only [go_sem, simprocAttr, h2, h4, h25]
 repeat' (refine And.intro (by first | rfl | omega | (simp; done)) ?_)
 refine hK _ _ (.mk (awl_live' [2, 4, 25] fun ρ hL => ?_))
 try simp only [go_sem, simprocAttr, h2, h4, h25] at hL
 try clear h2 h4 h25
 obtain ⟨h2, h4, h25⟩ := hL
 clear hK K
 refine awl_cond h25 (fun c1 => ?_) (fun c1 => ?_)
 ·
  try simp only [cnd] at c1
  refine awl_seq ?_
  refine awl_regS _ rfl fun K hK => ?_
  try simp only [go_sem, simprocAttr, h2, h4, h25]
  repeat' (refine And.intro (by first | rfl | omega | (simp; done)) ?_)
  refine opS_call_ro rfl (sat_impl_Bare ?_) ?ha ?hv ?hh ?_
  case ha => simp only [go_sem, simprocAttr, h2, h4, h25]; first | done | rfl
  case hv => first | rfl | (simp only [go_sem]; done)
  case hh => first | rfl | (simp only [go_sem]; done)
  try simp only [go_sem, simprocAttr, h2, h4, h25]
  repeat' (refine And.intro (by first | rfl | omega | (simp; done)) ?_)
  refine hK _ _ (.mk (awl_live' [4] fun ρ hL => ?_))
  try simp only [go_sem, simprocAttr, h2, h4, h25] at hL
  try clear h2 h4 h25
  have h4 := hL
  clear hL
  clear hK K
  refine awl_ret ?_
  refine ret0 (by simp only [go_sem, simprocAttr, h4]; exact rfl) ?_
  try simp only [go_sem, simprocAttr]
  all_goals (rw [openBy, if_neg (by rintro ⟨a, b, d, e⟩; rw [a, b, d, e] at c1; simp at c1)] <;> simp only [bare, plain, low, noKey])
 ·
  try simp only [cnd] at c1
  refine awl_skip ?_
  refine awl_seq ?_
  refine awl_regS _ rfl fun K hK => ?_
  try simp only [go_sem, simprocAttr, h2, h4, h25]
  repeat' (refine And.intro (by first | rfl | omega | (simp; done)) ?_)
  refine hK _ _ (.mk (awl_live' [2, 4] fun ρ hL => ?_))
  try simp only [go_sem, simprocAttr, h2, h4, h25] at hL
  try clear h2 h4 h25
  obtain ⟨h2, h4⟩ := hL
  clear hK K
  refine awl_seq ?_
  refine awl_regS _ rfl fun K hK => ?_
  try simp only [go_sem, simprocAttr, h2, h4]
  repeat' (refine And.intro (by first | rfl | omega | (simp; done)) ?_)
  refine hK _ _ (.mk (awl_live' [4] fun ρ hL => ?_))
  try simp only [go_sem, simprocAttr, h2, h4] at hL
  try clear h2 h4
  have h4 := hL
  clear hL
  clear hK K
  refine awl_ret ?_
  refine ret0 (by simp only [go_sem, simprocAttr, h4]; exact rfl) ?_
  try simp only [go_sem, simprocAttr]
  all_goals (rw [openBy, if_pos ⟨c1.1.1.1, c1.1.1.2, c1.1.2, by omega⟩] <;> rfl)
set_option maxHeartbeats 8000000 in
set_option maxRecDepth 100000 in
theorem sat_spec_l8Write (m : Mem) (by_ : Word) (n : Int) (w : Word) (hf : m.fit) : Sat Tryz.prog 59 [.agg m.cells, .agg by_.cells, .int .i64 n, .agg w.cells] [] (.int .i64 (writeT m by_ n w)) [] := by
 refine sat_mk [.tmp 8] 0 30 Tryz.call59 Tryz.func59 Tryz.ntmps59 rfl rfl rfl rfl rfl ?_
 refine awl_live' [0, 1, 2, 3] fun ρ hL => ?_
 try simp only [go_sem, simprocAttr] at hL
 obtain ⟨h0, h1, h2, h3⟩ := hL
 refine awl_seq ?_
 refine awl_regS _ rfl fun K hK => ?_
 try simp only [go_sem, simprocAttr, h0, h1, h2, h3]
 repeat' (refine And.intro (by first | rfl | omega | (simp; done)) ?_)
 refine hK _ _ (.mk (awl_live' [2, 4, 5, 7] fun ρ hL => ?_))
 try simp only [go_sem, simprocAttr, h0, h1, h2, h3] at hL
 try clear h0 h1 h2 h3
 obtain ⟨h2, h4, h5, h7⟩ := hL
 clear hK K
 refine awl_seq ?_
 refine awl_regS _ rfl fun K hK => ?_
 try simp only [go_sem, simprocAttr, h2, h4, h5, h7]
 repeat' (refine And.intro (by first | rfl | omega | (simp; done)) ?_)
 refine opS_call_ro rfl (sat_spec_Try ?_ ?_ ?_) ?ha ?hv ?hh ?_
 case ha => simp only [go_sem, simprocAttr, h2, h4, h5, h7]; first | done | rfl
 case hv => first | rfl | (simp only [go_sem]; done)
 case hh => first | rfl | (simp only [go_sem]; done)
 try simp only [go_sem, simprocAttr, h2, h4, h5, h7]
 repeat' (refine And.intro (by first | rfl | omega | (simp; done)) ?_)
 refine hK _ _ (.mk (awl_live' [2, 4, 5, 7, 9] fun ρ hL => ?_))
 try simp only [go_sem, simprocAttr, h2, h4, h5, h7] at hL
 try clear h2 h4 h5 h7
 obtain ⟨h2, h4, h5, h7, h9⟩ := hL
 clear hK K
 refine awl_seq ?_
 refine awl_block fun R1 hw1 hR1 => ?_
 refine awl_seq ?_
 refine awl_regS _ rfl fun K hK => ?_
 try simp only [go_sem, simprocAttr, h2, h4, h5, h7, h9]
 repeat' (refine And.intro (by first | rfl | omega | (simp; done)) ?_)
 refine hK _ _ (.mk (awl_live' [2, 4, 5, 7, 9, 13] fun ρ hL => ?_))
 try simp only [go_sem, simprocAttr, h2, h4, h5, h7, h9] at hL
 try clear h2 h4 h5 h7 h9
 obtain ⟨h2, h4, h5, h7, h9, h13⟩ := hL
 clear hK K
 refine awl_cond h13 (fun c1 => ?_) (fun c1 => ?_)
 ·
  try simp only [cnd] at c1
  refine awl_seq ?_
  refine awl_regS _ rfl fun K hK => ?_
  try simp only [go_sem, simprocAttr, h2, h4, h5, h7, h9, h13]
  repeat' (refine And.intro (by first | rfl | omega | (simp; done)) ?_)
  refine hK _ _ (.mk (awl_live' [8] fun ρ hL => ?_))
  try simp only [go_sem, simprocAttr, h2, h4, h5, h7, h9, h13] at hL
  try clear h2 h4 h5 h7 h9 h13
  have h8 := hL
  clear hL
  clear hK K
  refine awl_ret ?_
  refine blk_ret ?_
  refine ret0 (by simp only [go_sem, simprocAttr, h8]; exact rfl) ?_
  try simp only [go_sem, simprocAttr]
  all_goals try clear hR1
  all_goals (rw [writeT, if_pos c1])
 ·
  try simp only [cnd] at c1
  refine awl_seq ?_
  have hg := hf.1
  have w0 : IntKind.i64.wrap ((m.words.length : Int) - 1) = (m.words.length : Int) - 1 := wrap64 (by omega)
  refine awl_regS _ rfl fun K hK => ?_
  try simp only [go_sem, simprocAttr, h2, h4, h5, h7, h9, h13, w0]
  repeat' (refine And.intro (by first | rfl | omega | (simp; done)) ?_)
  refine opS_call_ro rfl (sat_spec_l1In ?_ ?_ ?_) ?ha ?hv ?hh ?_
  case ha => simp only [go_sem, simprocAttr, h2, h4, h5, h7, h9, h13, w0]; first | done | rfl
  case hv => first | rfl | (simp only [go_sem]; done)
  case hh => first | rfl | (simp only [go_sem]; done)
  try simp only [go_sem, simprocAttr, h2, h4, h5, h7, h9, h13, w0]
  repeat' (refine And.intro (by first | rfl | omega | (simp; done)) ?_)
  refine hK _ _ (.mk (awl_live' [5, 7, 17] fun ρ hL => ?_))
  try simp only [go_sem, simprocAttr, h2, h4, h5, h7, h9, h13, w0] at hL
  try clear h2 h4 h5 h7 h9 h13
  obtain ⟨h5, h7, h17⟩ := hL
  clear hK K
  refine awl_cond h17 (fun c2 => ?_) (fun c2 => ?_)
  ·
   try simp only [cnd] at c2
   refine awl_seq ?_
   refine awl_regS _ rfl fun K hK => ?_
   try simp only [go_sem, simprocAttr, h5, h7, h17]
   repeat' (refine And.intro (by first | rfl | omega | (simp; done)) ?_)
   refine hK _ _ (.mk (awl_live' [8] fun ρ hL => ?_))
   try simp only [go_sem, simprocAttr, h5, h7, h17] at hL
   try clear h5 h7 h17
   have h8 := hL
   clear hL
   clear hK K
   refine awl_ret ?_
   refine blk_ret ?_
   refine ret0 (by simp only [go_sem, simprocAttr, h8]; exact rfl) ?_
   try simp only [go_sem, simprocAttr]
   all_goals try clear hR1
   all_goals (rw [writeT, if_neg (fun h => h c1), if_pos c2])
  ·
   try simp only [cnd] at c2
   refine awl_seq ?_
   refine awl_regS _ rfl fun K hK => ?_
   try simp only [go_sem, simprocAttr, h5, h7, h17]
   repeat' (refine And.intro (by first | rfl | omega | (simp; done)) ?_)
   refine opS_call_ro rfl (sat_spec_MayPut ?_ ?_) ?ha ?hv ?hh ?_
   case ha => simp only [go_sem, simprocAttr, h5, h7, h17]; first | done | rfl
   case hv => first | rfl | (simp only [go_sem]; done)
   case hh => first | rfl | (simp only [go_sem]; done)
   try simp only [go_sem, simprocAttr, h5, h7, h17]
   repeat' (refine And.intro (by first | rfl | omega | (simp; done)) ?_)
   refine hK _ _ (.mk (awl_live' [25] fun ρ hL => ?_))
   try simp only [go_sem, simprocAttr, h5, h7, h17] at hL
   try clear h5 h7 h17
   have h25 := hL
   clear hL
   clear hK K
   refine awl_cond h25 (fun c3 => ?_) (fun c3 => ?_)
   ·
    try simp only [cnd] at c3
    refine awl_seq ?_
    refine awl_regS _ rfl fun K hK => ?_
    try simp only [go_sem, simprocAttr, h25]
    repeat' (refine And.intro (by first | rfl | omega | (simp; done)) ?_)
    refine hK _ _ (.mk (awl_live' [8] fun ρ hL => ?_))
    try simp only [go_sem, simprocAttr, h25] at hL
    try clear h25
    have h8 := hL
    clear hL
    clear hK K
    refine awl_ret ?_
    refine blk_ret ?_
    refine ret0 (by simp only [go_sem, simprocAttr, h8]; exact rfl) ?_
    try simp only [go_sem, simprocAttr]
    all_goals try clear hR1
    all_goals (rw [writeT, if_neg (fun h => h c1), if_neg (by rw [c2]; exact Bool.noConfusion), if_pos c3])
   ·
    try simp only [cnd] at c3
    refine awl_skip ?_
    refine awl_nil ?_
    refine blk_normal (hR1 _ _ (.mk ?_))
    refine awl_seq ?_
    refine awl_regS _ rfl fun K hK => ?_
    try simp only [go_sem, simprocAttr, h25]
    repeat' (refine And.intro (by first | rfl | omega | (simp; done)) ?_)
    refine hK _ _ (.mk (awl_live' [8] fun ρ hL => ?_))
    try simp only [go_sem, simprocAttr, h25] at hL
    try clear h25
    have h8 := hL
    clear hL
    clear hK K
    refine awl_ret ?_
    refine ret0 (by simp only [go_sem, simprocAttr, h8]; exact rfl) ?_
    try simp only [go_sem, simprocAttr]
    all_goals try clear hR1
    all_goals (rw [writeT, if_neg (fun h => h c1), if_neg (by rw [c2]; exact Bool.noConfusion), if_neg (by rw [c3]; exact Bool.noConfusion)])
set_option maxHeartbeats 8000000 in
set_option maxRecDepth 100000 in
theorem sat_impl_writeCode (m : Mem) (by_ : Word) (n : Int) (w : Word) (hf : m.fit) : Sat Tryz.prog 75 [.agg m.cells, .agg by_.cells, .int .i64 n, .agg w.cells] [] (.int .i64 (writeT m by_ n w)) [] := by
 refine sat_mk [.tmp 8] 0 30 Tryz.call75 Tryz.func75 Tryz.ntmps75 rfl rfl rfl rfl rfl ?_
 refine awl_live' [0, 1, 2, 3] fun ρ hL => ?_
 try simp only [go_sem, simprocAttr] at hL
 obtain ⟨h0, h1, h2, h3⟩ := hL
 refine awl_seq ?_
 refine awl_regS _ rfl fun K hK => ?_
 try simp only [go_sem, simprocAttr, h0, h1, h2, h3]
 repeat' (refine And.intro (by first | rfl | omega | (simp; done)) ?_)
 refine hK _ _ (.mk (awl_live' [2, 4, 5, 7] fun ρ hL => ?_))
 try simp only [go_sem, simprocAttr, h0, h1, h2, h3] at hL
 try clear h0 h1 h2 h3
 obtain ⟨h2, h4, h5, h7⟩ := hL
 clear hK K
 refine awl_seq ?_
 refine awl_regS _ rfl fun K hK => ?_
 try simp only [go_sem, simprocAttr, h2, h4, h5, h7]
 repeat' (refine And.intro (by first | rfl | omega | (simp; done)) ?_)
 refine opS_call_ro rfl (sat_impl_Try ?_ ?_ ?_ ?hp0) ?ha ?hv ?hh ?_
 case ha => simp only [go_sem, simprocAttr, h2, h4, h5, h7]; first | done | rfl
 case hp0 => first | assumption | omega | (simp; done)
 case hv => first | rfl | (simp only [go_sem]; done)
 case hh => first | rfl | (simp only [go_sem]; done)
 try simp only [go_sem, simprocAttr, h2, h4, h5, h7]
 repeat' (refine And.intro (by first | rfl | omega | (simp; done)) ?_)
 refine hK _ _ (.mk (awl_live' [2, 4, 5, 7, 9] fun ρ hL => ?_))
 try simp only [go_sem, simprocAttr, h2, h4, h5, h7] at hL
 try clear h2 h4 h5 h7
 obtain ⟨h2, h4, h5, h7, h9⟩ := hL
 clear hK K
 refine awl_seq ?_
 refine awl_block fun R1 hw1 hR1 => ?_
 refine awl_seq ?_
 refine awl_regS _ rfl fun K hK => ?_
 try simp only [go_sem, simprocAttr, h2, h4, h5, h7, h9]
 repeat' (refine And.intro (by first | rfl | omega | (simp; done)) ?_)
 refine hK _ _ (.mk (awl_live' [2, 4, 5, 7, 9, 13] fun ρ hL => ?_))
 try simp only [go_sem, simprocAttr, h2, h4, h5, h7, h9] at hL
 try clear h2 h4 h5 h7 h9
 obtain ⟨h2, h4, h5, h7, h9, h13⟩ := hL
 clear hK K
 refine awl_cond h13 (fun c1 => ?_) (fun c1 => ?_)
 ·
  try simp only [cnd] at c1
  refine awl_seq ?_
  refine awl_regS _ rfl fun K hK => ?_
  try simp only [go_sem, simprocAttr, h2, h4, h5, h7, h9, h13]
  repeat' (refine And.intro (by first | rfl | omega | (simp; done)) ?_)
  refine hK _ _ (.mk (awl_live' [8] fun ρ hL => ?_))
  try simp only [go_sem, simprocAttr, h2, h4, h5, h7, h9, h13] at hL
  try clear h2 h4 h5 h7 h9 h13
  have h8 := hL
  clear hL
  clear hK K
  refine awl_ret ?_
  refine blk_ret ?_
  refine ret0 (by simp only [go_sem, simprocAttr, h8]; exact rfl) ?_
  try simp only [go_sem, simprocAttr]
  all_goals try clear hR1
  all_goals (rw [writeT, if_pos c1])
 ·
  try simp only [cnd] at c1
  refine awl_seq ?_
  have hg := hf.1
  have w0 : IntKind.i64.wrap ((m.words.length : Int) - 1) = (m.words.length : Int) - 1 := wrap64 (by omega)
  refine awl_regS _ rfl fun K hK => ?_
  try simp only [go_sem, simprocAttr, h2, h4, h5, h7, h9, h13, w0]
  repeat' (refine And.intro (by first | rfl | omega | (simp; done)) ?_)
  refine opS_call_ro rfl (sat_impl_in ?_ ?_ ?_) ?ha ?hv ?hh ?_
  case ha => simp only [go_sem, simprocAttr, h2, h4, h5, h7, h9, h13, w0]; first | done | rfl
  case hv => first | rfl | (simp only [go_sem]; done)
  case hh => first | rfl | (simp only [go_sem]; done)
  try simp only [go_sem, simprocAttr, h2, h4, h5, h7, h9, h13, w0]
  repeat' (refine And.intro (by first | rfl | omega | (simp; done)) ?_)
  refine hK _ _ (.mk (awl_live' [5, 7, 17] fun ρ hL => ?_))
  try simp only [go_sem, simprocAttr, h2, h4, h5, h7, h9, h13, w0] at hL
  try clear h2 h4 h5 h7 h9 h13
  obtain ⟨h5, h7, h17⟩ := hL
  clear hK K
  refine awl_cond h17 (fun c2 => ?_) (fun c2 => ?_)
  ·
   try simp only [cnd] at c2
   refine awl_seq ?_
   refine awl_regS _ rfl fun K hK => ?_
   try simp only [go_sem, simprocAttr, h5, h7, h17]
   repeat' (refine And.intro (by first | rfl | omega | (simp; done)) ?_)
   refine hK _ _ (.mk (awl_live' [8] fun ρ hL => ?_))
   try simp only [go_sem, simprocAttr, h5, h7, h17] at hL
   try clear h5 h7 h17
   have h8 := hL
   clear hL
   clear hK K
   refine awl_ret ?_
   refine blk_ret ?_
   refine ret0 (by simp only [go_sem, simprocAttr, h8]; exact rfl) ?_
   try simp only [go_sem, simprocAttr]
   all_goals try clear hR1
   all_goals (rw [writeT, if_neg (fun h => h c1), if_pos c2])
  ·
   try simp only [cnd] at c2
   refine awl_seq ?_
   refine awl_regS _ rfl fun K hK => ?_
   try simp only [go_sem, simprocAttr, h5, h7, h17]
   repeat' (refine And.intro (by first | rfl | omega | (simp; done)) ?_)
   refine opS_call_ro rfl (sat_impl_MayPut ?_ ?_) ?ha ?hv ?hh ?_
   case ha => simp only [go_sem, simprocAttr, h5, h7, h17]; first | done | rfl
   case hv => first | rfl | (simp only [go_sem]; done)
   case hh => first | rfl | (simp only [go_sem]; done)
   try simp only [go_sem, simprocAttr, h5, h7, h17]
   repeat' (refine And.intro (by first | rfl | omega | (simp; done)) ?_)
   refine hK _ _ (.mk (awl_live' [25] fun ρ hL => ?_))
   try simp only [go_sem, simprocAttr, h5, h7, h17] at hL
   try clear h5 h7 h17
   have h25 := hL
   clear hL
   clear hK K
   refine awl_cond h25 (fun c3 => ?_) (fun c3 => ?_)
   ·
    try simp only [cnd] at c3
    refine awl_seq ?_
    refine awl_regS _ rfl fun K hK => ?_
    try simp only [go_sem, simprocAttr, h25]
    repeat' (refine And.intro (by first | rfl | omega | (simp; done)) ?_)
    refine hK _ _ (.mk (awl_live' [8] fun ρ hL => ?_))
    try simp only [go_sem, simprocAttr, h25] at hL
    try clear h25
    have h8 := hL
    clear hL
    clear hK K
    refine awl_ret ?_
    refine blk_ret ?_
    refine ret0 (by simp only [go_sem, simprocAttr, h8]; exact rfl) ?_
    try simp only [go_sem, simprocAttr]
    all_goals try clear hR1
    all_goals (rw [writeT, if_neg (fun h => h c1), if_neg (by rw [c2]; exact Bool.noConfusion), if_pos c3])
   ·
    try simp only [cnd] at c3
    refine awl_skip ?_
    refine awl_nil ?_
    refine blk_normal (hR1 _ _ (.mk ?_))
    refine awl_seq ?_
    refine awl_regS _ rfl fun K hK => ?_
    try simp only [go_sem, simprocAttr, h25]
    repeat' (refine And.intro (by first | rfl | omega | (simp; done)) ?_)
    refine hK _ _ (.mk (awl_live' [8] fun ρ hL => ?_))
    try simp only [go_sem, simprocAttr, h25] at hL
    try clear h25
    have h8 := hL
    clear hL
    clear hK K
    refine awl_ret ?_
    refine ret0 (by simp only [go_sem, simprocAttr, h8]; exact rfl) ?_
    try simp only [go_sem, simprocAttr]
    all_goals try clear hR1
    all_goals (rw [writeT, if_neg (fun h => h c1), if_neg (by rw [c2]; exact Bool.noConfusion), if_neg (by rw [c3]; exact Bool.noConfusion)])
set_option maxHeartbeats 8000000 in
set_option maxRecDepth 100000 in
theorem sat_spec_Fetch (l : List Ins) (w : Word) (hl : l.length ≤ 1048576) : Sat Tryz.prog 28 [.sl l.length l.length (rows l), .agg w.cells] [] (.tuple [.agg (Ins.cells (fetch l w).1), .int .i64 (fetch l w).2]) [] := by
 refine sat_mk [.cell 4 66, .tmp 5] 0 37 Tryz.call28 Tryz.func28 Tryz.ntmps28 rfl rfl rfl rfl rfl ?_
 refine awl_live' [0, 1] fun ρ hL => ?_
 try simp only [go_sem, simprocAttr] at hL
 obtain ⟨h0, h1⟩ := hL
 refine awl_seq ?_
 refine awl_regS _ rfl fun K hK => ?_
 try simp only [go_sem, simprocAttr, h0, h1]
 repeat' (refine And.intro (by first | rfl | omega | (simp; done)) ?_)
 refine hK _ _ (.mk (awl_live' [0, 3, 4] fun ρ hL => ?_))
 try simp only [go_sem, simprocAttr, h0, h1] at hL
 try clear h0 h1
 obtain ⟨h0, h3, h4⟩ := hL
 clear hK K
 refine awl_seq ?_
 refine awl_regS _ rfl fun K hK => ?_
 try simp only [go_sem, simprocAttr, h0, h3, h4]
 repeat' (refine And.intro (by first | rfl | omega | (simp; done)) ?_)
 refine opS_call_ro rfl (sat_spec_Try ?_ ?_ ?_) ?ha ?hv ?hh ?_
 case ha => simp only [go_sem, simprocAttr, h0, h3, h4]; first | done | rfl
 case hv => first | rfl | (simp only [go_sem]; done)
 case hh => first | rfl | (simp only [go_sem]; done)
 try simp only [go_sem, simprocAttr, h0, h3, h4]
 repeat' (refine And.intro (by first | rfl | omega | (simp; done)) ?_)
 refine hK _ _ (.mk (awl_live' [0, 3, 4, 6] fun ρ hL => ?_))
 try simp only [go_sem, simprocAttr, h0, h3, h4] at hL
 try clear h0 h3 h4
 obtain ⟨h0, h3, h4, h6⟩ := hL
 clear hK K
 refine awl_seq ?_
 refine awl_seq ?_
 refine awl_regS _ rfl fun K hK => ?_
 try simp only [go_sem, simprocAttr, h0, h3, h4, h6]
 repeat' (refine And.intro (by first | rfl | omega | (simp; done)) ?_)
 refine hK _ _ (.mk (awl_live' [0, 3, 4, 6, 12] fun ρ hL => ?_))
 try simp only [go_sem, simprocAttr, h0, h3, h4, h6] at hL
 try clear h0 h3 h4 h6
 obtain ⟨h0, h3, h4, h6, h12⟩ := hL
 clear hK K
 refine awl_cond h12 (fun c1 => ?_) (fun c1 => ?_)
 ·
  try simp only [cnd] at c1
  refine awl_seq ?_
  refine awl_regS _ rfl fun K hK => ?_
  try simp only [go_sem, simprocAttr, h0, h3, h4, h6, h12]
  repeat' (refine And.intro (by first | rfl | omega | (simp; done)) ?_)
  refine hK _ _ (.mk (awl_live' [4, 5] fun ρ hL => ?_))
  try simp only [go_sem, simprocAttr, h0, h3, h4, h6, h12] at hL
  try clear h0 h3 h4 h6 h12
  obtain ⟨h4, h5⟩ := hL
  clear hK K
  refine awl_ret ?_
  refine ret0 (by simp only [go_sem, simprocAttr, h4, h5]; exact rfl) ?_
  try simp only [go_sem, simprocAttr]
  all_goals (rw [fetch, if_pos c1] <;> rfl)
 ·
  try simp only [cnd] at c1
  refine awl_skip ?_
  refine awl_seq ?_
  refine awl_seq ?_
  have w0 : IntKind.i64.wrap ((l.length : Int) - 1) = (l.length : Int) - 1 := wrap64 (by omega)
  refine awl_regS _ rfl fun K hK => ?_
  try simp only [go_sem, simprocAttr, h0, h3, h4, h6, h12, w0]
  repeat' (refine And.intro (by first | rfl | omega | (simp; done)) ?_)
  refine opS_call_ro rfl (sat_spec_l1In ?_ ?_ ?_) ?ha ?hv ?hh ?_
  case ha => simp only [go_sem, simprocAttr, h0, h3, h4, h6, h12, w0]; first | done | rfl
  case hv => first | rfl | (simp only [go_sem]; done)
  case hh => first | rfl | (simp only [go_sem]; done)
  try simp only [go_sem, simprocAttr, h0, h3, h4, h6, h12, w0]
  repeat' (refine And.intro (by first | rfl | omega | (simp; done)) ?_)
  refine awpS_live [0, 3, 4, 22] fun ρ hL => ?_
  try simp only [go_sem, simprocAttr, h0, h3, h4, h6, h12, w0] at hL
  try clear h0 h3 h4 h6 h12
  obtain ⟨h0, h3, h4, h22⟩ := hL
  refine grp_orN (tc := 22) (tv := 29) (td := 30) (v := ?v1) 7 rfl [0, 3, 4] h22 rfl (fun hb K1 hK1 => ?run) (fun hb => ?skip) (fun ρ hP hL => ?_)
  case skip =>
   exact awpS_skip (want := false) (b := _) (by rw [hb]; rfl) _ [] ρ h22 (fun _ _ => rfl) (by simp) rfl
  case run =>
   simp only [List.take_succ_cons, List.take_zero]
   rw [hb] at h22
   have hw := inR_iff.1 (show inR w.n 0 ((l.length : Int) - 1) = true by revert hb; cases inR w.n 0 ((l.length : Int) - 1) <;> simp)
   have hn2 : w.n.toNat < l.length := by omega
   try simp only [go_sem, simprocAttr, h0, h3, h4, h22, hn2, w0]
   repeat' (refine And.intro (by first | rfl | omega | (simp; done)) ?_)
   refine opS_call_ro rfl (sat_spec_InsOk ?_) ?ha ?hv ?hh ?_
   case ha => simp only [go_sem, simprocAttr, h0, h3, h4, h22, hn2, w0]; first | done | rfl
   case hv => first | rfl | (simp only [go_sem]; done)
   case hh => first | rfl | (simp only [go_sem]; done)
   try simp only [go_sem, simprocAttr, h0, h3, h4, h22, hn2, w0]
   repeat' (refine And.intro (by first | rfl | omega | (simp; done)) ?_)
   exact hK1 _ (by simp only [go_sem, simprocAttr, h0, h3, h4, h22, hn2, w0]) (by simp only [go_sem, simprocAttr, h0, h3, h4, h22, hn2, w0]; exact rfl) (by simp only [go_sem, simprocAttr, h0, h3, h4, h22, hn2, w0])
  simp only [List.drop_succ_cons, List.drop_zero]
  try simp only [go_sem, simprocAttr, h0, h3, h4, h22, w0] at hL
  try clear h0 h3 h4 h22
  obtain ⟨h0, h3, h4⟩ := hL
  have h30 := hP
  clear hP
  try simp only [go_sem, simprocAttr, h0, h3, h4, h30, w0]
  repeat' (refine And.intro (by first | rfl | omega | (simp; done)) ?_)
  refine hK _ _ (.mk (awl_live' [0, 3, 4, 30] fun ρ hL => ?_))
  try simp only [go_sem, simprocAttr, h0, h3, h4, h30, w0] at hL
  try clear h0 h3 h4 h30
  obtain ⟨h0, h3, h4, h30⟩ := hL
  clear hK K
  refine awl_cond h30 (fun c2 => ?_) (fun c2 => ?_)
  ·
   try simp only [cnd] at c2
   refine awl_seq ?_
   refine awl_regS _ rfl fun K hK => ?_
   try simp only [go_sem, simprocAttr, h0, h3, h4, h30]
   repeat' (refine And.intro (by first | rfl | omega | (simp; done)) ?_)
   refine hK _ _ (.mk (awl_live' [4, 5] fun ρ hL => ?_))
   try simp only [go_sem, simprocAttr, h0, h3, h4, h30] at hL
   try clear h0 h3 h4 h30
   obtain ⟨h4, h5⟩ := hL
   clear hK K
   refine awl_ret ?_
   refine ret0 (by simp only [go_sem, simprocAttr, h4, h5]; exact rfl) ?_
   try simp only [go_sem, simprocAttr]
   all_goals (rw [fetch, if_neg (fun h => h c1), if_neg (by rintro ⟨a, b⟩; rw [a, b] at c2; simp at c2)] <;> rfl)
  ·
   try simp only [cnd] at c2
   refine awl_skip ?_
   refine awl_seq ?_
   have hw := inR_iff.1 c2.1
   have hn2 : w.n.toNat < l.length := by omega
   refine awl_regS _ rfl fun K hK => ?_
   try simp only [go_sem, simprocAttr, h0, h3, h4, h30, hn2]
   repeat' (refine And.intro (by first | rfl | omega | (simp; done)) ?_)
   refine hK _ _ (.mk (awl_live' [4, 5] fun ρ hL => ?_))
   try simp only [go_sem, simprocAttr, h0, h3, h4, h30, hn2] at hL
   try clear h0 h3 h4 h30
   obtain ⟨h4, h5⟩ := hL
   clear hK K
   refine awl_ret ?_
   refine ret0 (by simp only [go_sem, simprocAttr, h4, h5]; exact rfl) ?_
   try simp only [go_sem, simprocAttr]
   all_goals (rw [fetch, if_neg (fun h => h c1), if_pos c2] <;> rfl)
set_option maxHeartbeats 8000000 in
set_option maxRecDepth 100000 in
theorem sat_impl_Fetch (l : List Ins) (w : Word) (hl : l.length ≤ 1048576) : Sat Tryz.prog 72 [.sl l.length l.length (rows l), .agg w.cells] [] (.tuple [.agg (Ins.cells (fetch l w).1), .int .i64 (fetch l w).2]) [] := by
 refine sat_mk [.cell 4 66, .tmp 5] 0 39 Tryz.call72 Tryz.func72 Tryz.ntmps72 rfl rfl rfl rfl rfl ?_
 refine awl_live' [0, 1] fun ρ hL => ?_
 try simp only [go_sem, simprocAttr] at hL
 obtain ⟨h0, h1⟩ := hL
 refine awl_seq ?_
 refine awl_regS _ rfl fun K hK => ?_
 try simp only [go_sem, simprocAttr, h0, h1]
 repeat' (refine And.intro (by first | rfl | omega | (simp; done)) ?_)
 refine hK _ _ (.mk (awl_live' [0, 3, 4] fun ρ hL => ?_))
 try simp only [go_sem, simprocAttr, h0, h1] at hL
 try clear h0 h1
 obtain ⟨h0, h3, h4⟩ := hL
 clear hK K
 refine awl_seq ?_
 refine awl_regS _ rfl fun K hK => ?_
 try simp only [go_sem, simprocAttr, h0, h3, h4]
 repeat' (refine And.intro (by first | rfl | omega | (simp; done)) ?_)
 refine opS_call_ro rfl (sat_impl_Try ?_ ?_ ?_ ?hp0) ?ha ?hv ?hh ?_
 case ha => simp only [go_sem, simprocAttr, h0, h3, h4]; first | done | rfl
 case hp0 => first | assumption | omega | (simp; done)
 case hv => first | rfl | (simp only [go_sem]; done)
 case hh => first | rfl | (simp only [go_sem]; done)
 try simp only [go_sem, simprocAttr, h0, h3, h4]
 repeat' (refine And.intro (by first | rfl | omega | (simp; done)) ?_)
 refine hK _ _ (.mk (awl_live' [0, 3, 4, 6] fun ρ hL => ?_))
 try simp only [go_sem, simprocAttr, h0, h3, h4] at hL
 try clear h0 h3 h4
 obtain ⟨h0, h3, h4, h6⟩ := hL
 clear hK K
 refine awl_seq ?_
 refine awl_block fun R1 hw1 hR1 => ?_
 refine awl_seq ?_
 refine awl_regS _ rfl fun K hK => ?_
 try simp only [go_sem, simprocAttr, h0, h3, h4, h6]
 repeat' (refine And.intro (by first | rfl | omega | (simp; done)) ?_)
 refine hK _ _ (.mk (awl_live' [0, 3, 4, 6, 11] fun ρ hL => ?_))
 try simp only [go_sem, simprocAttr, h0, h3, h4, h6] at hL
 try clear h0 h3 h4 h6
 obtain ⟨h0, h3, h4, h6, h11⟩ := hL
 clear hK K
 refine awl_cond h11 (fun c1 => ?_) (fun c1 => ?_)
 ·
  try simp only [cnd] at c1
  refine awl_seq ?_
  refine awl_regS _ rfl fun K hK => ?_
  try simp only [go_sem, simprocAttr, h0, h3, h4, h6, h11]
  repeat' (refine And.intro (by first | rfl | omega | (simp; done)) ?_)
  refine hK _ _ (.mk (awl_live' [4, 5] fun ρ hL => ?_))
  try simp only [go_sem, simprocAttr, h0, h3, h4, h6, h11] at hL
  try clear h0 h3 h4 h6 h11
  obtain ⟨h4, h5⟩ := hL
  clear hK K
  refine awl_ret ?_
  refine blk_ret ?_
  refine ret0 (by simp only [go_sem, simprocAttr, h4, h5]; exact rfl) ?_
  try simp only [go_sem, simprocAttr]
  all_goals try clear hR1
  all_goals (rw [fetch, if_pos c1] <;> rfl)
 ·
  try simp only [cnd] at c1
  refine awl_seq ?_
  have w0 : IntKind.i64.wrap ((l.length : Int) - 1) = (l.length : Int) - 1 := wrap64 (by omega)
  refine awl_regS _ rfl fun K hK => ?_
  try simp only [go_sem, simprocAttr, h0, h3, h4, h6, h11, w0]
  repeat' (refine And.intro (by first | rfl | omega | (simp; done)) ?_)
  refine opS_call_ro rfl (sat_impl_in ?_ ?_ ?_) ?ha ?hv ?hh ?_
  case ha => simp only [go_sem, simprocAttr, h0, h3, h4, h6, h11, w0]; first | done | rfl
  case hv => first | rfl | (simp only [go_sem]; done)
  case hh => first | rfl | (simp only [go_sem]; done)
  try simp only [go_sem, simprocAttr, h0, h3, h4, h6, h11, w0]
  repeat' (refine And.intro (by first | rfl | omega | (simp; done)) ?_)
  refine awpS_live [0, 3, 4, 24] fun ρ hL => ?_
  try simp only [go_sem, simprocAttr, h0, h3, h4, h6, h11, w0] at hL
  try clear h0 h3 h4 h6 h11
  obtain ⟨h0, h3, h4, h24⟩ := hL
  refine grp_orN (tc := 24) (tv := 31) (td := 32) (v := ?v1) 7 rfl [0, 3, 4] h24 rfl (fun hb K1 hK1 => ?run) (fun hb => ?skip) (fun ρ hP hL => ?_)
  case skip =>
   exact awpS_skip (want := false) (b := _) (by rw [hb]; rfl) _ [] ρ h24 (fun _ _ => rfl) (by simp) rfl
  case run =>
   simp only [List.take_succ_cons, List.take_zero]
   rw [hb] at h24
   have hw := inR_iff.1 (show inR w.n 0 ((l.length : Int) - 1) = true by revert hb; cases inR w.n 0 ((l.length : Int) - 1) <;> simp)
   have hn2 : w.n.toNat < l.length := by omega
   try simp only [go_sem, simprocAttr, h0, h3, h4, h24, hn2, w0]
   repeat' (refine And.intro (by first | rfl | omega | (simp; done)) ?_)
   refine opS_call_ro rfl (sat_impl_InsOk ?_) ?ha ?hv ?hh ?_
   case ha => simp only [go_sem, simprocAttr, h0, h3, h4, h24, hn2, w0]; first | done | rfl
   case hv => first | rfl | (simp only [go_sem]; done)
   case hh => first | rfl | (simp only [go_sem]; done)
   try simp only [go_sem, simprocAttr, h0, h3, h4, h24, hn2, w0]
   repeat' (refine And.intro (by first | rfl | omega | (simp; done)) ?_)
   exact hK1 _ (by simp only [go_sem, simprocAttr, h0, h3, h4, h24, hn2, w0]) (by simp only [go_sem, simprocAttr, h0, h3, h4, h24, hn2, w0]; exact rfl) (by simp only [go_sem, simprocAttr, h0, h3, h4, h24, hn2, w0])
  simp only [List.drop_succ_cons, List.drop_zero]
  try simp only [go_sem, simprocAttr, h0, h3, h4, h24, w0] at hL
  try clear h0 h3 h4 h24
  obtain ⟨h0, h3, h4⟩ := hL
  have h32 := hP
  clear hP
  try simp only [go_sem, simprocAttr, h0, h3, h4, h32, w0]
  repeat' (refine And.intro (by first | rfl | omega | (simp; done)) ?_)
  refine hK _ _ (.mk (awl_live' [0, 3, 4, 16] fun ρ hL => ?_))
  try simp only [go_sem, simprocAttr, h0, h3, h4, h32, w0] at hL
  try clear h0 h3 h4 h32
  obtain ⟨h0, h3, h4, h16⟩ := hL
  clear hK K
  refine awl_cond h16 (fun c2 => ?_) (fun c2 => ?_)
  ·
   try simp only [cnd] at c2
   refine awl_seq ?_
   refine awl_regS _ rfl fun K hK => ?_
   try simp only [go_sem, simprocAttr, h0, h3, h4, h16]
   repeat' (refine And.intro (by first | rfl | omega | (simp; done)) ?_)
   refine hK _ _ (.mk (awl_live' [4, 5] fun ρ hL => ?_))
   try simp only [go_sem, simprocAttr, h0, h3, h4, h16] at hL
   try clear h0 h3 h4 h16
   obtain ⟨h4, h5⟩ := hL
   clear hK K
   refine awl_ret ?_
   refine blk_ret ?_
   refine ret0 (by simp only [go_sem, simprocAttr, h4, h5]; exact rfl) ?_
   try simp only [go_sem, simprocAttr]
   all_goals try clear hR1
   all_goals (rw [fetch, if_neg (fun h => h c1), if_neg (by rintro ⟨a, b⟩; rw [a, b] at c2; simp at c2)] <;> rfl)
  ·
   try simp only [cnd] at c2
   refine awl_skip ?_
   refine awl_nil ?_
   refine blk_normal (hR1 _ _ (.mk ?_))
   refine awl_seq ?_
   have hw := inR_iff.1 c2.1
   have hn2 : w.n.toNat < l.length := by omega
   refine awl_regS _ rfl fun K hK => ?_
   try simp only [go_sem, simprocAttr, h0, h3, h4, h16, hn2]
   repeat' (refine And.intro (by first | rfl | omega | (simp; done)) ?_)
   refine hK _ _ (.mk (awl_live' [4, 5] fun ρ hL => ?_))
   try simp only [go_sem, simprocAttr, h0, h3, h4, h16, hn2] at hL
   try clear h0 h3 h4 h16
   obtain ⟨h4, h5⟩ := hL
   clear hK K
   refine awl_ret ?_
   refine ret0 (by simp only [go_sem, simprocAttr, h4, h5]; exact rfl) ?_
   try simp only [go_sem, simprocAttr]
   all_goals try clear hR1
   all_goals (rw [fetch, if_neg (fun h => h c1), if_pos c2] <;> rfl)
set_option maxHeartbeats 8000000 in
set_option maxRecDepth 100000 in
theorem sat_spec_l9Trap (t : Int) (w : Word)  : Sat Tryz.prog 63 [.int .i64 t, .agg w.cells] [] (.agg (Fx.cells (fxTrap t w))) [] := by
 refine sat_mk [.cell 4 72] 0 8 Tryz.call63 Tryz.func63 Tryz.ntmps63 rfl rfl rfl rfl rfl ?_
 refine awl_live' [0, 1] fun ρ hL => ?_
 try simp only [go_sem, simprocAttr] at hL
 obtain ⟨h0, h1⟩ := hL
 refine awl_seq ?_
 refine awl_regS _ rfl fun K hK => ?_
 try simp only [go_sem, simprocAttr, h0, h1]
 repeat' (refine And.intro (by first | rfl | omega | (simp; done)) ?_)
 refine hK _ _ (.mk (awl_live' [0, 3, 4] fun ρ hL => ?_))
 try simp only [go_sem, simprocAttr, h0, h1] at hL
 try clear h0 h1
 obtain ⟨h0, h3, h4⟩ := hL
 clear hK K
 refine awl_seq ?_
 refine awl_regS _ rfl fun K hK => ?_
 try simp only [go_sem, simprocAttr, h0, h3, h4]
 repeat' (refine And.intro (by first | rfl | omega | (simp; done)) ?_)
 refine hK _ _ (.mk (awl_live' [4] fun ρ hL => ?_))
 try simp only [go_sem, simprocAttr, h0, h3, h4] at hL
 try clear h0 h3 h4
 have h4 := hL
 clear hL
 clear hK K
 refine awl_ret ?_
 refine ret0 (by simp only [go_sem, simprocAttr, h4]; exact rfl) ?_
 try simp only [go_sem, simprocAttr]
 all_goals (rfl)
set_option maxHeartbeats 8000000 in
set_option maxRecDepth 100000 in
theorem sat_impl_trapped (t : Int) (w : Word)  : Sat Tryz.prog 73 [.int .i64 t, .agg w.cells] [] (.agg (Fx.cells (fxTrap t w))) [] := by
 refine sat_mk [.cell 4 72] 0 8 Tryz.call73 Tryz.func73 Tryz.ntmps73 rfl rfl rfl rfl rfl ?_
 refine awl_live' [0, 1] fun ρ hL => ?_
 try simp only [go_sem, simprocAttr] at hL
 obtain ⟨h0, h1⟩ := hL
 refine awl_seq ?_
 refine awl_regS _ rfl fun K hK => ?_
 try simp only [go_sem, simprocAttr, h0, h1]
 repeat' (refine And.intro (by first | rfl | omega | (simp; done)) ?_)
 refine hK _ _ (.mk (awl_live' [0, 3, 4] fun ρ hL => ?_))
 try simp only [go_sem, simprocAttr, h0, h1] at hL
 try clear h0 h1
 obtain ⟨h0, h3, h4⟩ := hL
 clear hK K
 refine awl_seq ?_
 refine awl_regS _ rfl fun K hK => ?_
 try simp only [go_sem, simprocAttr, h0, h3, h4]
 repeat' (refine And.intro (by first | rfl | omega | (simp; done)) ?_)
 refine hK _ _ (.mk (awl_live' [4] fun ρ hL => ?_))
 try simp only [go_sem, simprocAttr, h0, h3, h4] at hL
 try clear h0 h3 h4
 have h4 := hL
 clear hL
 clear hK K
 refine awl_ret ?_
 refine ret0 (by simp only [go_sem, simprocAttr, h4]; exact rfl) ?_
 try simp only [go_sem, simprocAttr]
 all_goals (rfl)
set_option maxHeartbeats 8000000 in
set_option maxRecDepth 100000 in
theorem sat_spec_l9Value (x : Ins) (a : Word) (b : Word) (g : Word)  : Sat Tryz.prog 62 [.agg x.cells, .agg a.cells, .agg b.cells, .agg g.cells] [] (.agg (Word.cells (valueOf x a b g))) [] := by
 refine sat_mk [.cell 8 38] 0 68 Tryz.call62 Tryz.func62 Tryz.ntmps62 rfl rfl rfl rfl rfl ?_
 refine awl_live' [0, 1, 2, 3] fun ρ hL => ?_
 try simp only [go_sem, simprocAttr] at hL
 obtain ⟨h0, h1, h2, h3⟩ := hL
 refine awl_seq ?_
 refine awl_regS _ rfl fun K hK => ?_
 try simp only [go_sem, simprocAttr, h0, h1, h2, h3]
 repeat' (refine And.intro (by first | rfl | omega | (simp; done)) ?_)
 refine hK _ _ (.mk (awl_live' [4, 5, 6, 7, 8] fun ρ hL => ?_))
 try simp only [go_sem, simprocAttr, h0, h1, h2, h3] at hL
 try clear h0 h1 h2 h3
 obtain ⟨h4, h5, h6, h7, h8⟩ := hL
 clear hK K
 refine awl_seq ?_
 refine awl_seq ?_
 refine awl_regS _ rfl fun K hK => ?_
 try simp only [go_sem, simprocAttr, h4, h5, h6, h7, h8]
 repeat' (refine And.intro (by first | rfl | omega | (simp; done)) ?_)
 refine hK _ _ (.mk (awl_live' [4, 5, 6, 7, 8, 10] fun ρ hL => ?_))
 try simp only [go_sem, simprocAttr, h4, h5, h6, h7, h8] at hL
 try clear h4 h5 h6 h7 h8
 obtain ⟨h4, h5, h6, h7, h8, h10⟩ := hL
 clear hK K
 refine awl_block fun R1 hw1 hR1 => ?_
 refine awl_seq ?_
 refine awl_regS _ rfl fun K hK => ?_
 try simp only [go_sem, simprocAttr, h4, h5, h6, h7, h8, h10]
 repeat' (refine And.intro (by first | rfl | omega | (simp; done)) ?_)
 refine hK _ _ (.mk (awl_live' [4, 5, 6, 7, 8, 10, 11] fun ρ hL => ?_))
 try simp only [go_sem, simprocAttr, h4, h5, h6, h7, h8, h10] at hL
 try clear h4 h5 h6 h7 h8 h10
 obtain ⟨h4, h5, h6, h7, h8, h10, h11⟩ := hL
 clear hK K
 refine awl_cond h11 (fun c1 => ?_) (fun c1 => ?_)
 ·
  try simp only [cnd] at c1
  refine awl_seq ?_
  refine awl_regS _ rfl fun K hK => ?_
  try simp only [go_sem, simprocAttr, h4, h5, h6, h7, h8, h10, h11]
  repeat' (refine And.intro (by first | rfl | omega | (simp; done)) ?_)
  refine opS_call_ro rfl (sat_spec_Plain ?_) ?ha ?hv ?hh ?_
  case ha => simp only [go_sem, simprocAttr, h4, h5, h6, h7, h8, h10, h11]; first | done | rfl
  case hv => first | rfl | (simp only [go_sem]; done)
  case hh => first | rfl | (simp only [go_sem]; done)
  try simp only [go_sem, simprocAttr, h4, h5, h6, h7, h8, h10, h11]
  repeat' (refine And.intro (by first | rfl | omega | (simp; done)) ?_)
  refine hK _ _ (.mk (awl_live' [8] fun ρ hL => ?_))
  try simp only [go_sem, simprocAttr, h4, h5, h6, h7, h8, h10, h11] at hL
  try clear h4 h5 h6 h7 h8 h10 h11
  have h8 := hL
  clear hL
  clear hK K
  refine awl_ret ?_
  refine blk_ret ?_
  refine ret0 (by simp only [go_sem, simprocAttr, h8]; exact rfl) ?_
  try simp only [go_sem, simprocAttr]
  all_goals try clear hR1
  all_goals (rw [valueOf, if_pos c1] <;> rfl)
 ·
  try simp only [cnd] at c1
  refine awl_seq ?_
  refine awl_regS _ rfl fun K hK => ?_
  try simp only [go_sem, simprocAttr, h4, h5, h6, h7, h8, h10, h11]
  repeat' (refine And.intro (by first | rfl | omega | (simp; done)) ?_)
  refine hK _ _ (.mk (awl_live' [4, 5, 6, 7, 8, 10, 16] fun ρ hL => ?_))
  try simp only [go_sem, simprocAttr, h4, h5, h6, h7, h8, h10, h11] at hL
  try clear h4 h5 h6 h7 h8 h10 h11
  obtain ⟨h4, h5, h6, h7, h8, h10, h16⟩ := hL
  clear hK K
  refine awl_cond h16 (fun c2 => ?_) (fun c2 => ?_)
  ·
   try simp only [cnd] at c2
   refine awl_seq ?_
   refine awl_regS _ rfl fun K hK => ?_
   try simp only [go_sem, simprocAttr, h4, h5, h6, h7, h8, h10, h16]
   repeat' (refine And.intro (by first | rfl | omega | (simp; done)) ?_)
   refine opS_call_ro rfl (sat_spec_Plain ?_) ?ha ?hv ?hh ?_
   case ha => simp only [go_sem, simprocAttr, h4, h5, h6, h7, h8, h10, h16]; first | done | rfl
   case hv => first | rfl | (simp only [go_sem]; done)
   case hh => first | rfl | (simp only [go_sem]; done)
   try simp only [go_sem, simprocAttr, h4, h5, h6, h7, h8, h10, h16]
   repeat' (refine And.intro (by first | rfl | omega | (simp; done)) ?_)
   refine hK _ _ (.mk (awl_live' [8] fun ρ hL => ?_))
   try simp only [go_sem, simprocAttr, h4, h5, h6, h7, h8, h10, h16] at hL
   try clear h4 h5 h6 h7 h8 h10 h16
   have h8 := hL
   clear hL
   clear hK K
   refine awl_ret ?_
   refine blk_ret ?_
   refine ret0 (by simp only [go_sem, simprocAttr, h8]; exact rfl) ?_
   try simp only [go_sem, simprocAttr]
   all_goals try clear hR1
   all_goals (rw [valueOf, if_neg c1, if_pos c2] <;> rfl)
  ·
   try simp only [cnd] at c2
   refine awl_seq ?_
   refine awl_regS _ rfl fun K hK => ?_
   try simp only [go_sem, simprocAttr, h4, h5, h6, h7, h8, h10, h16]
   repeat' (refine And.intro (by first | rfl | omega | (simp; done)) ?_)
   refine hK _ _ (.mk (awl_live' [4, 5, 6, 7, 8, 10, 24] fun ρ hL => ?_))
   try simp only [go_sem, simprocAttr, h4, h5, h6, h7, h8, h10, h16] at hL
   try clear h4 h5 h6 h7 h8 h10 h16
   obtain ⟨h4, h5, h6, h7, h8, h10, h24⟩ := hL
   clear hK K
   refine awl_cond h24 (fun c3 => ?_) (fun c3 => ?_)
   ·
    try simp only [cnd] at c3
    refine awl_seq ?_
    refine awl_regS _ rfl fun K hK => ?_
    try simp only [go_sem, simprocAttr, h4, h5, h6, h7, h8, h10, h24]
    repeat' (refine And.intro (by first | rfl | omega | (simp; done)) ?_)
    refine hK _ _ (.mk (awl_live' [8] fun ρ hL => ?_))
    try simp only [go_sem, simprocAttr, h4, h5, h6, h7, h8, h10, h24] at hL
    try clear h4 h5 h6 h7 h8 h10 h24
    have h8 := hL
    clear hL
    clear hK K
    refine awl_ret ?_
    refine blk_ret ?_
    refine ret0 (by simp only [go_sem, simprocAttr, h8]; exact rfl) ?_
    try simp only [go_sem, simprocAttr]
    all_goals try clear hR1
    all_goals (rw [valueOf, if_neg c1, if_neg c2, if_pos c3] <;> rfl)
   ·
    try simp only [cnd] at c3
    refine awl_seq ?_
    refine awl_regS _ rfl fun K hK => ?_
    try simp only [go_sem, simprocAttr, h4, h5, h6, h7, h8, h10, h24]
    repeat' (refine And.intro (by first | rfl | omega | (simp; done)) ?_)
    refine hK _ _ (.mk (awl_live' [4, 5, 6, 7, 8, 10, 27] fun ρ hL => ?_))
    try simp only [go_sem, simprocAttr, h4, h5, h6, h7, h8, h10, h24] at hL
    try clear h4 h5 h6 h7 h8 h10 h24
    obtain ⟨h4, h5, h6, h7, h8, h10, h27⟩ := hL
    clear hK K
    refine awl_cond h27 (fun c4 => ?_) (fun c4 => ?_)
    ·
     try simp only [cnd] at c4
     refine awl_seq ?_
     refine awl_regS _ rfl fun K hK => ?_
     try simp only [go_sem, simprocAttr, h4, h5, h6, h7, h8, h10, h27]
     repeat' (refine And.intro (by first | rfl | omega | (simp; done)) ?_)
     refine opS_call_ro rfl (sat_spec_Weaken ?_ ?_) ?ha ?hv ?hh ?_
     case ha => simp only [go_sem, simprocAttr, h4, h5, h6, h7, h8, h10, h27]; first | done | rfl
     case hv => first | rfl | (simp only [go_sem]; done)
     case hh => first | rfl | (simp only [go_sem]; done)
     try simp only [go_sem, simprocAttr, h4, h5, h6, h7, h8, h10, h27]
     repeat' (refine And.intro (by first | rfl | omega | (simp; done)) ?_)
     refine hK _ _ (.mk (awl_live' [8] fun ρ hL => ?_))
     try simp only [go_sem, simprocAttr, h4, h5, h6, h7, h8, h10, h27] at hL
     try clear h4 h5 h6 h7 h8 h10 h27
     have h8 := hL
     clear hL
     clear hK K
     refine awl_ret ?_
     refine blk_ret ?_
     refine ret0 (by simp only [go_sem, simprocAttr, h8]; exact rfl) ?_
     try simp only [go_sem, simprocAttr]
     all_goals try clear hR1
     all_goals (rw [valueOf, if_neg c1, if_neg c2, if_neg c3, if_pos c4] <;> rfl)
    ·
     try simp only [cnd] at c4
     refine awl_seq ?_
     refine awl_regS _ rfl fun K hK => ?_
     try simp only [go_sem, simprocAttr, h4, h5, h6, h7, h8, h10, h27]
     repeat' (refine And.intro (by first | rfl | omega | (simp; done)) ?_)
     refine hK _ _ (.mk (awl_live' [4, 5, 6, 7, 8, 10, 33] fun ρ hL => ?_))
     try simp only [go_sem, simprocAttr, h4, h5, h6, h7, h8, h10, h27] at hL
     try clear h4 h5 h6 h7 h8 h10 h27
     obtain ⟨h4, h5, h6, h7, h8, h10, h33⟩ := hL
     clear hK K
     refine awl_cond h33 (fun c5 => ?_) (fun c5 => ?_)
     ·
      try simp only [cnd] at c5
      refine awl_seq ?_
      refine awl_regS _ rfl fun K hK => ?_
      try simp only [go_sem, simprocAttr, h4, h5, h6, h7, h8, h10, h33]
      repeat' (refine And.intro (by first | rfl | omega | (simp; done)) ?_)
      refine opS_call_ro rfl (sat_spec_Narrow ?_ ?_) ?ha ?hv ?hh ?_
      case ha => simp only [go_sem, simprocAttr, h4, h5, h6, h7, h8, h10, h33]; first | done | rfl
      case hv => first | rfl | (simp only [go_sem]; done)
      case hh => first | rfl | (simp only [go_sem]; done)
      try simp only [go_sem, simprocAttr, h4, h5, h6, h7, h8, h10, h33]
      repeat' (refine And.intro (by first | rfl | omega | (simp; done)) ?_)
      refine hK _ _ (.mk (awl_live' [8] fun ρ hL => ?_))
      try simp only [go_sem, simprocAttr, h4, h5, h6, h7, h8, h10, h33] at hL
      try clear h4 h5 h6 h7 h8 h10 h33
      have h8 := hL
      clear hL
      clear hK K
      refine awl_ret ?_
      refine blk_ret ?_
      refine ret0 (by simp only [go_sem, simprocAttr, h8]; exact rfl) ?_
      try simp only [go_sem, simprocAttr]
      all_goals try clear hR1
      all_goals (rw [valueOf, if_neg c1, if_neg c2, if_neg c3, if_neg c4, if_pos c5] <;> rfl)
     ·
      try simp only [cnd] at c5
      refine awl_seq ?_
      refine awl_regS _ rfl fun K hK => ?_
      try simp only [go_sem, simprocAttr, h4, h5, h6, h7, h8, h10, h33]
      repeat' (refine And.intro (by first | rfl | omega | (simp; done)) ?_)
      refine hK _ _ (.mk (awl_live' [4, 5, 6, 7, 8, 10, 39] fun ρ hL => ?_))
      try simp only [go_sem, simprocAttr, h4, h5, h6, h7, h8, h10, h33] at hL
      try clear h4 h5 h6 h7 h8 h10 h33
      obtain ⟨h4, h5, h6, h7, h8, h10, h39⟩ := hL
      clear hK K
      refine awl_cond h39 (fun c6 => ?_) (fun c6 => ?_)
      ·
       try simp only [cnd] at c6
       refine awl_seq ?_
       refine awl_regS _ rfl fun K hK => ?_
       try simp only [go_sem, simprocAttr, h4, h5, h6, h7, h8, h10, h39]
       repeat' (refine And.intro (by first | rfl | omega | (simp; done)) ?_)
       refine opS_call_ro rfl (sat_spec_Point ?_ ?_) ?ha ?hv ?hh ?_
       case ha => simp only [go_sem, simprocAttr, h4, h5, h6, h7, h8, h10, h39]; first | done | rfl
       case hv => first | rfl | (simp only [go_sem]; done)
       case hh => first | rfl | (simp only [go_sem]; done)
       try simp only [go_sem, simprocAttr, h4, h5, h6, h7, h8, h10, h39]
       repeat' (refine And.intro (by first | rfl | omega | (simp; done)) ?_)
       refine hK _ _ (.mk (awl_live' [8] fun ρ hL => ?_))
       try simp only [go_sem, simprocAttr, h4, h5, h6, h7, h8, h10, h39] at hL
       try clear h4 h5 h6 h7 h8 h10 h39
       have h8 := hL
       clear hL
       clear hK K
       refine awl_ret ?_
       refine blk_ret ?_
       refine ret0 (by simp only [go_sem, simprocAttr, h8]; exact rfl) ?_
       try simp only [go_sem, simprocAttr]
       all_goals try clear hR1
       all_goals (rw [valueOf, if_neg c1, if_neg c2, if_neg c3, if_neg c4, if_neg c5, if_pos c6] <;> rfl)
      ·
       try simp only [cnd] at c6
       refine awl_seq ?_
       refine awl_regS _ rfl fun K hK => ?_
       try simp only [go_sem, simprocAttr, h4, h5, h6, h7, h8, h10, h39]
       repeat' (refine And.intro (by first | rfl | omega | (simp; done)) ?_)
       refine hK _ _ (.mk (awl_live' [5, 6, 7, 8, 10, 51] fun ρ hL => ?_))
       try simp only [go_sem, simprocAttr, h4, h5, h6, h7, h8, h10, h39] at hL
       try clear h4 h5 h6 h7 h8 h10 h39
       obtain ⟨h5, h6, h7, h8, h10, h51⟩ := hL
       clear hK K
       refine awl_cond h51 (fun c7 => ?_) (fun c7 => ?_)
       ·
        try simp only [cnd] at c7
        refine awl_seq ?_
        refine awl_regS _ rfl fun K hK => ?_
        try simp only [go_sem, simprocAttr, h5, h6, h7, h8, h10, h51]
        repeat' (refine And.intro (by first | rfl | omega | (simp; done)) ?_)
        refine opS_call_ro rfl (sat_spec_SealBy ?_ ?_) ?ha ?hv ?hh ?_
        case ha => simp only [go_sem, simprocAttr, h5, h6, h7, h8, h10, h51]; first | done | rfl
        case hv => first | rfl | (simp only [go_sem]; done)
        case hh => first | rfl | (simp only [go_sem]; done)
        try simp only [go_sem, simprocAttr, h5, h6, h7, h8, h10, h51]
        repeat' (refine And.intro (by first | rfl | omega | (simp; done)) ?_)
        refine hK _ _ (.mk (awl_live' [8] fun ρ hL => ?_))
        try simp only [go_sem, simprocAttr, h5, h6, h7, h8, h10, h51] at hL
        try clear h5 h6 h7 h8 h10 h51
        have h8 := hL
        clear hL
        clear hK K
        refine awl_ret ?_
        refine blk_ret ?_
        refine ret0 (by simp only [go_sem, simprocAttr, h8]; exact rfl) ?_
        try simp only [go_sem, simprocAttr]
        all_goals try clear hR1
        all_goals (rw [valueOf, if_neg c1, if_neg c2, if_neg c3, if_neg c4, if_neg c5, if_neg c6, if_pos c7] <;> rfl)
       ·
        try simp only [cnd] at c7
        refine awl_seq ?_
        refine awl_regS _ rfl fun K hK => ?_
        try simp only [go_sem, simprocAttr, h5, h6, h7, h8, h10, h51]
        repeat' (refine And.intro (by first | rfl | omega | (simp; done)) ?_)
        refine hK _ _ (.mk (awl_live' [5, 6, 7, 8, 10, 56] fun ρ hL => ?_))
        try simp only [go_sem, simprocAttr, h5, h6, h7, h8, h10, h51] at hL
        try clear h5 h6 h7 h8 h10 h51
        obtain ⟨h5, h6, h7, h8, h10, h56⟩ := hL
        clear hK K
        refine awl_cond h56 (fun c8 => ?_) (fun c8 => ?_)
        ·
         try simp only [cnd] at c8
         refine awl_seq ?_
         refine awl_regS _ rfl fun K hK => ?_
         try simp only [go_sem, simprocAttr, h5, h6, h7, h8, h10, h56]
         repeat' (refine And.intro (by first | rfl | omega | (simp; done)) ?_)
         refine opS_call_ro rfl (sat_spec_OpenBy ?_ ?_) ?ha ?hv ?hh ?_
         case ha => simp only [go_sem, simprocAttr, h5, h6, h7, h8, h10, h56]; first | done | rfl
         case hv => first | rfl | (simp only [go_sem]; done)
         case hh => first | rfl | (simp only [go_sem]; done)
         try simp only [go_sem, simprocAttr, h5, h6, h7, h8, h10, h56]
         repeat' (refine And.intro (by first | rfl | omega | (simp; done)) ?_)
         refine hK _ _ (.mk (awl_live' [8] fun ρ hL => ?_))
         try simp only [go_sem, simprocAttr, h5, h6, h7, h8, h10, h56] at hL
         try clear h5 h6 h7 h8 h10 h56
         have h8 := hL
         clear hL
         clear hK K
         refine awl_ret ?_
         refine blk_ret ?_
         refine ret0 (by simp only [go_sem, simprocAttr, h8]; exact rfl) ?_
         try simp only [go_sem, simprocAttr]
         all_goals try clear hR1
         all_goals (rw [valueOf, if_neg c1, if_neg c2, if_neg c3, if_neg c4, if_neg c5, if_neg c6, if_neg c7, if_pos c8] <;> rfl)
        ·
         try simp only [cnd] at c8
         refine awl_seq ?_
         refine awl_regS _ rfl fun K hK => ?_
         try simp only [go_sem, simprocAttr, h5, h6, h7, h8, h10, h56]
         repeat' (refine And.intro (by first | rfl | omega | (simp; done)) ?_)
         refine hK _ _ (.mk (awl_live' [5, 7, 8, 61] fun ρ hL => ?_))
         try simp only [go_sem, simprocAttr, h5, h6, h7, h8, h10, h56] at hL
         try clear h5 h6 h7 h8 h10 h56
         obtain ⟨h5, h7, h8, h61⟩ := hL
         clear hK K
         refine awl_cond h61 (fun c9 => ?_) (fun c9 => ?_)
         ·
          try simp only [cnd] at c9
          refine awl_seq ?_
          refine awl_regS _ rfl fun K hK => ?_
          try simp only [go_sem, simprocAttr, h5, h7, h8, h61]
          repeat' (refine And.intro (by first | rfl | omega | (simp; done)) ?_)
          refine hK _ _ (.mk (awl_live' [8] fun ρ hL => ?_))
          try simp only [go_sem, simprocAttr, h5, h7, h8, h61] at hL
          try clear h5 h7 h8 h61
          have h8 := hL
          clear hL
          clear hK K
          refine awl_ret ?_
          refine blk_ret ?_
          refine ret0 (by simp only [go_sem, simprocAttr, h8]; exact rfl) ?_
          try simp only [go_sem, simprocAttr]
          all_goals try clear hR1
          all_goals (rw [valueOf, if_neg c1, if_neg c2, if_neg c3, if_neg c4, if_neg c5, if_neg c6, if_neg c7, if_neg c8, if_pos c9] <;> rfl)
         ·
          try simp only [cnd] at c9
          refine awl_skip ?_
          refine awl_nil ?_
          refine blk_normal (hR1 _ _ (.mk ?_))
          refine awl_seq ?_
          refine awl_seq ?_
          refine awl_regS _ rfl fun K hK => ?_
          try simp only [go_sem, simprocAttr, h5, h7, h8, h61]
          repeat' (refine And.intro (by first | rfl | omega | (simp; done)) ?_)
          refine hK _ _ (.mk (awl_live' [8, 65] fun ρ hL => ?_))
          try simp only [go_sem, simprocAttr, h5, h7, h8, h61] at hL
          try clear h5 h7 h8 h61
          obtain ⟨h8, h65⟩ := hL
          clear hK K
          refine awl_cond h65 (fun c10 => ?_) (fun c10 => ?_)
          ·
           try simp only [cnd] at c10
           refine awl_seq ?_
           refine awl_regS _ rfl fun K hK => ?_
           try simp only [go_sem, simprocAttr, h8, h65]
           repeat' (refine And.intro (by first | rfl | omega | (simp; done)) ?_)
           refine opS_call_ro rfl (sat_spec_Plain ?_) ?ha ?hv ?hh ?_
           case ha => simp only [go_sem, simprocAttr, h8, h65]; first | done | rfl
           case hv => first | rfl | (simp only [go_sem]; done)
           case hh => first | rfl | (simp only [go_sem]; done)
           try simp only [go_sem, simprocAttr, h8, h65]
           repeat' (refine And.intro (by first | rfl | omega | (simp; done)) ?_)
           refine hK _ _ (.mk (awl_live' [8] fun ρ hL => ?_))
           try simp only [go_sem, simprocAttr, h8, h65] at hL
           try clear h8 h65
           have h8 := hL
           clear hL
           clear hK K
           refine awl_ret ?_
           refine ret0 (by simp only [go_sem, simprocAttr, h8]; exact rfl) ?_
           try simp only [go_sem, simprocAttr]
           all_goals try clear hR1
           all_goals (rw [valueOf, if_neg c1, if_neg c2, if_neg c3, if_neg c4, if_neg c5, if_neg c6, if_neg c7, if_neg c8, if_neg c9, isW, if_pos c10] <;> rfl)
          ·
           try simp only [cnd] at c10
           refine awl_skip ?_
           refine awl_seq ?_
           refine awl_regS _ rfl fun K hK => ?_
           try simp only [go_sem, simprocAttr, h8, h65]
           repeat' (refine And.intro (by first | rfl | omega | (simp; done)) ?_)
           refine opS_call_ro rfl (sat_spec_Plain ?_) ?ha ?hv ?hh ?_
           case ha => simp only [go_sem, simprocAttr, h8, h65]; first | done | rfl
           case hv => first | rfl | (simp only [go_sem]; done)
           case hh => first | rfl | (simp only [go_sem]; done)
           try simp only [go_sem, simprocAttr, h8, h65]
           repeat' (refine And.intro (by first | rfl | omega | (simp; done)) ?_)
           refine hK _ _ (.mk (awl_live' [8] fun ρ hL => ?_))
           try simp only [go_sem, simprocAttr, h8, h65] at hL
           try clear h8 h65
           have h8 := hL
           clear hL
           clear hK K
           refine awl_ret ?_
           refine ret0 (by simp only [go_sem, simprocAttr, h8]; exact rfl) ?_
           try simp only [go_sem, simprocAttr]
           all_goals try clear hR1
           all_goals (rw [valueOf, if_neg c1, if_neg c2, if_neg c3, if_neg c4, if_neg c5, if_neg c6, if_neg c7, if_neg c8, if_neg c9, isW, if_neg (by rw [c10]; exact Bool.noConfusion)] <;> rfl)
set_option maxHeartbeats 8000000 in
set_option maxRecDepth 100000 in
theorem sat_impl_made (x : Ins) (a : Word) (b : Word) (g : Word) (ho : 1 ≤ x.op ∧ x.op ≤ 10) : Sat Tryz.prog 105 [.agg x.cells, .agg a.cells, .agg b.cells, .agg g.cells] [] (.agg (Word.cells (valueOf x a b g))) [] := by
 refine sat_mk [.cell 8 38] 0 68 Tryz.call105 Tryz.func105 Tryz.ntmps105 rfl rfl rfl rfl rfl ?_
 refine awl_live' [0, 1, 2, 3] fun ρ hL => ?_
 try simp only [go_sem, simprocAttr] at hL
 obtain ⟨h0, h1, h2, h3⟩ := hL
 refine awl_seq ?_
 refine awl_regS _ rfl fun K hK => ?_
 try simp only [go_sem, simprocAttr, h0, h1, h2, h3]
 repeat' (refine And.intro (by first | rfl | omega | (simp; done)) ?_)
 refine hK _ _ (.mk (awl_live' [4, 5, 6, 7, 8] fun ρ hL => ?_))
 try simp only [go_sem, simprocAttr, h0, h1, h2, h3] at hL
 try clear h0 h1 h2 h3
 obtain ⟨h4, h5, h6, h7, h8⟩ := hL
 clear hK K
 refine awl_seq ?_
 refine awl_seq ?_
 refine awl_regS _ rfl fun K hK => ?_
 try simp only [go_sem, simprocAttr, h4, h5, h6, h7, h8]
 repeat' (refine And.intro (by first | rfl | omega | (simp; done)) ?_)
 refine hK _ _ (.mk (awl_live' [4, 5, 6, 7, 8, 10] fun ρ hL => ?_))
 try simp only [go_sem, simprocAttr, h4, h5, h6, h7, h8] at hL
 try clear h4 h5 h6 h7 h8
 obtain ⟨h4, h5, h6, h7, h8, h10⟩ := hL
 clear hK K
 refine awl_block fun R1 hw1 hR1 => ?_
 refine awl_seq ?_
 refine awl_regS _ rfl fun K hK => ?_
 try simp only [go_sem, simprocAttr, h4, h5, h6, h7, h8, h10]
 repeat' (refine And.intro (by first | rfl | omega | (simp; done)) ?_)
 refine hK _ _ (.mk (awl_live' [4, 5, 6, 7, 8, 10, 11] fun ρ hL => ?_))
 try simp only [go_sem, simprocAttr, h4, h5, h6, h7, h8, h10] at hL
 try clear h4 h5 h6 h7 h8 h10
 obtain ⟨h4, h5, h6, h7, h8, h10, h11⟩ := hL
 clear hK K
 refine awl_cond h11 (fun c1 => ?_) (fun c1 => ?_)
 ·
  try simp only [cnd] at c1
  refine awl_seq ?_
  refine awl_regS _ rfl fun K hK => ?_
  try simp only [go_sem, simprocAttr, h4, h5, h6, h7, h8, h10, h11]
  repeat' (refine And.intro (by first | rfl | omega | (simp; done)) ?_)
  refine opS_call_ro rfl (sat_impl_Plain ?_) ?ha ?hv ?hh ?_
  case ha => simp only [go_sem, simprocAttr, h4, h5, h6, h7, h8, h10, h11]; first | done | rfl
  case hv => first | rfl | (simp only [go_sem]; done)
  case hh => first | rfl | (simp only [go_sem]; done)
  try simp only [go_sem, simprocAttr, h4, h5, h6, h7, h8, h10, h11]
  repeat' (refine And.intro (by first | rfl | omega | (simp; done)) ?_)
  refine hK _ _ (.mk (awl_live' [8] fun ρ hL => ?_))
  try simp only [go_sem, simprocAttr, h4, h5, h6, h7, h8, h10, h11] at hL
  try clear h4 h5 h6 h7 h8 h10 h11
  have h8 := hL
  clear hL
  clear hK K
  refine awl_ret ?_
  refine blk_ret ?_
  refine ret0 (by simp only [go_sem, simprocAttr, h8]; exact rfl) ?_
  try simp only [go_sem, simprocAttr]
  all_goals try clear hR1
  all_goals (rw [valueOf, if_pos c1] <;> rfl)
 ·
  try simp only [cnd] at c1
  refine awl_seq ?_
  refine awl_regS _ rfl fun K hK => ?_
  try simp only [go_sem, simprocAttr, h4, h5, h6, h7, h8, h10, h11]
  repeat' (refine And.intro (by first | rfl | omega | (simp; done)) ?_)
  refine hK _ _ (.mk (awl_live' [4, 5, 6, 7, 8, 10, 16] fun ρ hL => ?_))
  try simp only [go_sem, simprocAttr, h4, h5, h6, h7, h8, h10, h11] at hL
  try clear h4 h5 h6 h7 h8 h10 h11
  obtain ⟨h4, h5, h6, h7, h8, h10, h16⟩ := hL
  clear hK K
  refine awl_cond h16 (fun c2 => ?_) (fun c2 => ?_)
  ·
   try simp only [cnd] at c2
   refine awl_seq ?_
   refine awl_regS _ rfl fun K hK => ?_
   try simp only [go_sem, simprocAttr, h4, h5, h6, h7, h8, h10, h16]
   repeat' (refine And.intro (by first | rfl | omega | (simp; done)) ?_)
   refine opS_call_ro rfl (sat_impl_Plain ?_) ?ha ?hv ?hh ?_
   case ha => simp only [go_sem, simprocAttr, h4, h5, h6, h7, h8, h10, h16]; first | done | rfl
   case hv => first | rfl | (simp only [go_sem]; done)
   case hh => first | rfl | (simp only [go_sem]; done)
   try simp only [go_sem, simprocAttr, h4, h5, h6, h7, h8, h10, h16]
   repeat' (refine And.intro (by first | rfl | omega | (simp; done)) ?_)
   refine hK _ _ (.mk (awl_live' [8] fun ρ hL => ?_))
   try simp only [go_sem, simprocAttr, h4, h5, h6, h7, h8, h10, h16] at hL
   try clear h4 h5 h6 h7 h8 h10 h16
   have h8 := hL
   clear hL
   clear hK K
   refine awl_ret ?_
   refine blk_ret ?_
   refine ret0 (by simp only [go_sem, simprocAttr, h8]; exact rfl) ?_
   try simp only [go_sem, simprocAttr]
   all_goals try clear hR1
   all_goals (rw [valueOf, if_neg c1, if_pos c2] <;> rfl)
  ·
   try simp only [cnd] at c2
   refine awl_seq ?_
   refine awl_regS _ rfl fun K hK => ?_
   try simp only [go_sem, simprocAttr, h4, h5, h6, h7, h8, h10, h16]
   repeat' (refine And.intro (by first | rfl | omega | (simp; done)) ?_)
   refine hK _ _ (.mk (awl_live' [4, 5, 6, 7, 8, 10, 24] fun ρ hL => ?_))
   try simp only [go_sem, simprocAttr, h4, h5, h6, h7, h8, h10, h16] at hL
   try clear h4 h5 h6 h7 h8 h10 h16
   obtain ⟨h4, h5, h6, h7, h8, h10, h24⟩ := hL
   clear hK K
   refine awl_cond h24 (fun c3 => ?_) (fun c3 => ?_)
   ·
    try simp only [cnd] at c3
    refine awl_seq ?_
    refine awl_regS _ rfl fun K hK => ?_
    try simp only [go_sem, simprocAttr, h4, h5, h6, h7, h8, h10, h24]
    repeat' (refine And.intro (by first | rfl | omega | (simp; done)) ?_)
    refine hK _ _ (.mk (awl_live' [8] fun ρ hL => ?_))
    try simp only [go_sem, simprocAttr, h4, h5, h6, h7, h8, h10, h24] at hL
    try clear h4 h5 h6 h7 h8 h10 h24
    have h8 := hL
    clear hL
    clear hK K
    refine awl_ret ?_
    refine blk_ret ?_
    refine ret0 (by simp only [go_sem, simprocAttr, h8]; exact rfl) ?_
    try simp only [go_sem, simprocAttr]
    all_goals try clear hR1
    all_goals (rw [valueOf, if_neg c1, if_neg c2, if_pos c3] <;> rfl)
   ·
    try simp only [cnd] at c3
    refine awl_seq ?_
    refine awl_regS _ rfl fun K hK => ?_
    try simp only [go_sem, simprocAttr, h4, h5, h6, h7, h8, h10, h24]
    repeat' (refine And.intro (by first | rfl | omega | (simp; done)) ?_)
    refine hK _ _ (.mk (awl_live' [4, 5, 6, 7, 8, 10, 27] fun ρ hL => ?_))
    try simp only [go_sem, simprocAttr, h4, h5, h6, h7, h8, h10, h24] at hL
    try clear h4 h5 h6 h7 h8 h10 h24
    obtain ⟨h4, h5, h6, h7, h8, h10, h27⟩ := hL
    clear hK K
    refine awl_cond h27 (fun c4 => ?_) (fun c4 => ?_)
    ·
     try simp only [cnd] at c4
     refine awl_seq ?_
     refine awl_regS _ rfl fun K hK => ?_
     try simp only [go_sem, simprocAttr, h4, h5, h6, h7, h8, h10, h27]
     repeat' (refine And.intro (by first | rfl | omega | (simp; done)) ?_)
     refine opS_call_ro rfl (sat_impl_Weaken ?_ ?_) ?ha ?hv ?hh ?_
     case ha => simp only [go_sem, simprocAttr, h4, h5, h6, h7, h8, h10, h27]; first | done | rfl
     case hv => first | rfl | (simp only [go_sem]; done)
     case hh => first | rfl | (simp only [go_sem]; done)
     try simp only [go_sem, simprocAttr, h4, h5, h6, h7, h8, h10, h27]
     repeat' (refine And.intro (by first | rfl | omega | (simp; done)) ?_)
     refine hK _ _ (.mk (awl_live' [8] fun ρ hL => ?_))
     try simp only [go_sem, simprocAttr, h4, h5, h6, h7, h8, h10, h27] at hL
     try clear h4 h5 h6 h7 h8 h10 h27
     have h8 := hL
     clear hL
     clear hK K
     refine awl_ret ?_
     refine blk_ret ?_
     refine ret0 (by simp only [go_sem, simprocAttr, h8]; exact rfl) ?_
     try simp only [go_sem, simprocAttr]
     all_goals try clear hR1
     all_goals (rw [valueOf, if_neg c1, if_neg c2, if_neg c3, if_pos c4] <;> rfl)
    ·
     try simp only [cnd] at c4
     refine awl_seq ?_
     refine awl_regS _ rfl fun K hK => ?_
     try simp only [go_sem, simprocAttr, h4, h5, h6, h7, h8, h10, h27]
     repeat' (refine And.intro (by first | rfl | omega | (simp; done)) ?_)
     refine hK _ _ (.mk (awl_live' [4, 5, 6, 7, 8, 10, 33] fun ρ hL => ?_))
     try simp only [go_sem, simprocAttr, h4, h5, h6, h7, h8, h10, h27] at hL
     try clear h4 h5 h6 h7 h8 h10 h27
     obtain ⟨h4, h5, h6, h7, h8, h10, h33⟩ := hL
     clear hK K
     refine awl_cond h33 (fun c5 => ?_) (fun c5 => ?_)
     ·
      try simp only [cnd] at c5
      refine awl_seq ?_
      refine awl_regS _ rfl fun K hK => ?_
      try simp only [go_sem, simprocAttr, h4, h5, h6, h7, h8, h10, h33]
      repeat' (refine And.intro (by first | rfl | omega | (simp; done)) ?_)
      refine opS_call_ro rfl (sat_impl_Narrow ?_ ?_) ?ha ?hv ?hh ?_
      case ha => simp only [go_sem, simprocAttr, h4, h5, h6, h7, h8, h10, h33]; first | done | rfl
      case hv => first | rfl | (simp only [go_sem]; done)
      case hh => first | rfl | (simp only [go_sem]; done)
      try simp only [go_sem, simprocAttr, h4, h5, h6, h7, h8, h10, h33]
      repeat' (refine And.intro (by first | rfl | omega | (simp; done)) ?_)
      refine hK _ _ (.mk (awl_live' [8] fun ρ hL => ?_))
      try simp only [go_sem, simprocAttr, h4, h5, h6, h7, h8, h10, h33] at hL
      try clear h4 h5 h6 h7 h8 h10 h33
      have h8 := hL
      clear hL
      clear hK K
      refine awl_ret ?_
      refine blk_ret ?_
      refine ret0 (by simp only [go_sem, simprocAttr, h8]; exact rfl) ?_
      try simp only [go_sem, simprocAttr]
      all_goals try clear hR1
      all_goals (rw [valueOf, if_neg c1, if_neg c2, if_neg c3, if_neg c4, if_pos c5] <;> rfl)
     ·
      try simp only [cnd] at c5
      refine awl_seq ?_
      refine awl_regS _ rfl fun K hK => ?_
      try simp only [go_sem, simprocAttr, h4, h5, h6, h7, h8, h10, h33]
      repeat' (refine And.intro (by first | rfl | omega | (simp; done)) ?_)
      refine hK _ _ (.mk (awl_live' [4, 5, 6, 7, 8, 10, 39] fun ρ hL => ?_))
      try simp only [go_sem, simprocAttr, h4, h5, h6, h7, h8, h10, h33] at hL
      try clear h4 h5 h6 h7 h8 h10 h33
      obtain ⟨h4, h5, h6, h7, h8, h10, h39⟩ := hL
      clear hK K
      refine awl_cond h39 (fun c6 => ?_) (fun c6 => ?_)
      ·
       try simp only [cnd] at c6
       refine awl_seq ?_
       refine awl_regS _ rfl fun K hK => ?_
       try simp only [go_sem, simprocAttr, h4, h5, h6, h7, h8, h10, h39]
       repeat' (refine And.intro (by first | rfl | omega | (simp; done)) ?_)
       refine opS_call_ro rfl (sat_impl_Point ?_ ?_) ?ha ?hv ?hh ?_
       case ha => simp only [go_sem, simprocAttr, h4, h5, h6, h7, h8, h10, h39]; first | done | rfl
       case hv => first | rfl | (simp only [go_sem]; done)
       case hh => first | rfl | (simp only [go_sem]; done)
       try simp only [go_sem, simprocAttr, h4, h5, h6, h7, h8, h10, h39]
       repeat' (refine And.intro (by first | rfl | omega | (simp; done)) ?_)
       refine hK _ _ (.mk (awl_live' [8] fun ρ hL => ?_))
       try simp only [go_sem, simprocAttr, h4, h5, h6, h7, h8, h10, h39] at hL
       try clear h4 h5 h6 h7 h8 h10 h39
       have h8 := hL
       clear hL
       clear hK K
       refine awl_ret ?_
       refine blk_ret ?_
       refine ret0 (by simp only [go_sem, simprocAttr, h8]; exact rfl) ?_
       try simp only [go_sem, simprocAttr]
       all_goals try clear hR1
       all_goals (rw [valueOf, if_neg c1, if_neg c2, if_neg c3, if_neg c4, if_neg c5, if_pos c6] <;> rfl)
      ·
       try simp only [cnd] at c6
       refine awl_seq ?_
       refine awl_regS _ rfl fun K hK => ?_
       try simp only [go_sem, simprocAttr, h4, h5, h6, h7, h8, h10, h39]
       repeat' (refine And.intro (by first | rfl | omega | (simp; done)) ?_)
       refine hK _ _ (.mk (awl_live' [5, 6, 7, 8, 10, 51] fun ρ hL => ?_))
       try simp only [go_sem, simprocAttr, h4, h5, h6, h7, h8, h10, h39] at hL
       try clear h4 h5 h6 h7 h8 h10 h39
       obtain ⟨h5, h6, h7, h8, h10, h51⟩ := hL
       clear hK K
       refine awl_cond h51 (fun c7 => ?_) (fun c7 => ?_)
       ·
        try simp only [cnd] at c7
        refine awl_seq ?_
        refine awl_regS _ rfl fun K hK => ?_
        try simp only [go_sem, simprocAttr, h5, h6, h7, h8, h10, h51]
        repeat' (refine And.intro (by first | rfl | omega | (simp; done)) ?_)
        refine opS_call_ro rfl (sat_impl_SealBy ?_ ?_) ?ha ?hv ?hh ?_
        case ha => simp only [go_sem, simprocAttr, h5, h6, h7, h8, h10, h51]; first | done | rfl
        case hv => first | rfl | (simp only [go_sem]; done)
        case hh => first | rfl | (simp only [go_sem]; done)
        try simp only [go_sem, simprocAttr, h5, h6, h7, h8, h10, h51]
        repeat' (refine And.intro (by first | rfl | omega | (simp; done)) ?_)
        refine hK _ _ (.mk (awl_live' [8] fun ρ hL => ?_))
        try simp only [go_sem, simprocAttr, h5, h6, h7, h8, h10, h51] at hL
        try clear h5 h6 h7 h8 h10 h51
        have h8 := hL
        clear hL
        clear hK K
        refine awl_ret ?_
        refine blk_ret ?_
        refine ret0 (by simp only [go_sem, simprocAttr, h8]; exact rfl) ?_
        try simp only [go_sem, simprocAttr]
        all_goals try clear hR1
        all_goals (rw [valueOf, if_neg c1, if_neg c2, if_neg c3, if_neg c4, if_neg c5, if_neg c6, if_pos c7] <;> rfl)
       ·
        try simp only [cnd] at c7
        refine awl_seq ?_
        refine awl_regS _ rfl fun K hK => ?_
        try simp only [go_sem, simprocAttr, h5, h6, h7, h8, h10, h51]
        repeat' (refine And.intro (by first | rfl | omega | (simp; done)) ?_)
        refine hK _ _ (.mk (awl_live' [5, 6, 7, 8, 10, 56] fun ρ hL => ?_))
        try simp only [go_sem, simprocAttr, h5, h6, h7, h8, h10, h51] at hL
        try clear h5 h6 h7 h8 h10 h51
        obtain ⟨h5, h6, h7, h8, h10, h56⟩ := hL
        clear hK K
        refine awl_cond h56 (fun c8 => ?_) (fun c8 => ?_)
        ·
         try simp only [cnd] at c8
         refine awl_seq ?_
         refine awl_regS _ rfl fun K hK => ?_
         try simp only [go_sem, simprocAttr, h5, h6, h7, h8, h10, h56]
         repeat' (refine And.intro (by first | rfl | omega | (simp; done)) ?_)
         refine opS_call_ro rfl (sat_impl_OpenBy ?_ ?_) ?ha ?hv ?hh ?_
         case ha => simp only [go_sem, simprocAttr, h5, h6, h7, h8, h10, h56]; first | done | rfl
         case hv => first | rfl | (simp only [go_sem]; done)
         case hh => first | rfl | (simp only [go_sem]; done)
         try simp only [go_sem, simprocAttr, h5, h6, h7, h8, h10, h56]
         repeat' (refine And.intro (by first | rfl | omega | (simp; done)) ?_)
         refine hK _ _ (.mk (awl_live' [8] fun ρ hL => ?_))
         try simp only [go_sem, simprocAttr, h5, h6, h7, h8, h10, h56] at hL
         try clear h5 h6 h7 h8 h10 h56
         have h8 := hL
         clear hL
         clear hK K
         refine awl_ret ?_
         refine blk_ret ?_
         refine ret0 (by simp only [go_sem, simprocAttr, h8]; exact rfl) ?_
         try simp only [go_sem, simprocAttr]
         all_goals try clear hR1
         all_goals (rw [valueOf, if_neg c1, if_neg c2, if_neg c3, if_neg c4, if_neg c5, if_neg c6, if_neg c7, if_pos c8] <;> rfl)
        ·
         try simp only [cnd] at c8
         refine awl_seq ?_
         refine awl_regS _ rfl fun K hK => ?_
         try simp only [go_sem, simprocAttr, h5, h6, h7, h8, h10, h56]
         repeat' (refine And.intro (by first | rfl | omega | (simp; done)) ?_)
         refine hK _ _ (.mk (awl_live' [5, 7, 8, 61] fun ρ hL => ?_))
         try simp only [go_sem, simprocAttr, h5, h6, h7, h8, h10, h56] at hL
         try clear h5 h6 h7 h8 h10 h56
         obtain ⟨h5, h7, h8, h61⟩ := hL
         clear hK K
         refine awl_cond h61 (fun c9 => ?_) (fun c9 => ?_)
         ·
          try simp only [cnd] at c9
          refine awl_seq ?_
          refine awl_seq ?_
          refine awl_regS _ rfl fun K hK => ?_
          try simp only [go_sem, simprocAttr, h5, h7, h8, h61]
          repeat' (refine And.intro (by first | rfl | omega | (simp; done)) ?_)
          refine hK _ _ (.mk (awl_live' [8, 64] fun ρ hL => ?_))
          try simp only [go_sem, simprocAttr, h5, h7, h8, h61] at hL
          try clear h5 h7 h8 h61
          obtain ⟨h8, h64⟩ := hL
          clear hK K
          refine awl_cond h64 (fun c10 => ?_) (fun c10 => ?_)
          ·
           try simp only [cnd] at c10
           refine awl_seq ?_
           refine awl_regS _ rfl fun K hK => ?_
           try simp only [go_sem, simprocAttr, h8, h64]
           repeat' (refine And.intro (by first | rfl | omega | (simp; done)) ?_)
           refine opS_call_ro rfl (sat_impl_Plain ?_) ?ha ?hv ?hh ?_
           case ha => simp only [go_sem, simprocAttr, h8, h64]; first | done | rfl
           case hv => first | rfl | (simp only [go_sem]; done)
           case hh => first | rfl | (simp only [go_sem]; done)
           try simp only [go_sem, simprocAttr, h8, h64]
           repeat' (refine And.intro (by first | rfl | omega | (simp; done)) ?_)
           refine hK _ _ (.mk (awl_live' [8] fun ρ hL => ?_))
           try simp only [go_sem, simprocAttr, h8, h64] at hL
           try clear h8 h64
           have h8 := hL
           clear hL
           clear hK K
           refine awl_ret ?_
           refine blk_ret ?_
           refine ret0 (by simp only [go_sem, simprocAttr, h8]; exact rfl) ?_
           try simp only [go_sem, simprocAttr]
           all_goals try clear hR1
           all_goals (rw [valueOf, if_neg c1, if_neg c2, if_neg c3, if_neg c4, if_neg c5, if_neg c6, if_neg c7, if_neg c8, if_neg (by omega), isW, if_pos c10] <;> rfl)
          ·
           try simp only [cnd] at c10
           refine awl_skip ?_
           refine awl_seq ?_
           refine awl_regS _ rfl fun K hK => ?_
           try simp only [go_sem, simprocAttr, h8, h64]
           repeat' (refine And.intro (by first | rfl | omega | (simp; done)) ?_)
           refine opS_call_ro rfl (sat_impl_Plain ?_) ?ha ?hv ?hh ?_
           case ha => simp only [go_sem, simprocAttr, h8, h64]; first | done | rfl
           case hv => first | rfl | (simp only [go_sem]; done)
           case hh => first | rfl | (simp only [go_sem]; done)
           try simp only [go_sem, simprocAttr, h8, h64]
           repeat' (refine And.intro (by first | rfl | omega | (simp; done)) ?_)
           refine hK _ _ (.mk (awl_live' [8] fun ρ hL => ?_))
           try simp only [go_sem, simprocAttr, h8, h64] at hL
           try clear h8 h64
           have h8 := hL
           clear hL
           clear hK K
           refine awl_ret ?_
           refine blk_ret ?_
           refine ret0 (by simp only [go_sem, simprocAttr, h8]; exact rfl) ?_
           try simp only [go_sem, simprocAttr]
           all_goals try clear hR1
           all_goals (rw [valueOf, if_neg c1, if_neg c2, if_neg c3, if_neg c4, if_neg c5, if_neg c6, if_neg c7, if_neg c8, if_neg (by omega), isW, if_neg (by rw [c10]; exact Bool.noConfusion)] <;> rfl)
         ·
          try simp only [cnd] at c9
          refine awl_skip ?_
          refine awl_nil ?_
          refine blk_normal (hR1 _ _ (.mk ?_))
          refine awl_seq ?_
          refine awl_regS _ rfl fun K hK => ?_
          try simp only [go_sem, simprocAttr, h5, h7, h8, h61]
          repeat' (refine And.intro (by first | rfl | omega | (simp; done)) ?_)
          refine hK _ _ (.mk (awl_live' [8] fun ρ hL => ?_))
          try simp only [go_sem, simprocAttr, h5, h7, h8, h61] at hL
          try clear h5 h7 h8 h61
          have h8 := hL
          clear hL
          clear hK K
          refine awl_ret ?_
          refine ret0 (by simp only [go_sem, simprocAttr, h8]; exact rfl) ?_
          try simp only [go_sem, simprocAttr]
          all_goals try clear hR1
          all_goals (rw [valueOf, if_neg c1, if_neg c2, if_neg c3, if_neg c4, if_neg c5, if_neg c6, if_neg c7, if_neg c8, if_pos (by omega)] <;> rfl)
end Go.Proofs.YtgddflnhibhacaaGreat.AM
