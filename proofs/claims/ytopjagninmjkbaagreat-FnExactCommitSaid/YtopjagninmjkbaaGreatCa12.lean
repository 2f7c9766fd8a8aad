/- Entries in order; cores in order. No conditions but those each theorem bears. -/
import Derived.Test.YtopjagninmjkbaaGreatFa
import Derived.Test.YtopjagninmjkbaaGreatSp7
import Derived.Test.YtopjagninmjkbaaGreatCa10
import Derived.Test.YtopjagninmjkbaaGreatCa11
set_option linter.unusedSimpArgs false
set_option linter.unusedVariables false
namespace Go.Proofs.YtopjagninmjkbaaGreat.AM
open Go

set_option maxHeartbeats 8000000 in
set_option maxRecDepth 100000 in
theorem sat_impl_entryOk (x : Ent)  : Sat Tryz.prog 70 [.agg x.cells] [] (.bool (entOk x)) [] := by
 refine sat_mk [.tmp 2] 0 58 Tryz.call70 Tryz.func70 Tryz.ntmps70 rfl rfl rfl rfl rfl ?_
 refine awl_live' [0] fun ρ hL => ?_
 try simp only [go_sem, simprocAttr] at hL
 have h0 := hL
 clear hL
 refine awl_seq ?_
 refine awl_regS _ rfl fun K hK => ?_
 try simp only [go_sem, simprocAttr, h0]
 repeat' (refine And.intro (by first | rfl | omega | (simp; done)) ?_)
 refine hK _ _ (.mk (awl_live' [1] fun ρ hL => ?_))
 try simp only [go_sem, simprocAttr, h0] at hL
 try clear h0
 have h1 := hL
 clear hL
 clear hK K
 refine awl_seq ?_
 refine awl_regS _ rfl fun K hK => ?_
 try simp only [go_sem, simprocAttr, h1]
 repeat' (refine And.intro (by first | rfl | omega | (simp; done)) ?_)
 refine opS_call_ro rfl (sat_impl_WordOk ?_) ?ha ?hv ?hh ?_
 case ha => simp only [go_sem, simprocAttr, h1]; first | done | rfl
 case hv => first | rfl | (simp only [go_sem]; done)
 case hh => first | rfl | (simp only [go_sem]; done)
 try simp only [go_sem, simprocAttr, h1]
 repeat' (refine And.intro (by first | rfl | omega | (simp; done)) ?_)
 refine awpS_live [1, 6] fun ρ hL => ?_
 try simp only [go_sem, simprocAttr, h1] at hL
 try clear h1
 obtain ⟨h1, h6⟩ := hL
 refine grp_andN (tc := 6) (tv := 9) (td := 10) (v := ?v1) 3 rfl [1] h6 rfl (fun hb K1 hK1 => ?run) (fun hb => ?skip) (fun ρ hP hL => ?_)
 case skip =>
  exact awpS_skip (want := true) (b := _) (by rw [hb]; rfl) _ [] ρ h6 (fun _ _ => rfl) (by simp) rfl
 case run =>
  simp only [List.take_succ_cons, List.take_zero]
  rw [hb] at h6
  try simp only [go_sem, simprocAttr, h1, h6]
  repeat' (refine And.intro (by first | rfl | omega | (simp; done)) ?_)
  refine opS_call_ro rfl (sat_impl_WordOk ?_) ?ha ?hv ?hh ?_
  case ha => simp only [go_sem, simprocAttr, h1, h6]; first | done | rfl
  case hv => first | rfl | (simp only [go_sem]; done)
  case hh => first | rfl | (simp only [go_sem]; done)
  try simp only [go_sem, simprocAttr, h1, h6]
  repeat' (refine And.intro (by first | rfl | omega | (simp; done)) ?_)
  exact hK1 _ (by simp only [go_sem, simprocAttr, h1, h6]) (by simp only [go_sem, simprocAttr, h1, h6]; exact rfl) (by simp only [go_sem, simprocAttr, h1, h6])
 simp only [List.drop_succ_cons, List.drop_zero]
 try simp only [go_sem, simprocAttr, h1, h6] at hL
 try clear h1 h6
 have h1 := hL
 clear hL
 have h10 := hP
 clear hP
 try simp only [go_sem, simprocAttr, h1, h10]
 repeat' (refine And.intro (by first | rfl | omega | (simp; done)) ?_)
 refine awpS_live [1, 11] fun ρ hL => ?_
 try simp only [go_sem, simprocAttr, h1, h10] at hL
 try clear h1 h10
 obtain ⟨h1, h11⟩ := hL
 refine grp_andN (tc := 11) (tv := 15) (td := 16) (v := ?v2) 4 rfl [1] h11 rfl (fun hb K1 hK1 => ?run) (fun hb => ?skip) (fun ρ hP hL => ?_)
 case skip =>
  exact awpS_skip (want := true) (b := _) (by rw [hb]; rfl) _ [] ρ h11 (fun _ _ => rfl) (by simp) rfl
 case run =>
  simp only [List.take_succ_cons, List.take_zero]
  rw [hb] at h11
  try simp only [go_sem, simprocAttr, h1, h11]
  repeat' (refine And.intro (by first | rfl | omega | (simp; done)) ?_)
  refine opS_call_ro rfl (sat_impl_WordOk ?_) ?ha ?hv ?hh ?_
  case ha => simp only [go_sem, simprocAttr, h1, h11]; first | done | rfl
  case hv => first | rfl | (simp only [go_sem]; done)
  case hh => first | rfl | (simp only [go_sem]; done)
  try simp only [go_sem, simprocAttr, h1, h11]
  repeat' (refine And.intro (by first | rfl | omega | (simp; done)) ?_)
  exact hK1 _ (by simp only [go_sem, simprocAttr, h1, h11]) (by simp only [go_sem, simprocAttr, h1, h11]; exact rfl) (by simp only [go_sem, simprocAttr, h1, h11])
 simp only [List.drop_succ_cons, List.drop_zero]
 try simp only [go_sem, simprocAttr, h1, h11] at hL
 try clear h1 h11
 have h1 := hL
 clear hL
 have h16 := hP
 clear hP
 try simp only [go_sem, simprocAttr, h1, h16]
 repeat' (refine And.intro (by first | rfl | omega | (simp; done)) ?_)
 refine awpS_live [1, 17] fun ρ hL => ?_
 try simp only [go_sem, simprocAttr, h1, h16] at hL
 try clear h1 h16
 obtain ⟨h1, h17⟩ := hL
 refine grp_andN (tc := 17) (tv := 21) (td := 22) (v := ?v3) 4 rfl [1] h17 rfl (fun hb K1 hK1 => ?run) (fun hb => ?skip) (fun ρ hP hL => ?_)
 case skip =>
  exact awpS_skip (want := true) (b := _) (by rw [hb]; rfl) _ [] ρ h17 (fun _ _ => rfl) (by simp) rfl
 case run =>
  simp only [List.take_succ_cons, List.take_zero]
  rw [hb] at h17
  try simp only [go_sem, simprocAttr, h1, h17]
  repeat' (refine And.intro (by first | rfl | omega | (simp; done)) ?_)
  refine opS_call_ro rfl (sat_impl_WordOk ?_) ?ha ?hv ?hh ?_
  case ha => simp only [go_sem, simprocAttr, h1, h17]; first | done | rfl
  case hv => first | rfl | (simp only [go_sem]; done)
  case hh => first | rfl | (simp only [go_sem]; done)
  try simp only [go_sem, simprocAttr, h1, h17]
  repeat' (refine And.intro (by first | rfl | omega | (simp; done)) ?_)
  exact hK1 _ (by simp only [go_sem, simprocAttr, h1, h17]) (by simp only [go_sem, simprocAttr, h1, h17]; exact rfl) (by simp only [go_sem, simprocAttr, h1, h17])
 simp only [List.drop_succ_cons, List.drop_zero]
 try simp only [go_sem, simprocAttr, h1, h17] at hL
 try clear h1 h17
 have h1 := hL
 clear hL
 have h22 := hP
 clear hP
 try simp only [go_sem, simprocAttr, h1, h22]
 repeat' (refine And.intro (by first | rfl | omega | (simp; done)) ?_)
 refine awpS_live [1, 23] fun ρ hL => ?_
 try simp only [go_sem, simprocAttr, h1, h22] at hL
 try clear h1 h22
 obtain ⟨h1, h23⟩ := hL
 refine grp_andN (tc := 23) (tv := 27) (td := 28) (v := ?v4) 4 rfl [1] h23 rfl (fun hb K1 hK1 => ?run) (fun hb => ?skip) (fun ρ hP hL => ?_)
 case skip =>
  exact awpS_skip (want := true) (b := _) (by rw [hb]; rfl) _ [] ρ h23 (fun _ _ => rfl) (by simp) rfl
 case run =>
  simp only [List.take_succ_cons, List.take_zero]
  rw [hb] at h23
  try simp only [go_sem, simprocAttr, h1, h23]
  repeat' (refine And.intro (by first | rfl | omega | (simp; done)) ?_)
  refine opS_call_ro rfl (sat_impl_WordOk ?_) ?ha ?hv ?hh ?_
  case ha => simp only [go_sem, simprocAttr, h1, h23]; first | done | rfl
  case hv => first | rfl | (simp only [go_sem]; done)
  case hh => first | rfl | (simp only [go_sem]; done)
  try simp only [go_sem, simprocAttr, h1, h23]
  repeat' (refine And.intro (by first | rfl | omega | (simp; done)) ?_)
  exact hK1 _ (by simp only [go_sem, simprocAttr, h1, h23]) (by simp only [go_sem, simprocAttr, h1, h23]; exact rfl) (by simp only [go_sem, simprocAttr, h1, h23])
 simp only [List.drop_succ_cons, List.drop_zero]
 try simp only [go_sem, simprocAttr, h1, h23] at hL
 try clear h1 h23
 have h1 := hL
 clear hL
 have h28 := hP
 clear hP
 try simp only [go_sem, simprocAttr, h1, h28]
 repeat' (refine And.intro (by first | rfl | omega | (simp; done)) ?_)
 refine awpS_live [1, 29] fun ρ hL => ?_
 try simp only [go_sem, simprocAttr, h1, h28] at hL
 try clear h1 h28
 obtain ⟨h1, h29⟩ := hL
 refine grp_andN (tc := 29) (tv := 38) (td := 39) (v := ?v5) 9 rfl [1] h29 rfl (fun hb K1 hK1 => ?run) (fun hb => ?skip) (fun ρ hP hL => ?_)
 case skip =>
  exact awpS_skip (want := true) (b := _) (by rw [hb]; rfl) _ [] ρ h29 (fun _ _ => rfl) (by simp) rfl
 case run =>
  simp only [List.take_succ_cons, List.take_zero]
  rw [hb] at h29
  have g6_1 := h1
  have g6_29 := h29
  have hK1_6 := hK1
  try simp only [go_sem, simprocAttr, h1, h29]
  repeat' (refine And.intro (by first | rfl | omega | (simp; done)) ?_)
  refine opS_call_ro rfl (sat_impl_InsOk ?_) ?ha ?hv ?hh ?_
  case ha => simp only [go_sem, simprocAttr, h1, h29]; first | done | rfl
  case hv => first | rfl | (simp only [go_sem]; done)
  case hh => first | rfl | (simp only [go_sem]; done)
  try simp only [go_sem, simprocAttr, h1, h29]
  repeat' (refine And.intro (by first | rfl | omega | (simp; done)) ?_)
  refine awpS_live [1, 29, 33] fun ρ hL => ?_
  try simp only [go_sem, simprocAttr, h1, h29] at hL
  try clear h1 h29
  obtain ⟨h1, h29, h33⟩ := hL
  refine grp_orGN (tc := 33) (tv := 37) (td := 38) (v := ?v7) 4 29 true rfl h29 [1, 29] rfl h33 rfl (fun hb K1 hK1 => ?run) (fun hb => ?skip) (fun ρ hP hL => ?_)
  case skip =>
   exact awpS_skip (want := false) (b := _) (by rw [hb]; rfl) _ [] ρ h33 (fun _ _ => rfl) (by simp) rfl
  case run =>
   simp only [List.take_succ_cons, List.take_zero]
   rw [hb] at h33
   try simp only [go_sem, simprocAttr, h1, h29, h33]
   repeat' (refine And.intro (by first | rfl | omega | (simp; done)) ?_)
   exact hK1 _ (by simp only [go_sem, simprocAttr, h1, h29, h33]) (by simp only [go_sem, simprocAttr, h1, h29, h33]; exact rfl) (by simp only [go_sem, simprocAttr, h1, h29, h33])
  simp only [List.drop_succ_cons, List.drop_zero]
  try simp only [go_sem, simprocAttr, h1, h29, h33] at hL
  try clear h1 h29 h33
  obtain ⟨h1, h29⟩ := hL
  have h38 := hP
  clear hP
  try simp only [go_sem, simprocAttr, h1, h29, h38]
  repeat' (refine And.intro (by first | rfl | omega | (simp; done)) ?_)
  exact hK1_6 _ (by simp only [go_sem, simprocAttr, h1, h29, h38, g6_1, g6_29]) (by simp only [go_sem, simprocAttr, h1, h29, h38, g6_1, g6_29]; exact rfl) (by simp only [go_sem, simprocAttr, h1, h29, h38, g6_1, g6_29])
 simp only [List.drop_succ_cons, List.drop_zero]
 try simp only [go_sem, simprocAttr, h1, h29] at hL
 try clear h1 h29
 have h1 := hL
 clear hL
 have h39 := hP
 clear hP
 try simp only [go_sem, simprocAttr, h1, h39]
 repeat' (refine And.intro (by first | rfl | omega | (simp; done)) ?_)
 refine awpS_live [1, 40] fun ρ hL => ?_
 try simp only [go_sem, simprocAttr, h1, h39] at hL
 try clear h1 h39
 obtain ⟨h1, h40⟩ := hL
 refine grp_andN (tc := 40) (tv := 44) (td := 45) (v := ?v8) 4 rfl [1] h40 rfl (fun hb K1 hK1 => ?run) (fun hb => ?skip) (fun ρ hP hL => ?_)
 case skip =>
  exact awpS_skip (want := true) (b := _) (by rw [hb]; rfl) _ [] ρ h40 (fun _ _ => rfl) (by simp) rfl
 case run =>
  simp only [List.take_succ_cons, List.take_zero]
  rw [hb] at h40
  try simp only [go_sem, simprocAttr, h1, h40]
  repeat' (refine And.intro (by first | rfl | omega | (simp; done)) ?_)
  refine opS_call_ro rfl (sat_impl_in ?_ ?_ ?_) ?ha ?hv ?hh ?_
  case ha => simp only [go_sem, simprocAttr, h1, h40]; first | done | rfl
  case hv => first | rfl | (simp only [go_sem]; done)
  case hh => first | rfl | (simp only [go_sem]; done)
  try simp only [go_sem, simprocAttr, h1, h40]
  repeat' (refine And.intro (by first | rfl | omega | (simp; done)) ?_)
  exact hK1 _ (by simp only [go_sem, simprocAttr, h1, h40]) (by simp only [go_sem, simprocAttr, h1, h40]; exact rfl) (by simp only [go_sem, simprocAttr, h1, h40])
 simp only [List.drop_succ_cons, List.drop_zero]
 try simp only [go_sem, simprocAttr, h1, h40] at hL
 try clear h1 h40
 have h1 := hL
 clear hL
 have h45 := hP
 clear hP
 try simp only [go_sem, simprocAttr, h1, h45]
 repeat' (refine And.intro (by first | rfl | omega | (simp; done)) ?_)
 refine awpS_live [1, 46] fun ρ hL => ?_
 try simp only [go_sem, simprocAttr, h1, h45] at hL
 try clear h1 h45
 obtain ⟨h1, h46⟩ := hL
 refine grp_andN (tc := 46) (tv := 50) (td := 51) (v := ?v9) 4 rfl [1] h46 rfl (fun hb K1 hK1 => ?run) (fun hb => ?skip) (fun ρ hP hL => ?_)
 case skip =>
  exact awpS_skip (want := true) (b := _) (by rw [hb]; rfl) _ [] ρ h46 (fun _ _ => rfl) (by simp) rfl
 case run =>
  simp only [List.take_succ_cons, List.take_zero]
  rw [hb] at h46
  try simp only [go_sem, simprocAttr, h1, h46]
  repeat' (refine And.intro (by first | rfl | omega | (simp; done)) ?_)
  refine opS_call_ro rfl (sat_impl_in ?_ ?_ ?_) ?ha ?hv ?hh ?_
  case ha => simp only [go_sem, simprocAttr, h1, h46]; first | done | rfl
  case hv => first | rfl | (simp only [go_sem]; done)
  case hh => first | rfl | (simp only [go_sem]; done)
  try simp only [go_sem, simprocAttr, h1, h46]
  repeat' (refine And.intro (by first | rfl | omega | (simp; done)) ?_)
  exact hK1 _ (by simp only [go_sem, simprocAttr, h1, h46]) (by simp only [go_sem, simprocAttr, h1, h46]; exact rfl) (by simp only [go_sem, simprocAttr, h1, h46])
 simp only [List.drop_succ_cons, List.drop_zero]
 try simp only [go_sem, simprocAttr, h1, h46] at hL
 try clear h1 h46
 have h1 := hL
 clear hL
 have h51 := hP
 clear hP
 try simp only [go_sem, simprocAttr, h1, h51]
 repeat' (refine And.intro (by first | rfl | omega | (simp; done)) ?_)
 refine awpS_live [1, 52] fun ρ hL => ?_
 try simp only [go_sem, simprocAttr, h1, h51] at hL
 try clear h1 h51
 obtain ⟨h1, h52⟩ := hL
 refine grp_andN (tc := 52) (tv := 56) (td := 57) (v := ?v10) 4 rfl [] h52 rfl (fun hb K1 hK1 => ?run) (fun hb => ?skip) (fun ρ hP hL => ?_)
 case skip =>
  exact awpS_skip (want := true) (b := _) (by rw [hb]; rfl) _ [] ρ h52 (fun _ _ => rfl) (by simp) rfl
 case run =>
  simp only [List.take_succ_cons, List.take_zero]
  rw [hb] at h52
  try simp only [go_sem, simprocAttr, h1, h52]
  repeat' (refine And.intro (by first | rfl | omega | (simp; done)) ?_)
  exact hK1 _ (by simp only [go_sem, simprocAttr, h1, h52]) (by simp only [go_sem, simprocAttr, h1, h52]; exact rfl) (by simp only [go_sem, simprocAttr, h1, h52])
 simp only [List.drop_succ_cons, List.drop_zero]
 clear hL h1 h52
 have h57 := hP
 clear hP
 try simp only [go_sem, simprocAttr, h57]
 repeat' (refine And.intro (by first | rfl | omega | (simp; done)) ?_)
 refine hK _ _ (.mk (awl_live' [2] fun ρ hL => ?_))
 try simp only [go_sem, simprocAttr, h57] at hL
 try clear h57
 have h2 := hL
 clear hL
 clear hK K
 refine awl_ret ?_
 refine ret0 (by simp only [go_sem, simprocAttr, h2]; exact rfl) ?_
 try simp only [go_sem, simprocAttr]
 all_goals (rw [AV.bool.injEq]; simp only [entOk, ins_zero])
set_option maxHeartbeats 8000000 in
set_option maxRecDepth 100000 in
theorem sat_impl_CoreOk_1 (x : Ent)  : Sat Tryz.prog 69 [.agg x.cells] [] (.bool (!entOk x)) [] := by
 refine sat_mk [.tmp 2] 0 6 Tryz.call69 Tryz.func69 Tryz.ntmps69 rfl rfl rfl rfl rfl ?_
 refine awl_live' [0] fun ρ hL => ?_
 try simp only [go_sem, simprocAttr] at hL
 have h0 := hL
 clear hL
 refine awl_seq ?_
 refine awl_regS _ rfl fun K hK => ?_
 try simp only [go_sem, simprocAttr, h0]
 repeat' (refine And.intro (by first | rfl | omega | (simp; done)) ?_)
 refine hK _ _ (.mk (awl_live' [1] fun ρ hL => ?_))
 try simp only [go_sem, simprocAttr, h0] at hL
 try clear h0
 have h1 := hL
 clear hL
 clear hK K
 refine awl_seq ?_
 refine awl_regS _ rfl fun K hK => ?_
 try simp only [go_sem, simprocAttr, h1]
 repeat' (refine And.intro (by first | rfl | omega | (simp; done)) ?_)
 refine opS_call_ro rfl (sat_impl_entryOk x) ?ha ?hv ?hh ?_
 case ha => simp only [go_sem, simprocAttr, h1]; first | done | rfl
 case hv => first | rfl | (simp only [go_sem]; done)
 case hh => first | rfl | (simp only [go_sem]; done)
 try simp only [go_sem, simprocAttr, h1]
 repeat' (refine And.intro (by first | rfl | omega | (simp; done)) ?_)
 refine hK _ _ (.mk (awl_live' [2] fun ρ hL => ?_))
 try simp only [go_sem, simprocAttr, h1] at hL
 try clear h1
 have h2 := hL
 clear hL
 clear hK K
 refine awl_ret ?_
 refine ret0 (by simp only [go_sem, simprocAttr, h2]; exact rfl) ?_
 try simp only [go_sem, simprocAttr]
 all_goals (first | done | rfl | (simp; done) | (simp [inR]; done) | (simp_all [inR]; done) | (simp [inR]; grind))
set_option maxHeartbeats 8000000 in
set_option maxRecDepth 100000 in
theorem sat_spec_l12Entry (x : Ent)  : Sat Tryz.prog 54 [.agg x.cells] [] (.bool (entOk x)) [] := by
 refine sat_mk [.tmp 2] 0 61 Tryz.call54 Tryz.func54 Tryz.ntmps54 rfl rfl rfl rfl rfl ?_
 refine awl_live' [0] fun ρ hL => ?_
 try simp only [go_sem, simprocAttr] at hL
 have h0 := hL
 clear hL
 refine awl_seq ?_
 refine awl_regS _ rfl fun K hK => ?_
 try simp only [go_sem, simprocAttr, h0]
 repeat' (refine And.intro (by first | rfl | omega | (simp; done)) ?_)
 refine hK _ _ (.mk (awl_live' [1] fun ρ hL => ?_))
 try simp only [go_sem, simprocAttr, h0] at hL
 try clear h0
 have h1 := hL
 clear hL
 clear hK K
 refine awl_seq ?_
 refine awl_seq ?_
 refine awl_regS _ rfl fun K hK => ?_
 try simp only [go_sem, simprocAttr, h1]
 repeat' (refine And.intro (by first | rfl | omega | (simp; done)) ?_)
 refine opS_call_ro rfl (sat_spec_WordOk ?_) ?ha ?hv ?hh ?_
 case ha => simp only [go_sem, simprocAttr, h1]; first | done | rfl
 case hv => first | rfl | (simp only [go_sem]; done)
 case hh => first | rfl | (simp only [go_sem]; done)
 try simp only [go_sem, simprocAttr, h1]
 repeat' (refine And.intro (by first | rfl | omega | (simp; done)) ?_)
 refine awpS_live [1, 7] fun ρ hL => ?_
 try simp only [go_sem, simprocAttr, h1] at hL
 try clear h1
 obtain ⟨h1, h7⟩ := hL
 refine grp_orN (tc := 7) (tv := 11) (td := 12) (v := ?v1) 4 rfl [1] h7 rfl (fun hb K1 hK1 => ?run) (fun hb => ?skip) (fun ρ hP hL => ?_)
 case skip =>
  exact awpS_skip (want := false) (b := _) (by rw [hb]; rfl) _ [] ρ h7 (fun _ _ => rfl) (by simp) rfl
 case run =>
  simp only [List.take_succ_cons, List.take_zero]
  rw [hb] at h7
  try simp only [go_sem, simprocAttr, h1, h7]
  repeat' (refine And.intro (by first | rfl | omega | (simp; done)) ?_)
  refine opS_call_ro rfl (sat_spec_WordOk ?_) ?ha ?hv ?hh ?_
  case ha => simp only [go_sem, simprocAttr, h1, h7]; first | done | rfl
  case hv => first | rfl | (simp only [go_sem]; done)
  case hh => first | rfl | (simp only [go_sem]; done)
  try simp only [go_sem, simprocAttr, h1, h7]
  repeat' (refine And.intro (by first | rfl | omega | (simp; done)) ?_)
  exact hK1 _ (by simp only [go_sem, simprocAttr, h1, h7]) (by simp only [go_sem, simprocAttr, h1, h7]; exact rfl) (by simp only [go_sem, simprocAttr, h1, h7])
 simp only [List.drop_succ_cons, List.drop_zero]
 try simp only [go_sem, simprocAttr, h1, h7] at hL
 try clear h1 h7
 have h1 := hL
 clear hL
 have h12 := hP
 clear hP
 try simp only [go_sem, simprocAttr, h1, h12]
 repeat' (refine And.intro (by first | rfl | omega | (simp; done)) ?_)
 refine awpS_live [1, 13] fun ρ hL => ?_
 try simp only [go_sem, simprocAttr, h1, h12] at hL
 try clear h1 h12
 obtain ⟨h1, h13⟩ := hL
 refine grp_orN (tc := 13) (tv := 18) (td := 19) (v := ?v2) 5 rfl [1] h13 rfl (fun hb K1 hK1 => ?run) (fun hb => ?skip) (fun ρ hP hL => ?_)
 case skip =>
  exact awpS_skip (want := false) (b := _) (by rw [hb]; rfl) _ [] ρ h13 (fun _ _ => rfl) (by simp) rfl
 case run =>
  simp only [List.take_succ_cons, List.take_zero]
  rw [hb] at h13
  try simp only [go_sem, simprocAttr, h1, h13]
  repeat' (refine And.intro (by first | rfl | omega | (simp; done)) ?_)
  refine opS_call_ro rfl (sat_spec_WordOk ?_) ?ha ?hv ?hh ?_
  case ha => simp only [go_sem, simprocAttr, h1, h13]; first | done | rfl
  case hv => first | rfl | (simp only [go_sem]; done)
  case hh => first | rfl | (simp only [go_sem]; done)
  try simp only [go_sem, simprocAttr, h1, h13]
  repeat' (refine And.intro (by first | rfl | omega | (simp; done)) ?_)
  exact hK1 _ (by simp only [go_sem, simprocAttr, h1, h13]) (by simp only [go_sem, simprocAttr, h1, h13]; exact rfl) (by simp only [go_sem, simprocAttr, h1, h13])
 simp only [List.drop_succ_cons, List.drop_zero]
 try simp only [go_sem, simprocAttr, h1, h13] at hL
 try clear h1 h13
 have h1 := hL
 clear hL
 have h19 := hP
 clear hP
 try simp only [go_sem, simprocAttr, h1, h19]
 repeat' (refine And.intro (by first | rfl | omega | (simp; done)) ?_)
 refine awpS_live [1, 20] fun ρ hL => ?_
 try simp only [go_sem, simprocAttr, h1, h19] at hL
 try clear h1 h19
 obtain ⟨h1, h20⟩ := hL
 refine grp_orN (tc := 20) (tv := 25) (td := 26) (v := ?v3) 5 rfl [1] h20 rfl (fun hb K1 hK1 => ?run) (fun hb => ?skip) (fun ρ hP hL => ?_)
 case skip =>
  exact awpS_skip (want := false) (b := _) (by rw [hb]; rfl) _ [] ρ h20 (fun _ _ => rfl) (by simp) rfl
 case run =>
  simp only [List.take_succ_cons, List.take_zero]
  rw [hb] at h20
  try simp only [go_sem, simprocAttr, h1, h20]
  repeat' (refine And.intro (by first | rfl | omega | (simp; done)) ?_)
  refine opS_call_ro rfl (sat_spec_WordOk ?_) ?ha ?hv ?hh ?_
  case ha => simp only [go_sem, simprocAttr, h1, h20]; first | done | rfl
  case hv => first | rfl | (simp only [go_sem]; done)
  case hh => first | rfl | (simp only [go_sem]; done)
  try simp only [go_sem, simprocAttr, h1, h20]
  repeat' (refine And.intro (by first | rfl | omega | (simp; done)) ?_)
  exact hK1 _ (by simp only [go_sem, simprocAttr, h1, h20]) (by simp only [go_sem, simprocAttr, h1, h20]; exact rfl) (by simp only [go_sem, simprocAttr, h1, h20])
 simp only [List.drop_succ_cons, List.drop_zero]
 try simp only [go_sem, simprocAttr, h1, h20] at hL
 try clear h1 h20
 have h1 := hL
 clear hL
 have h26 := hP
 clear hP
 try simp only [go_sem, simprocAttr, h1, h26]
 repeat' (refine And.intro (by first | rfl | omega | (simp; done)) ?_)
 refine awpS_live [1, 27] fun ρ hL => ?_
 try simp only [go_sem, simprocAttr, h1, h26] at hL
 try clear h1 h26
 obtain ⟨h1, h27⟩ := hL
 refine grp_orN (tc := 27) (tv := 32) (td := 33) (v := ?v4) 5 rfl [1] h27 rfl (fun hb K1 hK1 => ?run) (fun hb => ?skip) (fun ρ hP hL => ?_)
 case skip =>
  exact awpS_skip (want := false) (b := _) (by rw [hb]; rfl) _ [] ρ h27 (fun _ _ => rfl) (by simp) rfl
 case run =>
  simp only [List.take_succ_cons, List.take_zero]
  rw [hb] at h27
  try simp only [go_sem, simprocAttr, h1, h27]
  repeat' (refine And.intro (by first | rfl | omega | (simp; done)) ?_)
  refine opS_call_ro rfl (sat_spec_WordOk ?_) ?ha ?hv ?hh ?_
  case ha => simp only [go_sem, simprocAttr, h1, h27]; first | done | rfl
  case hv => first | rfl | (simp only [go_sem]; done)
  case hh => first | rfl | (simp only [go_sem]; done)
  try simp only [go_sem, simprocAttr, h1, h27]
  repeat' (refine And.intro (by first | rfl | omega | (simp; done)) ?_)
  exact hK1 _ (by simp only [go_sem, simprocAttr, h1, h27]) (by simp only [go_sem, simprocAttr, h1, h27]; exact rfl) (by simp only [go_sem, simprocAttr, h1, h27])
 simp only [List.drop_succ_cons, List.drop_zero]
 try simp only [go_sem, simprocAttr, h1, h27] at hL
 try clear h1 h27
 have h1 := hL
 clear hL
 have h33 := hP
 clear hP
 try simp only [go_sem, simprocAttr, h1, h33]
 repeat' (refine And.intro (by first | rfl | omega | (simp; done)) ?_)
 refine hK _ _ (.mk (awl_live' [1, 33] fun ρ hL => ?_))
 try simp only [go_sem, simprocAttr, h1, h33] at hL
 try clear h1 h33
 obtain ⟨h1, h33⟩ := hL
 clear hK K
 refine awl_cond h33 (fun c1 => ?_) (fun c1 => ?_)
 ·
  try simp only [cnd] at c1
  refine awl_seq ?_
  refine awl_regS _ rfl fun K hK => ?_
  try simp only [go_sem, simprocAttr, h1, h33]
  repeat' (refine And.intro (by first | rfl | omega | (simp; done)) ?_)
  refine hK _ _ (.mk (awl_live' [2] fun ρ hL => ?_))
  try simp only [go_sem, simprocAttr, h1, h33] at hL
  try clear h1 h33
  have h2 := hL
  clear hL
  clear hK K
  refine awl_ret ?_
  refine ret0 (by simp only [go_sem, simprocAttr, h2]; exact rfl) ?_
  try simp only [go_sem, simprocAttr]
  all_goals (rcases c1 with (((c1 | c1) | c1) | c1) | c1 <;> simp only [entOk, c1, Bool.false_and, Bool.and_false])
 ·
  try simp only [cnd] at c1
  refine awl_skip ?_
  refine awl_seq ?_
  refine awl_regS _ rfl fun K hK => ?_
  try simp only [go_sem, simprocAttr, h1, h33]
  repeat' (refine And.intro (by first | rfl | omega | (simp; done)) ?_)
  refine opS_call_ro rfl (sat_spec_InsOk ?_) ?ha ?hv ?hh ?_
  case ha => simp only [go_sem, simprocAttr, h1, h33]; first | done | rfl
  case hv => first | rfl | (simp only [go_sem]; done)
  case hh => first | rfl | (simp only [go_sem]; done)
  try simp only [go_sem, simprocAttr, h1, h33]
  repeat' (refine And.intro (by first | rfl | omega | (simp; done)) ?_)
  refine awpS_live [1, 37] fun ρ hL => ?_
  try simp only [go_sem, simprocAttr, h1, h33] at hL
  try clear h1 h33
  obtain ⟨h1, h37⟩ := hL
  refine grp_orN (tc := 37) (tv := 41) (td := 42) (v := ?v5) 4 rfl [1] h37 rfl (fun hb K1 hK1 => ?run) (fun hb => ?skip) (fun ρ hP hL => ?_)
  case skip =>
   exact awpS_skip (want := false) (b := _) (by rw [hb]; rfl) _ [] ρ h37 (fun _ _ => rfl) (by simp) rfl
  case run =>
   simp only [List.take_succ_cons, List.take_zero]
   rw [hb] at h37
   try simp only [go_sem, simprocAttr, h1, h37]
   repeat' (refine And.intro (by first | rfl | omega | (simp; done)) ?_)
   exact hK1 _ (by simp only [go_sem, simprocAttr, h1, h37]) (by simp only [go_sem, simprocAttr, h1, h37]; exact rfl) (by simp only [go_sem, simprocAttr, h1, h37])
  simp only [List.drop_succ_cons, List.drop_zero]
  try simp only [go_sem, simprocAttr, h1, h37] at hL
  try clear h1 h37
  have h1 := hL
  clear hL
  have h42 := hP
  clear hP
  try simp only [go_sem, simprocAttr, h1, h42]
  repeat' (refine And.intro (by first | rfl | omega | (simp; done)) ?_)
  refine awpS_live [1, 43] fun ρ hL => ?_
  try simp only [go_sem, simprocAttr, h1, h42] at hL
  try clear h1 h42
  obtain ⟨h1, h43⟩ := hL
  refine grp_andN (tc := 43) (tv := 47) (td := 48) (v := ?v6) 4 rfl [1] h43 rfl (fun hb K1 hK1 => ?run) (fun hb => ?skip) (fun ρ hP hL => ?_)
  case skip =>
   exact awpS_skip (want := true) (b := _) (by rw [hb]; rfl) _ [] ρ h43 (fun _ _ => rfl) (by simp) rfl
  case run =>
   simp only [List.take_succ_cons, List.take_zero]
   rw [hb] at h43
   try simp only [go_sem, simprocAttr, h1, h43]
   repeat' (refine And.intro (by first | rfl | omega | (simp; done)) ?_)
   refine opS_call_ro rfl (sat_spec_l1In ?_ ?_ ?_) ?ha ?hv ?hh ?_
   case ha => simp only [go_sem, simprocAttr, h1, h43]; first | done | rfl
   case hv => first | rfl | (simp only [go_sem]; done)
   case hh => first | rfl | (simp only [go_sem]; done)
   try simp only [go_sem, simprocAttr, h1, h43]
   repeat' (refine And.intro (by first | rfl | omega | (simp; done)) ?_)
   exact hK1 _ (by simp only [go_sem, simprocAttr, h1, h43]) (by simp only [go_sem, simprocAttr, h1, h43]; exact rfl) (by simp only [go_sem, simprocAttr, h1, h43])
  simp only [List.drop_succ_cons, List.drop_zero]
  try simp only [go_sem, simprocAttr, h1, h43] at hL
  try clear h1 h43
  have h1 := hL
  clear hL
  have h48 := hP
  clear hP
  try simp only [go_sem, simprocAttr, h1, h48]
  repeat' (refine And.intro (by first | rfl | omega | (simp; done)) ?_)
  refine awpS_live [1, 49] fun ρ hL => ?_
  try simp only [go_sem, simprocAttr, h1, h48] at hL
  try clear h1 h48
  obtain ⟨h1, h49⟩ := hL
  refine grp_andN (tc := 49) (tv := 53) (td := 54) (v := ?v7) 4 rfl [1] h49 rfl (fun hb K1 hK1 => ?run) (fun hb => ?skip) (fun ρ hP hL => ?_)
  case skip =>
   exact awpS_skip (want := true) (b := _) (by rw [hb]; rfl) _ [] ρ h49 (fun _ _ => rfl) (by simp) rfl
  case run =>
   simp only [List.take_succ_cons, List.take_zero]
   rw [hb] at h49
   try simp only [go_sem, simprocAttr, h1, h49]
   repeat' (refine And.intro (by first | rfl | omega | (simp; done)) ?_)
   refine opS_call_ro rfl (sat_spec_l1In ?_ ?_ ?_) ?ha ?hv ?hh ?_
   case ha => simp only [go_sem, simprocAttr, h1, h49]; first | done | rfl
   case hv => first | rfl | (simp only [go_sem]; done)
   case hh => first | rfl | (simp only [go_sem]; done)
   try simp only [go_sem, simprocAttr, h1, h49]
   repeat' (refine And.intro (by first | rfl | omega | (simp; done)) ?_)
   exact hK1 _ (by simp only [go_sem, simprocAttr, h1, h49]) (by simp only [go_sem, simprocAttr, h1, h49]; exact rfl) (by simp only [go_sem, simprocAttr, h1, h49])
  simp only [List.drop_succ_cons, List.drop_zero]
  try simp only [go_sem, simprocAttr, h1, h49] at hL
  try clear h1 h49
  have h1 := hL
  clear hL
  have h54 := hP
  clear hP
  try simp only [go_sem, simprocAttr, h1, h54]
  repeat' (refine And.intro (by first | rfl | omega | (simp; done)) ?_)
  refine awpS_live [1, 55] fun ρ hL => ?_
  try simp only [go_sem, simprocAttr, h1, h54] at hL
  try clear h1 h54
  obtain ⟨h1, h55⟩ := hL
  refine grp_andN (tc := 55) (tv := 59) (td := 60) (v := ?v8) 4 rfl [] h55 rfl (fun hb K1 hK1 => ?run) (fun hb => ?skip) (fun ρ hP hL => ?_)
  case skip =>
   exact awpS_skip (want := true) (b := _) (by rw [hb]; rfl) _ [] ρ h55 (fun _ _ => rfl) (by simp) rfl
  case run =>
   simp only [List.take_succ_cons, List.take_zero]
   rw [hb] at h55
   try simp only [go_sem, simprocAttr, h1, h55]
   repeat' (refine And.intro (by first | rfl | omega | (simp; done)) ?_)
   exact hK1 _ (by simp only [go_sem, simprocAttr, h1, h55]) (by simp only [go_sem, simprocAttr, h1, h55]; exact rfl) (by simp only [go_sem, simprocAttr, h1, h55])
  simp only [List.drop_succ_cons, List.drop_zero]
  clear hL h1 h55
  have h60 := hP
  clear hP
  try simp only [go_sem, simprocAttr, h60]
  repeat' (refine And.intro (by first | rfl | omega | (simp; done)) ?_)
  refine hK _ _ (.mk (awl_live' [2] fun ρ hL => ?_))
  try simp only [go_sem, simprocAttr, h60] at hL
  try clear h60
  have h2 := hL
  clear hL
  clear hK K
  refine awl_ret ?_
  refine ret0 (by simp only [go_sem, simprocAttr, h2]; exact rfl) ?_
  try simp only [go_sem, simprocAttr]
  all_goals (obtain ⟨⟨⟨⟨a,b⟩,c⟩,d⟩,e⟩ := c1; simp only [entOk, a, b, c, d, e, Bool.true_and, ins_zero])
end Go.Proofs.YtopjagninmjkbaaGreat.AM
