/- Entries in order; cores in order. No conditions but those each theorem bears. -/
import Derived.Test.YtgddflnhibhacaaFa
import Derived.Test.YtgddflnhibhacaaSp7
import Derived.Test.YtgddflnhibhacaaCa11
set_option linter.unusedSimpArgs false
set_option linter.unusedVariables false
namespace Go.Proofs.Ytgddflnhibhacaa.AM
open Go

set_option maxHeartbeats 8000000 in
set_option maxRecDepth 100000 in
theorem sat_impl_entryOk (x : Ent)  : Sat Try.prog 85 [.agg x.cells] [] (.bool (entOk x)) [] := by
  refine sat_mk [.tmp 2] 0 58 Try.call85 Try.func85 Try.ntmps85 rfl rfl rfl rfl rfl ?_
  refine awl_live' [0] fun ρ hL => ?_
  try simp only [go_sem, simprocAttr] at hL
  have h0 := hL
  clear hL
  refine awl_seq ?_
  refine awl_regS [(some 1, (.box 96 (.tmp 0)), none), (some 2, (.assign (.const (.bool false))), none)] rfl fun K hK => ?_
  try simp only [go_sem, simprocAttr, h0]
  repeat' (refine And.intro (by first | rfl | omega | (simp; done)) ?_)
  refine hK _ _ (.mk (awl_live' [1] fun ρ hL => ?_))
  try simp only [go_sem, simprocAttr, h0] at hL
  try clear h0
  have h1 := hL
  clear hL
  clear hK K
  refine awl_seq ?_
  refine awl_regS [(some 3, (.fieldAddr 96 (.tmp 1) 0), none), (some 4, (.load 42 (.tmp 3)), none), (some 5, (.call ⟨(.value (.func 86)), #[(.tmp 4)], #[42]⟩), none), (some 6, (.move (.tmp 5)), none), (some 7, (.fieldAddr 96 (.tmp 1) 4), some (6, true)), (some 8, (.load 42 (.tmp 7)), some (6, true)), (some 9, (.call ⟨(.value (.func 86)), #[(.tmp 8)], #[42]⟩), some (6, true)), (some 10, (.pick (.tmp 6) (.tmp 9) (.const (.bool false))), none), (some 11, (.move (.tmp 10)), none), (some 12, (.fieldAddr 96 (.tmp 1) 3), some (11, true)), (some 13, (.fieldAddr 92 (.tmp 12) 2), some (11, true)), (some 14, (.load 42 (.tmp 13)), some (11, true)), (some 15, (.call ⟨(.value (.func 86)), #[(.tmp 14)], #[42]⟩), some (11, true)), (some 16, (.pick (.tmp 11) (.tmp 15) (.const (.bool false))), none), (some 17, (.move (.tmp 16)), none), (some 18, (.fieldAddr 96 (.tmp 1) 3), some (17, true)), (some 19, (.fieldAddr 92 (.tmp 18) 3), some (17, true)), (some 20, (.load 42 (.tmp 19)), some (17, true)), (some 21, (.call ⟨(.value (.func 86)), #[(.tmp 20)], #[42]⟩), some (17, true)), (some 22, (.pick (.tmp 17) (.tmp 21) (.const (.bool false))), none), (some 23, (.move (.tmp 22)), none), (some 24, (.fieldAddr 96 (.tmp 1) 3), some (23, true)), (some 25, (.fieldAddr 92 (.tmp 24) 5), some (23, true)), (some 26, (.load 42 (.tmp 25)), some (23, true)), (some 27, (.call ⟨(.value (.func 86)), #[(.tmp 26)], #[42]⟩), some (23, true)), (some 28, (.pick (.tmp 23) (.tmp 27) (.const (.bool false))), none), (some 29, (.move (.tmp 28)), none), (some 30, (.fieldAddr 96 (.tmp 1) 1), some (29, true)), (some 31, (.load 94 (.tmp 30)), some (29, true)), (some 32, (.call ⟨(.value (.func 126)), #[(.tmp 31)], #[94]⟩), some (29, true)), (some 33, (.move (.tmp 32)), some (29, true)), (some 34, (.fieldAddr 96 (.tmp 1) 1), some (33, false)), (some 35, (.load 94 (.tmp 34)), some (33, false)), (some 36, (.build 94 #[]), some (33, false)), (some 37, (.binOp .eql 94 (.tmp 35) (.tmp 36) 94), some (33, false)), (some 38, (.pick (.tmp 33) (.const (.bool true)) (.tmp 37)), some (29, true)), (some 39, (.pick (.tmp 29) (.tmp 38) (.const (.bool false))), none), (some 40, (.move (.tmp 39)), none), (some 41, (.fieldAddr 96 (.tmp 1) 3), some (40, true)), (some 42, (.fieldAddr 92 (.tmp 41) 0), some (40, true)), (some 43, (.load 3 (.tmp 42)), some (40, true)), (some 44, (.call ⟨(.value (.func 91)), #[(.tmp 43), (.const (.int .i64 0)), (.const (.int .i64 5))], #[3, 3, 3]⟩), some (40, true)), (some 45, (.pick (.tmp 40) (.tmp 44) (.const (.bool false))), none), (some 46, (.move (.tmp 45)), none), (some 47, (.fieldAddr 96 (.tmp 1) 3), some (46, true)), (some 48, (.fieldAddr 92 (.tmp 47) 1), some (46, true)), (some 49, (.load 3 (.tmp 48)), some (46, true)), (some 50, (.call ⟨(.value (.func 91)), #[(.tmp 49), (.const (.int .i64 (-1))), (.const (.int .i64 7))], #[3, 3, 3]⟩), some (46, true)), (some 51, (.pick (.tmp 46) (.tmp 50) (.const (.bool false))), none), (some 52, (.move (.tmp 51)), none), (some 53, (.fieldAddr 96 (.tmp 1) 3), some (52, true)), (some 54, (.fieldAddr 92 (.tmp 53) 6), some (52, true)), (some 55, (.load 3 (.tmp 54)), some (52, true)), (some 56, (.binOp .leq 3 (.tmp 55) (.const (.int .i64 4096)) 3), some (52, true)), (some 57, (.pick (.tmp 52) (.tmp 56) (.const (.bool false))), none), (some 2, (.assign (.tmp 57)), none)] rfl fun K hK => ?_
  try simp only [go_sem, simprocAttr, h1]
  repeat' (refine And.intro (by first | rfl | omega | (simp; done)) ?_)
  refine opS_call_ro rfl (sat_impl_WordOk ?_) ?ha ?hv ?hh ?_
  case ha => simp only [go_sem, simprocAttr, h1]; first | done | rfl
  case hv => first | rfl | (simp only [go_sem]; done)
  case hh => first | rfl | (simp only [go_sem]; done)
  try simp only [go_sem, simprocAttr, h1]
  repeat' (refine And.intro (by first | rfl | omega | (simp; done)) ?_)
  refine awpS_live [1, 6] fun ρ hL => ?_
  try simp only [go_sem, simprocAttr, h1] at hL
  try clear h1
  obtain ⟨h1, h6⟩ := hL
  refine grp_andN (tc := 6) (tv := 9) (td := 10) (v := ?v1) 3 rfl [1] h6 rfl (fun hb K1 hK1 => ?run) (fun hb => ?skip) (fun ρ hP hL => ?_)
  case skip =>
    exact awpS_skip (want := true) (b := _) (by rw [hb]; rfl) _ [] ρ h6 (fun _ _ => rfl) (by simp) rfl
  case run =>
    simp only [List.take_succ_cons, List.take_zero]
    rw [hb] at h6
    try simp only [go_sem, simprocAttr, h1, h6]
    repeat' (refine And.intro (by first | rfl | omega | (simp; done)) ?_)
    refine opS_call_ro rfl (sat_impl_WordOk ?_) ?ha ?hv ?hh ?_
    case ha => simp only [go_sem, simprocAttr, h1, h6]; first | done | rfl
    case hv => first | rfl | (simp only [go_sem]; done)
    case hh => first | rfl | (simp only [go_sem]; done)
    try simp only [go_sem, simprocAttr, h1, h6]
    repeat' (refine And.intro (by first | rfl | omega | (simp; done)) ?_)
    exact hK1 _ (by simp only [go_sem, simprocAttr, h1, h6]) (by simp only [go_sem, simprocAttr, h1, h6]; exact rfl) (by simp only [go_sem, simprocAttr, h1, h6])
  simp only [List.drop_succ_cons, List.drop_zero]
  try simp only [go_sem, simprocAttr, h1, h6] at hL
  try clear h1 h6
  have h1 := hL
  clear hL
  have h10 := hP
  clear hP
  try simp only [go_sem, simprocAttr, h1, h10]
  repeat' (refine And.intro (by first | rfl | omega | (simp; done)) ?_)
  refine awpS_live [1, 11] fun ρ hL => ?_
  try simp only [go_sem, simprocAttr, h1, h10] at hL
  try clear h1 h10
  obtain ⟨h1, h11⟩ := hL
  refine grp_andN (tc := 11) (tv := 15) (td := 16) (v := ?v2) 4 rfl [1] h11 rfl (fun hb K1 hK1 => ?run) (fun hb => ?skip) (fun ρ hP hL => ?_)
  case skip =>
    exact awpS_skip (want := true) (b := _) (by rw [hb]; rfl) _ [] ρ h11 (fun _ _ => rfl) (by simp) rfl
  case run =>
    simp only [List.take_succ_cons, List.take_zero]
    rw [hb] at h11
    try simp only [go_sem, simprocAttr, h1, h11]
    repeat' (refine And.intro (by first | rfl | omega | (simp; done)) ?_)
    refine opS_call_ro rfl (sat_impl_WordOk ?_) ?ha ?hv ?hh ?_
    case ha => simp only [go_sem, simprocAttr, h1, h11]; first | done | rfl
    case hv => first | rfl | (simp only [go_sem]; done)
    case hh => first | rfl | (simp only [go_sem]; done)
    try simp only [go_sem, simprocAttr, h1, h11]
    repeat' (refine And.intro (by first | rfl | omega | (simp; done)) ?_)
    exact hK1 _ (by simp only [go_sem, simprocAttr, h1, h11]) (by simp only [go_sem, simprocAttr, h1, h11]; exact rfl) (by simp only [go_sem, simprocAttr, h1, h11])
  simp only [List.drop_succ_cons, List.drop_zero]
  try simp only [go_sem, simprocAttr, h1, h11] at hL
  try clear h1 h11
  have h1 := hL
  clear hL
  have h16 := hP
  clear hP
  try simp only [go_sem, simprocAttr, h1, h16]
  repeat' (refine And.intro (by first | rfl | omega | (simp; done)) ?_)
  refine awpS_live [1, 17] fun ρ hL => ?_
  try simp only [go_sem, simprocAttr, h1, h16] at hL
  try clear h1 h16
  obtain ⟨h1, h17⟩ := hL
  refine grp_andN (tc := 17) (tv := 21) (td := 22) (v := ?v3) 4 rfl [1] h17 rfl (fun hb K1 hK1 => ?run) (fun hb => ?skip) (fun ρ hP hL => ?_)
  case skip =>
    exact awpS_skip (want := true) (b := _) (by rw [hb]; rfl) _ [] ρ h17 (fun _ _ => rfl) (by simp) rfl
  case run =>
    simp only [List.take_succ_cons, List.take_zero]
    rw [hb] at h17
    try simp only [go_sem, simprocAttr, h1, h17]
    repeat' (refine And.intro (by first | rfl | omega | (simp; done)) ?_)
    refine opS_call_ro rfl (sat_impl_WordOk ?_) ?ha ?hv ?hh ?_
    case ha => simp only [go_sem, simprocAttr, h1, h17]; first | done | rfl
    case hv => first | rfl | (simp only [go_sem]; done)
    case hh => first | rfl | (simp only [go_sem]; done)
    try simp only [go_sem, simprocAttr, h1, h17]
    repeat' (refine And.intro (by first | rfl | omega | (simp; done)) ?_)
    exact hK1 _ (by simp only [go_sem, simprocAttr, h1, h17]) (by simp only [go_sem, simprocAttr, h1, h17]; exact rfl) (by simp only [go_sem, simprocAttr, h1, h17])
  simp only [List.drop_succ_cons, List.drop_zero]
  try simp only [go_sem, simprocAttr, h1, h17] at hL
  try clear h1 h17
  have h1 := hL
  clear hL
  have h22 := hP
  clear hP
  try simp only [go_sem, simprocAttr, h1, h22]
  repeat' (refine And.intro (by first | rfl | omega | (simp; done)) ?_)
  refine awpS_live [1, 23] fun ρ hL => ?_
  try simp only [go_sem, simprocAttr, h1, h22] at hL
  try clear h1 h22
  obtain ⟨h1, h23⟩ := hL
  refine grp_andN (tc := 23) (tv := 27) (td := 28) (v := ?v4) 4 rfl [1] h23 rfl (fun hb K1 hK1 => ?run) (fun hb => ?skip) (fun ρ hP hL => ?_)
  case skip =>
    exact awpS_skip (want := true) (b := _) (by rw [hb]; rfl) _ [] ρ h23 (fun _ _ => rfl) (by simp) rfl
  case run =>
    simp only [List.take_succ_cons, List.take_zero]
    rw [hb] at h23
    try simp only [go_sem, simprocAttr, h1, h23]
    repeat' (refine And.intro (by first | rfl | omega | (simp; done)) ?_)
    refine opS_call_ro rfl (sat_impl_WordOk ?_) ?ha ?hv ?hh ?_
    case ha => simp only [go_sem, simprocAttr, h1, h23]; first | done | rfl
    case hv => first | rfl | (simp only [go_sem]; done)
    case hh => first | rfl | (simp only [go_sem]; done)
    try simp only [go_sem, simprocAttr, h1, h23]
    repeat' (refine And.intro (by first | rfl | omega | (simp; done)) ?_)
    exact hK1 _ (by simp only [go_sem, simprocAttr, h1, h23]) (by simp only [go_sem, simprocAttr, h1, h23]; exact rfl) (by simp only [go_sem, simprocAttr, h1, h23])
  simp only [List.drop_succ_cons, List.drop_zero]
  try simp only [go_sem, simprocAttr, h1, h23] at hL
  try clear h1 h23
  have h1 := hL
  clear hL
  have h28 := hP
  clear hP
  try simp only [go_sem, simprocAttr, h1, h28]
  repeat' (refine And.intro (by first | rfl | omega | (simp; done)) ?_)
  refine awpS_live [1, 29] fun ρ hL => ?_
  try simp only [go_sem, simprocAttr, h1, h28] at hL
  try clear h1 h28
  obtain ⟨h1, h29⟩ := hL
  refine grp_andN (tc := 29) (tv := 38) (td := 39) (v := ?v5) 9 rfl [1] h29 rfl (fun hb K1 hK1 => ?run) (fun hb => ?skip) (fun ρ hP hL => ?_)
  case skip =>
    exact awpS_skip (want := true) (b := _) (by rw [hb]; rfl) _ [] ρ h29 (fun _ _ => rfl) (by simp) rfl
  case run =>
    simp only [List.take_succ_cons, List.take_zero]
    rw [hb] at h29
    have g6_1 := h1
    have g6_29 := h29
    have hK1_6 := hK1
    try simp only [go_sem, simprocAttr, h1, h29]
    repeat' (refine And.intro (by first | rfl | omega | (simp; done)) ?_)
    refine opS_call_ro rfl (sat_impl_InsOk ?_) ?ha ?hv ?hh ?_
    case ha => simp only [go_sem, simprocAttr, h1, h29]; first | done | rfl
    case hv => first | rfl | (simp only [go_sem]; done)
    case hh => first | rfl | (simp only [go_sem]; done)
    try simp only [go_sem, simprocAttr, h1, h29]
    repeat' (refine And.intro (by first | rfl | omega | (simp; done)) ?_)
    refine awpS_live [1, 29, 33] fun ρ hL => ?_
    try simp only [go_sem, simprocAttr, h1, h29] at hL
    try clear h1 h29
    obtain ⟨h1, h29, h33⟩ := hL
    refine grp_orGN (tc := 33) (tv := 37) (td := 38) (v := ?v7) 4 29 true rfl h29 [1, 29] rfl h33 rfl (fun hb K1 hK1 => ?run) (fun hb => ?skip) (fun ρ hP hL => ?_)
    case skip =>
      exact awpS_skip (want := false) (b := _) (by rw [hb]; rfl) _ [] ρ h33 (fun _ _ => rfl) (by simp) rfl
    case run =>
      simp only [List.take_succ_cons, List.take_zero]
      rw [hb] at h33
      try simp only [go_sem, simprocAttr, h1, h29, h33]
      repeat' (refine And.intro (by first | rfl | omega | (simp; done)) ?_)
      exact hK1 _ (by simp only [go_sem, simprocAttr, h1, h29, h33]) (by simp only [go_sem, simprocAttr, h1, h29, h33]; exact rfl) (by simp only [go_sem, simprocAttr, h1, h29, h33])
    simp only [List.drop_succ_cons, List.drop_zero]
    try simp only [go_sem, simprocAttr, h1, h29, h33] at hL
    try clear h1 h29 h33
    obtain ⟨h1, h29⟩ := hL
    have h38 := hP
    clear hP
    try simp only [go_sem, simprocAttr, h1, h29, h38]
    repeat' (refine And.intro (by first | rfl | omega | (simp; done)) ?_)
    exact hK1_6 _ (by simp only [go_sem, simprocAttr, h1, h29, h38, g6_1, g6_29]) (by simp only [go_sem, simprocAttr, h1, h29, h38, g6_1, g6_29]; exact rfl) (by simp only [go_sem, simprocAttr, h1, h29, h38, g6_1, g6_29])
  simp only [List.drop_succ_cons, List.drop_zero]
  try simp only [go_sem, simprocAttr, h1, h29] at hL
  try clear h1 h29
  have h1 := hL
  clear hL
  have h39 := hP
  clear hP
  try simp only [go_sem, simprocAttr, h1, h39]
  repeat' (refine And.intro (by first | rfl | omega | (simp; done)) ?_)
  refine awpS_live [1, 40] fun ρ hL => ?_
  try simp only [go_sem, simprocAttr, h1, h39] at hL
  try clear h1 h39
  obtain ⟨h1, h40⟩ := hL
  refine grp_andN (tc := 40) (tv := 44) (td := 45) (v := ?v8) 4 rfl [1] h40 rfl (fun hb K1 hK1 => ?run) (fun hb => ?skip) (fun ρ hP hL => ?_)
  case skip =>
    exact awpS_skip (want := true) (b := _) (by rw [hb]; rfl) _ [] ρ h40 (fun _ _ => rfl) (by simp) rfl
  case run =>
    simp only [List.take_succ_cons, List.take_zero]
    rw [hb] at h40
    try simp only [go_sem, simprocAttr, h1, h40]
    repeat' (refine And.intro (by first | rfl | omega | (simp; done)) ?_)
    refine opS_call_ro rfl (sat_impl_in ?_ ?_ ?_) ?ha ?hv ?hh ?_
    case ha => simp only [go_sem, simprocAttr, h1, h40]; first | done | rfl
    case hv => first | rfl | (simp only [go_sem]; done)
    case hh => first | rfl | (simp only [go_sem]; done)
    try simp only [go_sem, simprocAttr, h1, h40]
    repeat' (refine And.intro (by first | rfl | omega | (simp; done)) ?_)
    exact hK1 _ (by simp only [go_sem, simprocAttr, h1, h40]) (by simp only [go_sem, simprocAttr, h1, h40]; exact rfl) (by simp only [go_sem, simprocAttr, h1, h40])
  simp only [List.drop_succ_cons, List.drop_zero]
  try simp only [go_sem, simprocAttr, h1, h40] at hL
  try clear h1 h40
  have h1 := hL
  clear hL
  have h45 := hP
  clear hP
  try simp only [go_sem, simprocAttr, h1, h45]
  repeat' (refine And.intro (by first | rfl | omega | (simp; done)) ?_)
  refine awpS_live [1, 46] fun ρ hL => ?_
  try simp only [go_sem, simprocAttr, h1, h45] at hL
  try clear h1 h45
  obtain ⟨h1, h46⟩ := hL
  refine grp_andN (tc := 46) (tv := 50) (td := 51) (v := ?v9) 4 rfl [1] h46 rfl (fun hb K1 hK1 => ?run) (fun hb => ?skip) (fun ρ hP hL => ?_)
  case skip =>
    exact awpS_skip (want := true) (b := _) (by rw [hb]; rfl) _ [] ρ h46 (fun _ _ => rfl) (by simp) rfl
  case run =>
    simp only [List.take_succ_cons, List.take_zero]
    rw [hb] at h46
    try simp only [go_sem, simprocAttr, h1, h46]
    repeat' (refine And.intro (by first | rfl | omega | (simp; done)) ?_)
    refine opS_call_ro rfl (sat_impl_in ?_ ?_ ?_) ?ha ?hv ?hh ?_
    case ha => simp only [go_sem, simprocAttr, h1, h46]; first | done | rfl
    case hv => first | rfl | (simp only [go_sem]; done)
    case hh => first | rfl | (simp only [go_sem]; done)
    try simp only [go_sem, simprocAttr, h1, h46]
    repeat' (refine And.intro (by first | rfl | omega | (simp; done)) ?_)
    exact hK1 _ (by simp only [go_sem, simprocAttr, h1, h46]) (by simp only [go_sem, simprocAttr, h1, h46]; exact rfl) (by simp only [go_sem, simprocAttr, h1, h46])
  simp only [List.drop_succ_cons, List.drop_zero]
  try simp only [go_sem, simprocAttr, h1, h46] at hL
  try clear h1 h46
  have h1 := hL
  clear hL
  have h51 := hP
  clear hP
  try simp only [go_sem, simprocAttr, h1, h51]
  repeat' (refine And.intro (by first | rfl | omega | (simp; done)) ?_)
  refine awpS_live [1, 52] fun ρ hL => ?_
  try simp only [go_sem, simprocAttr, h1, h51] at hL
  try clear h1 h51
  obtain ⟨h1, h52⟩ := hL
  refine grp_andN (tc := 52) (tv := 56) (td := 57) (v := ?v10) 4 rfl [] h52 rfl (fun hb K1 hK1 => ?run) (fun hb => ?skip) (fun ρ hP hL => ?_)
  case skip =>
    exact awpS_skip (want := true) (b := _) (by rw [hb]; rfl) _ [] ρ h52 (fun _ _ => rfl) (by simp) rfl
  case run =>
    simp only [List.take_succ_cons, List.take_zero]
    rw [hb] at h52
    try simp only [go_sem, simprocAttr, h1, h52]
    repeat' (refine And.intro (by first | rfl | omega | (simp; done)) ?_)
    exact hK1 _ (by simp only [go_sem, simprocAttr, h1, h52]) (by simp only [go_sem, simprocAttr, h1, h52]; exact rfl) (by simp only [go_sem, simprocAttr, h1, h52])
  simp only [List.drop_succ_cons, List.drop_zero]
  clear hL h1 h52
  have h57 := hP
  clear hP
  try simp only [go_sem, simprocAttr, h57]
  repeat' (refine And.intro (by first | rfl | omega | (simp; done)) ?_)
  refine hK _ _ (.mk (awl_live' [2] fun ρ hL => ?_))
  try simp only [go_sem, simprocAttr, h57] at hL
  try clear h57
  have h2 := hL
  clear hL
  clear hK K
  refine awl_ret ?_
  refine ret0 (by simp only [go_sem, simprocAttr, h2]; exact rfl) ?_
  try simp only [go_sem, simprocAttr]
  all_goals (rw [AV.bool.injEq]; simp only [entOk, ins_zero])
set_option maxHeartbeats 8000000 in
set_option maxRecDepth 100000 in
theorem sat_impl_CoreOk_1 (x : Ent)  : Sat Try.prog 84 [.agg x.cells] [] (.bool (!entOk x)) [] := by
  refine sat_mk [.tmp 2] 0 6 Try.call84 Try.func84 Try.ntmps84 rfl rfl rfl rfl rfl ?_
  refine awl_live' [0] fun ρ hL => ?_
  try simp only [go_sem, simprocAttr] at hL
  have h0 := hL
  clear hL
  refine awl_seq ?_
  refine awl_regS [(some 1, (.box 96 (.tmp 0)), none), (some 2, (.assign (.const (.bool false))), none)] rfl fun K hK => ?_
  try simp only [go_sem, simprocAttr, h0]
  repeat' (refine And.intro (by first | rfl | omega | (simp; done)) ?_)
  refine hK _ _ (.mk (awl_live' [1] fun ρ hL => ?_))
  try simp only [go_sem, simprocAttr, h0] at hL
  try clear h0
  have h1 := hL
  clear hL
  clear hK K
  refine awl_seq ?_
  refine awl_regS [(some 3, (.load 96 (.tmp 1)), none), (some 4, (.call ⟨(.value (.func 85)), #[(.tmp 3)], #[96]⟩), none), (some 5, (.unOp .not 4 (.tmp 4)), none), (some 2, (.assign (.tmp 5)), none)] rfl fun K hK => ?_
  try simp only [go_sem, simprocAttr, h1]
  repeat' (refine And.intro (by first | rfl | omega | (simp; done)) ?_)
  refine opS_call_ro rfl (sat_impl_entryOk x) ?ha ?hv ?hh ?_
  case ha => simp only [go_sem, simprocAttr, h1]; first | done | rfl
  case hv => first | rfl | (simp only [go_sem]; done)
  case hh => first | rfl | (simp only [go_sem]; done)
  try simp only [go_sem, simprocAttr, h1]
  repeat' (refine And.intro (by first | rfl | omega | (simp; done)) ?_)
  refine hK _ _ (.mk (awl_live' [2] fun ρ hL => ?_))
  try simp only [go_sem, simprocAttr, h1] at hL
  try clear h1
  have h2 := hL
  clear hL
  clear hK K
  refine awl_ret ?_
  refine ret0 (by simp only [go_sem, simprocAttr, h2]; exact rfl) ?_
  try simp only [go_sem, simprocAttr]
  all_goals (first | done | rfl | (simp; done) | (simp [inR]; done) | (simp_all [inR]; done) | (simp [inR]; grind))
set_option maxHeartbeats 8000000 in
set_option maxRecDepth 100000 in
theorem sat_spec_l12Entry (x : Ent)  : Sat Try.prog 80 [.agg x.cells] [] (.bool (entOk x)) [] := by
  refine sat_mk [.tmp 2] 0 61 Try.call80 Try.func80 Try.ntmps80 rfl rfl rfl rfl rfl ?_
  refine awl_live' [0] fun ρ hL => ?_
  try simp only [go_sem, simprocAttr] at hL
  have h0 := hL
  clear hL
  refine awl_seq ?_
  refine awl_regS [(some 1, (.box 96 (.tmp 0)), none), (some 2, (.assign (.const (.bool false))), none)] rfl fun K hK => ?_
  try simp only [go_sem, simprocAttr, h0]
  repeat' (refine And.intro (by first | rfl | omega | (simp; done)) ?_)
  refine hK _ _ (.mk (awl_live' [1] fun ρ hL => ?_))
  try simp only [go_sem, simprocAttr, h0] at hL
  try clear h0
  have h1 := hL
  clear hL
  clear hK K
  refine awl_seq ?_
  refine awl_seq ?_
  refine awl_regS [(some 3, (.fieldAddr 96 (.tmp 1) 0), none), (some 4, (.load 42 (.tmp 3)), none), (some 5, (.call ⟨(.value (.func 81)), #[(.tmp 4)], #[42]⟩), none), (some 6, (.unOp .not 4 (.tmp 5)), none), (some 7, (.move (.tmp 6)), none), (some 8, (.fieldAddr 96 (.tmp 1) 4), some (7, false)), (some 9, (.load 42 (.tmp 8)), some (7, false)), (some 10, (.call ⟨(.value (.func 81)), #[(.tmp 9)], #[42]⟩), some (7, false)), (some 11, (.unOp .not 4 (.tmp 10)), some (7, false)), (some 12, (.pick (.tmp 7) (.const (.bool true)) (.tmp 11)), none), (some 13, (.move (.tmp 12)), none), (some 14, (.fieldAddr 96 (.tmp 1) 3), some (13, false)), (some 15, (.fieldAddr 92 (.tmp 14) 2), some (13, false)), (some 16, (.load 42 (.tmp 15)), some (13, false)), (some 17, (.call ⟨(.value (.func 81)), #[(.tmp 16)], #[42]⟩), some (13, false)), (some 18, (.unOp .not 4 (.tmp 17)), some (13, false)), (some 19, (.pick (.tmp 13) (.const (.bool true)) (.tmp 18)), none), (some 20, (.move (.tmp 19)), none), (some 21, (.fieldAddr 96 (.tmp 1) 3), some (20, false)), (some 22, (.fieldAddr 92 (.tmp 21) 3), some (20, false)), (some 23, (.load 42 (.tmp 22)), some (20, false)), (some 24, (.call ⟨(.value (.func 81)), #[(.tmp 23)], #[42]⟩), some (20, false)), (some 25, (.unOp .not 4 (.tmp 24)), some (20, false)), (some 26, (.pick (.tmp 20) (.const (.bool true)) (.tmp 25)), none), (some 27, (.move (.tmp 26)), none), (some 28, (.fieldAddr 96 (.tmp 1) 3), some (27, false)), (some 29, (.fieldAddr 92 (.tmp 28) 5), some (27, false)), (some 30, (.load 42 (.tmp 29)), some (27, false)), (some 31, (.call ⟨(.value (.func 81)), #[(.tmp 30)], #[42]⟩), some (27, false)), (some 32, (.unOp .not 4 (.tmp 31)), some (27, false)), (some 33, (.pick (.tmp 27) (.const (.bool true)) (.tmp 32)), none)] rfl fun K hK => ?_
  try simp only [go_sem, simprocAttr, h1]
  repeat' (refine And.intro (by first | rfl | omega | (simp; done)) ?_)
  refine opS_call_ro rfl (sat_spec_WordOk ?_) ?ha ?hv ?hh ?_
  case ha => simp only [go_sem, simprocAttr, h1]; first | done | rfl
  case hv => first | rfl | (simp only [go_sem]; done)
  case hh => first | rfl | (simp only [go_sem]; done)
  try simp only [go_sem, simprocAttr, h1]
  repeat' (refine And.intro (by first | rfl | omega | (simp; done)) ?_)
  refine awpS_live [1, 7] fun ρ hL => ?_
  try simp only [go_sem, simprocAttr, h1] at hL
  try clear h1
  obtain ⟨h1, h7⟩ := hL
  refine grp_orN (tc := 7) (tv := 11) (td := 12) (v := ?v1) 4 rfl [1] h7 rfl (fun hb K1 hK1 => ?run) (fun hb => ?skip) (fun ρ hP hL => ?_)
  case skip =>
    exact awpS_skip (want := false) (b := _) (by rw [hb]; rfl) _ [] ρ h7 (fun _ _ => rfl) (by simp) rfl
  case run =>
    simp only [List.take_succ_cons, List.take_zero]
    rw [hb] at h7
    try simp only [go_sem, simprocAttr, h1, h7]
    repeat' (refine And.intro (by first | rfl | omega | (simp; done)) ?_)
    refine opS_call_ro rfl (sat_spec_WordOk ?_) ?ha ?hv ?hh ?_
    case ha => simp only [go_sem, simprocAttr, h1, h7]; first | done | rfl
    case hv => first | rfl | (simp only [go_sem]; done)
    case hh => first | rfl | (simp only [go_sem]; done)
    try simp only [go_sem, simprocAttr, h1, h7]
    repeat' (refine And.intro (by first | rfl | omega | (simp; done)) ?_)
    exact hK1 _ (by simp only [go_sem, simprocAttr, h1, h7]) (by simp only [go_sem, simprocAttr, h1, h7]; exact rfl) (by simp only [go_sem, simprocAttr, h1, h7])
  simp only [List.drop_succ_cons, List.drop_zero]
  try simp only [go_sem, simprocAttr, h1, h7] at hL
  try clear h1 h7
  have h1 := hL
  clear hL
  have h12 := hP
  clear hP
  try simp only [go_sem, simprocAttr, h1, h12]
  repeat' (refine And.intro (by first | rfl | omega | (simp; done)) ?_)
  refine awpS_live [1, 13] fun ρ hL => ?_
  try simp only [go_sem, simprocAttr, h1, h12] at hL
  try clear h1 h12
  obtain ⟨h1, h13⟩ := hL
  refine grp_orN (tc := 13) (tv := 18) (td := 19) (v := ?v2) 5 rfl [1] h13 rfl (fun hb K1 hK1 => ?run) (fun hb => ?skip) (fun ρ hP hL => ?_)
  case skip =>
    exact awpS_skip (want := false) (b := _) (by rw [hb]; rfl) _ [] ρ h13 (fun _ _ => rfl) (by simp) rfl
  case run =>
    simp only [List.take_succ_cons, List.take_zero]
    rw [hb] at h13
    try simp only [go_sem, simprocAttr, h1, h13]
    repeat' (refine And.intro (by first | rfl | omega | (simp; done)) ?_)
    refine opS_call_ro rfl (sat_spec_WordOk ?_) ?ha ?hv ?hh ?_
    case ha => simp only [go_sem, simprocAttr, h1, h13]; first | done | rfl
    case hv => first | rfl | (simp only [go_sem]; done)
    case hh => first | rfl | (simp only [go_sem]; done)
    try simp only [go_sem, simprocAttr, h1, h13]
    repeat' (refine And.intro (by first | rfl | omega | (simp; done)) ?_)
    exact hK1 _ (by simp only [go_sem, simprocAttr, h1, h13]) (by simp only [go_sem, simprocAttr, h1, h13]; exact rfl) (by simp only [go_sem, simprocAttr, h1, h13])
  simp only [List.drop_succ_cons, List.drop_zero]
  try simp only [go_sem, simprocAttr, h1, h13] at hL
  try clear h1 h13
  have h1 := hL
  clear hL
  have h19 := hP
  clear hP
  try simp only [go_sem, simprocAttr, h1, h19]
  repeat' (refine And.intro (by first | rfl | omega | (simp; done)) ?_)
  refine awpS_live [1, 20] fun ρ hL => ?_
  try simp only [go_sem, simprocAttr, h1, h19] at hL
  try clear h1 h19
  obtain ⟨h1, h20⟩ := hL
  refine grp_orN (tc := 20) (tv := 25) (td := 26) (v := ?v3) 5 rfl [1] h20 rfl (fun hb K1 hK1 => ?run) (fun hb => ?skip) (fun ρ hP hL => ?_)
  case skip =>
    exact awpS_skip (want := false) (b := _) (by rw [hb]; rfl) _ [] ρ h20 (fun _ _ => rfl) (by simp) rfl
  case run =>
    simp only [List.take_succ_cons, List.take_zero]
    rw [hb] at h20
    try simp only [go_sem, simprocAttr, h1, h20]
    repeat' (refine And.intro (by first | rfl | omega | (simp; done)) ?_)
    refine opS_call_ro rfl (sat_spec_WordOk ?_) ?ha ?hv ?hh ?_
    case ha => simp only [go_sem, simprocAttr, h1, h20]; first | done | rfl
    case hv => first | rfl | (simp only [go_sem]; done)
    case hh => first | rfl | (simp only [go_sem]; done)
    try simp only [go_sem, simprocAttr, h1, h20]
    repeat' (refine And.intro (by first | rfl | omega | (simp; done)) ?_)
    exact hK1 _ (by simp only [go_sem, simprocAttr, h1, h20]) (by simp only [go_sem, simprocAttr, h1, h20]; exact rfl) (by simp only [go_sem, simprocAttr, h1, h20])
  simp only [List.drop_succ_cons, List.drop_zero]
  try simp only [go_sem, simprocAttr, h1, h20] at hL
  try clear h1 h20
  have h1 := hL
  clear hL
  have h26 := hP
  clear hP
  try simp only [go_sem, simprocAttr, h1, h26]
  repeat' (refine And.intro (by first | rfl | omega | (simp; done)) ?_)
  refine awpS_live [1, 27] fun ρ hL => ?_
  try simp only [go_sem, simprocAttr, h1, h26] at hL
  try clear h1 h26
  obtain ⟨h1, h27⟩ := hL
  refine grp_orN (tc := 27) (tv := 32) (td := 33) (v := ?v4) 5 rfl [1] h27 rfl (fun hb K1 hK1 => ?run) (fun hb => ?skip) (fun ρ hP hL => ?_)
  case skip =>
    exact awpS_skip (want := false) (b := _) (by rw [hb]; rfl) _ [] ρ h27 (fun _ _ => rfl) (by simp) rfl
  case run =>
    simp only [List.take_succ_cons, List.take_zero]
    rw [hb] at h27
    try simp only [go_sem, simprocAttr, h1, h27]
    repeat' (refine And.intro (by first | rfl | omega | (simp; done)) ?_)
    refine opS_call_ro rfl (sat_spec_WordOk ?_) ?ha ?hv ?hh ?_
    case ha => simp only [go_sem, simprocAttr, h1, h27]; first | done | rfl
    case hv => first | rfl | (simp only [go_sem]; done)
    case hh => first | rfl | (simp only [go_sem]; done)
    try simp only [go_sem, simprocAttr, h1, h27]
    repeat' (refine And.intro (by first | rfl | omega | (simp; done)) ?_)
    exact hK1 _ (by simp only [go_sem, simprocAttr, h1, h27]) (by simp only [go_sem, simprocAttr, h1, h27]; exact rfl) (by simp only [go_sem, simprocAttr, h1, h27])
  simp only [List.drop_succ_cons, List.drop_zero]
  try simp only [go_sem, simprocAttr, h1, h27] at hL
  try clear h1 h27
  have h1 := hL
  clear hL
  have h33 := hP
  clear hP
  try simp only [go_sem, simprocAttr, h1, h33]
  repeat' (refine And.intro (by first | rfl | omega | (simp; done)) ?_)
  refine hK _ _ (.mk (awl_live' [1, 33] fun ρ hL => ?_))
  try simp only [go_sem, simprocAttr, h1, h33] at hL
  try clear h1 h33
  obtain ⟨h1, h33⟩ := hL
  clear hK K
  refine awl_cond h33 (fun c1 => ?_) (fun c1 => ?_)
  ·
    try simp only [cnd] at c1
    refine awl_seq ?_
    refine awl_regS [(some 2, (.assign (.const (.bool false))), none)] rfl fun K hK => ?_
    try simp only [go_sem, simprocAttr, h1, h33]
    repeat' (refine And.intro (by first | rfl | omega | (simp; done)) ?_)
    refine hK _ _ (.mk (awl_live' [2] fun ρ hL => ?_))
    try simp only [go_sem, simprocAttr, h1, h33] at hL
    try clear h1 h33
    have h2 := hL
    clear hL
    clear hK K
    refine awl_ret ?_
    refine ret0 (by simp only [go_sem, simprocAttr, h2]; exact rfl) ?_
    try simp only [go_sem, simprocAttr]
    all_goals (rcases c1 with (((c1 | c1) | c1) | c1) | c1 <;> simp only [entOk, c1, Bool.false_and, Bool.and_false])
  ·
    try simp only [cnd] at c1
    refine awl_skip ?_
    refine awl_seq ?_
    refine awl_regS [(some 34, (.fieldAddr 96 (.tmp 1) 1), none), (some 35, (.load 94 (.tmp 34)), none), (some 36, (.call ⟨(.value (.func 123)), #[(.tmp 35)], #[94]⟩), none), (some 37, (.move (.tmp 36)), none), (some 38, (.fieldAddr 96 (.tmp 1) 1), some (37, false)), (some 39, (.load 94 (.tmp 38)), some (37, false)), (some 40, (.build 94 #[]), some (37, false)), (some 41, (.binOp .eql 94 (.tmp 39) (.tmp 40) 94), some (37, false)), (some 42, (.pick (.tmp 37) (.const (.bool true)) (.tmp 41)), none), (some 43, (.move (.tmp 42)), none), (some 44, (.fieldAddr 96 (.tmp 1) 3), some (43, true)), (some 45, (.fieldAddr 92 (.tmp 44) 0), some (43, true)), (some 46, (.load 3 (.tmp 45)), some (43, true)), (some 47, (.call ⟨(.value (.func 89)), #[(.tmp 46), (.const (.int .i64 0)), (.const (.int .i64 5))], #[3, 3, 3]⟩), some (43, true)), (some 48, (.pick (.tmp 43) (.tmp 47) (.const (.bool false))), none), (some 49, (.move (.tmp 48)), none), (some 50, (.fieldAddr 96 (.tmp 1) 3), some (49, true)), (some 51, (.fieldAddr 92 (.tmp 50) 1), some (49, true)), (some 52, (.load 3 (.tmp 51)), some (49, true)), (some 53, (.call ⟨(.value (.func 89)), #[(.tmp 52), (.const (.int .i64 (-1))), (.const (.int .i64 7))], #[3, 3, 3]⟩), some (49, true)), (some 54, (.pick (.tmp 49) (.tmp 53) (.const (.bool false))), none), (some 55, (.move (.tmp 54)), none), (some 56, (.fieldAddr 96 (.tmp 1) 3), some (55, true)), (some 57, (.fieldAddr 92 (.tmp 56) 6), some (55, true)), (some 58, (.load 3 (.tmp 57)), some (55, true)), (some 59, (.binOp .leq 3 (.tmp 58) (.const (.int .i64 4096)) 3), some (55, true)), (some 60, (.pick (.tmp 55) (.tmp 59) (.const (.bool false))), none), (some 2, (.assign (.tmp 60)), none)] rfl fun K hK => ?_
    try simp only [go_sem, simprocAttr, h1, h33]
    repeat' (refine And.intro (by first | rfl | omega | (simp; done)) ?_)
    refine opS_call_ro rfl (sat_spec_InsOk ?_) ?ha ?hv ?hh ?_
    case ha => simp only [go_sem, simprocAttr, h1, h33]; first | done | rfl
    case hv => first | rfl | (simp only [go_sem]; done)
    case hh => first | rfl | (simp only [go_sem]; done)
    try simp only [go_sem, simprocAttr, h1, h33]
    repeat' (refine And.intro (by first | rfl | omega | (simp; done)) ?_)
    refine awpS_live [1, 37] fun ρ hL => ?_
    try simp only [go_sem, simprocAttr, h1, h33] at hL
    try clear h1 h33
    obtain ⟨h1, h37⟩ := hL
    refine grp_orN (tc := 37) (tv := 41) (td := 42) (v := ?v5) 4 rfl [1] h37 rfl (fun hb K1 hK1 => ?run) (fun hb => ?skip) (fun ρ hP hL => ?_)
    case skip =>
      exact awpS_skip (want := false) (b := _) (by rw [hb]; rfl) _ [] ρ h37 (fun _ _ => rfl) (by simp) rfl
    case run =>
      simp only [List.take_succ_cons, List.take_zero]
      rw [hb] at h37
      try simp only [go_sem, simprocAttr, h1, h37]
      repeat' (refine And.intro (by first | rfl | omega | (simp; done)) ?_)
      exact hK1 _ (by simp only [go_sem, simprocAttr, h1, h37]) (by simp only [go_sem, simprocAttr, h1, h37]; exact rfl) (by simp only [go_sem, simprocAttr, h1, h37])
    simp only [List.drop_succ_cons, List.drop_zero]
    try simp only [go_sem, simprocAttr, h1, h37] at hL
    try clear h1 h37
    have h1 := hL
    clear hL
    have h42 := hP
    clear hP
    try simp only [go_sem, simprocAttr, h1, h42]
    repeat' (refine And.intro (by first | rfl | omega | (simp; done)) ?_)
    refine awpS_live [1, 43] fun ρ hL => ?_
    try simp only [go_sem, simprocAttr, h1, h42] at hL
    try clear h1 h42
    obtain ⟨h1, h43⟩ := hL
    refine grp_andN (tc := 43) (tv := 47) (td := 48) (v := ?v6) 4 rfl [1] h43 rfl (fun hb K1 hK1 => ?run) (fun hb => ?skip) (fun ρ hP hL => ?_)
    case skip =>
      exact awpS_skip (want := true) (b := _) (by rw [hb]; rfl) _ [] ρ h43 (fun _ _ => rfl) (by simp) rfl
    case run =>
      simp only [List.take_succ_cons, List.take_zero]
      rw [hb] at h43
      try simp only [go_sem, simprocAttr, h1, h43]
      repeat' (refine And.intro (by first | rfl | omega | (simp; done)) ?_)
      refine opS_call_ro rfl (sat_spec_l1In ?_ ?_ ?_) ?ha ?hv ?hh ?_
      case ha => simp only [go_sem, simprocAttr, h1, h43]; first | done | rfl
      case hv => first | rfl | (simp only [go_sem]; done)
      case hh => first | rfl | (simp only [go_sem]; done)
      try simp only [go_sem, simprocAttr, h1, h43]
      repeat' (refine And.intro (by first | rfl | omega | (simp; done)) ?_)
      exact hK1 _ (by simp only [go_sem, simprocAttr, h1, h43]) (by simp only [go_sem, simprocAttr, h1, h43]; exact rfl) (by simp only [go_sem, simprocAttr, h1, h43])
    simp only [List.drop_succ_cons, List.drop_zero]
    try simp only [go_sem, simprocAttr, h1, h43] at hL
    try clear h1 h43
    have h1 := hL
    clear hL
    have h48 := hP
    clear hP
    try simp only [go_sem, simprocAttr, h1, h48]
    repeat' (refine And.intro (by first | rfl | omega | (simp; done)) ?_)
    refine awpS_live [1, 49] fun ρ hL => ?_
    try simp only [go_sem, simprocAttr, h1, h48] at hL
    try clear h1 h48
    obtain ⟨h1, h49⟩ := hL
    refine grp_andN (tc := 49) (tv := 53) (td := 54) (v := ?v7) 4 rfl [1] h49 rfl (fun hb K1 hK1 => ?run) (fun hb => ?skip) (fun ρ hP hL => ?_)
    case skip =>
      exact awpS_skip (want := true) (b := _) (by rw [hb]; rfl) _ [] ρ h49 (fun _ _ => rfl) (by simp) rfl
    case run =>
      simp only [List.take_succ_cons, List.take_zero]
      rw [hb] at h49
      try simp only [go_sem, simprocAttr, h1, h49]
      repeat' (refine And.intro (by first | rfl | omega | (simp; done)) ?_)
      refine opS_call_ro rfl (sat_spec_l1In ?_ ?_ ?_) ?ha ?hv ?hh ?_
      case ha => simp only [go_sem, simprocAttr, h1, h49]; first | done | rfl
      case hv => first | rfl | (simp only [go_sem]; done)
      case hh => first | rfl | (simp only [go_sem]; done)
      try simp only [go_sem, simprocAttr, h1, h49]
      repeat' (refine And.intro (by first | rfl | omega | (simp; done)) ?_)
      exact hK1 _ (by simp only [go_sem, simprocAttr, h1, h49]) (by simp only [go_sem, simprocAttr, h1, h49]; exact rfl) (by simp only [go_sem, simprocAttr, h1, h49])
    simp only [List.drop_succ_cons, List.drop_zero]
    try simp only [go_sem, simprocAttr, h1, h49] at hL
    try clear h1 h49
    have h1 := hL
    clear hL
    have h54 := hP
    clear hP
    try simp only [go_sem, simprocAttr, h1, h54]
    repeat' (refine And.intro (by first | rfl | omega | (simp; done)) ?_)
    refine awpS_live [1, 55] fun ρ hL => ?_
    try simp only [go_sem, simprocAttr, h1, h54] at hL
    try clear h1 h54
    obtain ⟨h1, h55⟩ := hL
    refine grp_andN (tc := 55) (tv := 59) (td := 60) (v := ?v8) 4 rfl [] h55 rfl (fun hb K1 hK1 => ?run) (fun hb => ?skip) (fun ρ hP hL => ?_)
    case skip =>
      exact awpS_skip (want := true) (b := _) (by rw [hb]; rfl) _ [] ρ h55 (fun _ _ => rfl) (by simp) rfl
    case run =>
      simp only [List.take_succ_cons, List.take_zero]
      rw [hb] at h55
      try simp only [go_sem, simprocAttr, h1, h55]
      repeat' (refine And.intro (by first | rfl | omega | (simp; done)) ?_)
      exact hK1 _ (by simp only [go_sem, simprocAttr, h1, h55]) (by simp only [go_sem, simprocAttr, h1, h55]; exact rfl) (by simp only [go_sem, simprocAttr, h1, h55])
    simp only [List.drop_succ_cons, List.drop_zero]
    clear hL h1 h55
    have h60 := hP
    clear hP
    try simp only [go_sem, simprocAttr, h60]
    repeat' (refine And.intro (by first | rfl | omega | (simp; done)) ?_)
    refine hK _ _ (.mk (awl_live' [2] fun ρ hL => ?_))
    try simp only [go_sem, simprocAttr, h60] at hL
    try clear h60
    have h2 := hL
    clear hL
    clear hK K
    refine awl_ret ?_
    refine ret0 (by simp only [go_sem, simprocAttr, h2]; exact rfl) ?_
    try simp only [go_sem, simprocAttr]
    all_goals (obtain ⟨⟨⟨⟨a,b⟩,c⟩,d⟩,e⟩ := c1; simp only [entOk, a, b, c, d, e, Bool.true_and, ins_zero])
end Go.Proofs.Ytgddflnhibhacaa.AM
