/- What is under what; closed. No conditions but those each theorem bears. -/
import Derived.Test.YtgddflnhibhacaaFa
import Derived.Test.YtgddflnhibhacaaSp9
import Derived.Test.YtgddflnhibhacaaCa18
import Derived.Test.YtgddflnhibhacaaCa7
set_option linter.unusedSimpArgs false
set_option linter.unusedVariables false
namespace Go.Proofs.Ytgddflnhibhacaa.AM
open Go

set_option maxHeartbeats 8000000 in
set_option maxRecDepth 100000 in
theorem sat_spec_Covers (a : Key) (b : Key)  : Sat Try.prog 138 [.agg a.cells, .agg b.cells] [] (.bool (covers a b)) [] := by
  refine sat_mk [.tmp 4] 0 35 Try.call138 Try.func138 Try.ntmps138 rfl rfl rfl rfl rfl ?_
  refine awl_live' [0, 1] fun ρ hL => ?_
  try simp only [go_sem, simprocAttr] at hL
  obtain ⟨h0, h1⟩ := hL
  refine awl_seq ?_
  refine awl_regS [(some 2, (.box 40 (.tmp 0)), none), (some 3, (.box 40 (.tmp 1)), none), (some 4, (.assign (.const (.bool false))), none)] rfl fun K hK => ?_
  try simp only [go_sem, simprocAttr, h0, h1]
  repeat' (refine And.intro (by first | rfl | omega | (simp; done)) ?_)
  refine hK _ _ (.mk (awl_live' [2, 3] fun ρ hL => ?_))
  try simp only [go_sem, simprocAttr, h0, h1] at hL
  try clear h0 h1
  obtain ⟨h2, h3⟩ := hL
  clear hK K
  refine awl_seq ?_
  refine awl_regS [(some 5, (.load 40 (.tmp 2)), none), (some 6, (.call ⟨(.value (.func 124)), #[(.tmp 5)], #[40]⟩), none), (some 7, (.move (.tmp 6)), none), (some 8, (.load 40 (.tmp 3)), some (7, true)), (some 9, (.call ⟨(.value (.func 124)), #[(.tmp 8)], #[40]⟩), some (7, true)), (some 10, (.pick (.tmp 7) (.tmp 9) (.const (.bool false))), none), (some 11, (.move (.tmp 10)), none), (some 12, (.fieldAddr 40 (.tmp 2) 0), some (11, true)), (some 13, (.load 3 (.tmp 12)), some (11, true)), (some 14, (.fieldAddr 40 (.tmp 3) 0), some (11, true)), (some 15, (.load 3 (.tmp 14)), some (11, true)), (some 16, (.binOp .leq 3 (.tmp 13) (.tmp 15) 3), some (11, true)), (some 17, (.pick (.tmp 11) (.tmp 16) (.const (.bool false))), none), (some 18, (.move (.tmp 17)), none), (some 19, (.fieldAddr 40 (.tmp 3) 1), some (18, true)), (some 20, (.load 3 (.tmp 19)), some (18, true)), (some 21, (.fieldAddr 40 (.tmp 2) 1), some (18, true)), (some 22, (.load 3 (.tmp 21)), some (18, true)), (some 23, (.binOp .leq 3 (.tmp 20) (.tmp 22) 3), some (18, true)), (some 24, (.pick (.tmp 18) (.tmp 23) (.const (.bool false))), none), (some 25, (.move (.tmp 24)), none), (some 26, (.fieldAddr 40 (.tmp 2) 2), some (25, true)), (some 27, (.load 3 (.tmp 26)), some (25, true)), (some 28, (.fieldAddr 40 (.tmp 3) 2), some (25, true)), (some 29, (.load 3 (.tmp 28)), some (25, true)), (some 30, (.binOp .and 3 (.tmp 27) (.tmp 29) 3), some (25, true)), (some 31, (.fieldAddr 40 (.tmp 3) 2), some (25, true)), (some 32, (.load 3 (.tmp 31)), some (25, true)), (some 33, (.binOp .eql 3 (.tmp 30) (.tmp 32) 3), some (25, true)), (some 34, (.pick (.tmp 25) (.tmp 33) (.const (.bool false))), none), (some 4, (.assign (.tmp 34)), none)] rfl fun K hK => ?_
  try simp only [go_sem, simprocAttr, h2, h3]
  repeat' (refine And.intro (by first | rfl | omega | (simp; done)) ?_)
  refine opS_call_ro rfl (sat_spec_KeyOk ?_) ?ha ?hv ?hh ?_
  case ha => simp only [go_sem, simprocAttr, h2, h3]; first | done | rfl
  case hv => first | rfl | (simp only [go_sem]; done)
  case hh => first | rfl | (simp only [go_sem]; done)
  try simp only [go_sem, simprocAttr, h2, h3]
  repeat' (refine And.intro (by first | rfl | omega | (simp; done)) ?_)
  refine awpS_live [2, 3, 7] fun ρ hL => ?_
  try simp only [go_sem, simprocAttr, h2, h3] at hL
  try clear h2 h3
  obtain ⟨h2, h3, h7⟩ := hL
  refine grp_andN (tc := 7) (tv := 9) (td := 10) (v := ?v1) 2 rfl [2, 3] h7 rfl (fun hb K1 hK1 => ?run) (fun hb => ?skip) (fun ρ hP hL => ?_)
  case skip =>
    exact awpS_skip (want := true) (b := _) (by rw [hb]; rfl) _ [] ρ h7 (fun _ _ => rfl) (by simp) rfl
  case run =>
    simp only [List.take_succ_cons, List.take_zero]
    rw [hb] at h7
    try simp only [go_sem, simprocAttr, h2, h3, h7]
    repeat' (refine And.intro (by first | rfl | omega | (simp; done)) ?_)
    refine opS_call_ro rfl (sat_spec_KeyOk ?_) ?ha ?hv ?hh ?_
    case ha => simp only [go_sem, simprocAttr, h2, h3, h7]; first | done | rfl
    case hv => first | rfl | (simp only [go_sem]; done)
    case hh => first | rfl | (simp only [go_sem]; done)
    try simp only [go_sem, simprocAttr, h2, h3, h7]
    repeat' (refine And.intro (by first | rfl | omega | (simp; done)) ?_)
    exact hK1 _ (by simp only [go_sem, simprocAttr, h2, h3, h7]) (by simp only [go_sem, simprocAttr, h2, h3, h7]; exact rfl) (by simp only [go_sem, simprocAttr, h2, h3, h7])
  simp only [List.drop_succ_cons, List.drop_zero]
  try simp only [go_sem, simprocAttr, h2, h3, h7] at hL
  try clear h2 h3 h7
  obtain ⟨h2, h3⟩ := hL
  have h10 := hP
  clear hP
  try simp only [go_sem, simprocAttr, h2, h3, h10]
  repeat' (refine And.intro (by first | rfl | omega | (simp; done)) ?_)
  refine awpS_live [2, 3, 11] fun ρ hL => ?_
  try simp only [go_sem, simprocAttr, h2, h3, h10] at hL
  try clear h2 h3 h10
  obtain ⟨h2, h3, h11⟩ := hL
  refine grp_andN (tc := 11) (tv := 16) (td := 17) (v := ?v2) 5 rfl [2, 3] h11 rfl (fun hb K1 hK1 => ?run) (fun hb => ?skip) (fun ρ hP hL => ?_)
  case skip =>
    exact awpS_skip (want := true) (b := _) (by rw [hb]; rfl) _ [] ρ h11 (fun _ _ => rfl) (by simp) rfl
  case run =>
    simp only [List.take_succ_cons, List.take_zero]
    rw [hb] at h11
    try simp only [go_sem, simprocAttr, h2, h3, h11]
    repeat' (refine And.intro (by first | rfl | omega | (simp; done)) ?_)
    exact hK1 _ (by simp only [go_sem, simprocAttr, h2, h3, h11]) (by simp only [go_sem, simprocAttr, h2, h3, h11]; exact rfl) (by simp only [go_sem, simprocAttr, h2, h3, h11])
  simp only [List.drop_succ_cons, List.drop_zero]
  try simp only [go_sem, simprocAttr, h2, h3, h11] at hL
  try clear h2 h3 h11
  obtain ⟨h2, h3⟩ := hL
  have h17 := hP
  clear hP
  try simp only [go_sem, simprocAttr, h2, h3, h17]
  repeat' (refine And.intro (by first | rfl | omega | (simp; done)) ?_)
  refine awpS_live [2, 3, 18] fun ρ hL => ?_
  try simp only [go_sem, simprocAttr, h2, h3, h17] at hL
  try clear h2 h3 h17
  obtain ⟨h2, h3, h18⟩ := hL
  refine grp_andN (tc := 18) (tv := 23) (td := 24) (v := ?v3) 5 rfl [2, 3] h18 rfl (fun hb K1 hK1 => ?run) (fun hb => ?skip) (fun ρ hP hL => ?_)
  case skip =>
    exact awpS_skip (want := true) (b := _) (by rw [hb]; rfl) _ [] ρ h18 (fun _ _ => rfl) (by simp) rfl
  case run =>
    simp only [List.take_succ_cons, List.take_zero]
    rw [hb] at h18
    try simp only [go_sem, simprocAttr, h2, h3, h18]
    repeat' (refine And.intro (by first | rfl | omega | (simp; done)) ?_)
    exact hK1 _ (by simp only [go_sem, simprocAttr, h2, h3, h18]) (by simp only [go_sem, simprocAttr, h2, h3, h18]; exact rfl) (by simp only [go_sem, simprocAttr, h2, h3, h18])
  simp only [List.drop_succ_cons, List.drop_zero]
  try simp only [go_sem, simprocAttr, h2, h3, h18] at hL
  try clear h2 h3 h18
  obtain ⟨h2, h3⟩ := hL
  have h24 := hP
  clear hP
  try simp only [go_sem, simprocAttr, h2, h3, h24]
  repeat' (refine And.intro (by first | rfl | omega | (simp; done)) ?_)
  refine awpS_live [2, 3, 25] fun ρ hL => ?_
  try simp only [go_sem, simprocAttr, h2, h3, h24] at hL
  try clear h2 h3 h24
  obtain ⟨h2, h3, h25⟩ := hL
  refine grp_andN (tc := 25) (tv := 33) (td := 34) (v := ?v4) 8 rfl [] h25 rfl (fun hb K1 hK1 => ?run) (fun hb => ?skip) (fun ρ hP hL => ?_)
  case skip =>
    exact awpS_skip (want := true) (b := _) (by rw [hb]; rfl) _ [] ρ h25 (fun _ _ => rfl) (by simp) rfl
  case run =>
    simp only [List.take_succ_cons, List.take_zero]
    rw [hb] at h25
    try simp only [go_sem, simprocAttr, h2, h3, h25]
    repeat' (refine And.intro (by first | rfl | omega | (simp; done)) ?_)
    exact hK1 _ (by simp only [go_sem, simprocAttr, h2, h3, h25]) (by simp only [go_sem, simprocAttr, h2, h3, h25]; exact rfl) (by simp only [go_sem, simprocAttr, h2, h3, h25])
  simp only [List.drop_succ_cons, List.drop_zero]
  clear hL h2 h3 h25
  have h34 := hP
  clear hP
  try simp only [go_sem, simprocAttr, h34]
  repeat' (refine And.intro (by first | rfl | omega | (simp; done)) ?_)
  refine hK _ _ (.mk (awl_live' [4] fun ρ hL => ?_))
  try simp only [go_sem, simprocAttr, h34] at hL
  try clear h34
  have h4 := hL
  clear hL
  clear hK K
  refine awl_ret ?_
  refine ret0 (by simp only [go_sem, simprocAttr, h4]; exact rfl) ?_
  try simp only [go_sem, simprocAttr]
  all_goals (rfl)
set_option maxHeartbeats 8000000 in
set_option maxRecDepth 100000 in
theorem sat_impl_Covers (a : Key) (b : Key)  : Sat Try.prog 142 [.agg a.cells, .agg b.cells] [] (.bool (covers a b)) [] := by
  refine sat_mk [.tmp 4] 0 33 Try.call142 Try.func142 Try.ntmps142 rfl rfl rfl rfl rfl ?_
  refine awl_live' [0, 1] fun ρ hL => ?_
  try simp only [go_sem, simprocAttr] at hL
  obtain ⟨h0, h1⟩ := hL
  refine awl_seq ?_
  refine awl_regS [(some 2, (.box 40 (.tmp 0)), none), (some 3, (.box 40 (.tmp 1)), none), (some 4, (.assign (.const (.bool false))), none)] rfl fun K hK => ?_
  try simp only [go_sem, simprocAttr, h0, h1]
  repeat' (refine And.intro (by first | rfl | omega | (simp; done)) ?_)
  refine hK _ _ (.mk (awl_live' [2, 3] fun ρ hL => ?_))
  try simp only [go_sem, simprocAttr, h0, h1] at hL
  try clear h0 h1
  obtain ⟨h2, h3⟩ := hL
  clear hK K
  refine awl_seq ?_
  refine awl_regS [(some 5, (.load 40 (.tmp 2)), none), (some 6, (.call ⟨(.value (.func 127)), #[(.tmp 5)], #[40]⟩), none), (some 7, (.move (.tmp 6)), none), (some 8, (.load 40 (.tmp 3)), some (7, true)), (some 9, (.call ⟨(.value (.func 127)), #[(.tmp 8)], #[40]⟩), some (7, true)), (some 10, (.pick (.tmp 7) (.tmp 9) (.const (.bool false))), none), (some 11, (.move (.tmp 10)), none), (some 12, (.fieldAddr 40 (.tmp 2) 0), some (11, true)), (some 13, (.load 3 (.tmp 12)), some (11, true)), (some 14, (.fieldAddr 40 (.tmp 3) 0), some (11, true)), (some 15, (.load 3 (.tmp 14)), some (11, true)), (some 16, (.binOp .leq 3 (.tmp 13) (.tmp 15) 3), some (11, true)), (some 17, (.pick (.tmp 11) (.tmp 16) (.const (.bool false))), none), (some 18, (.move (.tmp 17)), none), (some 19, (.fieldAddr 40 (.tmp 3) 1), some (18, true)), (some 20, (.load 3 (.tmp 19)), some (18, true)), (some 21, (.fieldAddr 40 (.tmp 2) 1), some (18, true)), (some 22, (.load 3 (.tmp 21)), some (18, true)), (some 23, (.binOp .leq 3 (.tmp 20) (.tmp 22) 3), some (18, true)), (some 24, (.pick (.tmp 18) (.tmp 23) (.const (.bool false))), none), (some 25, (.move (.tmp 24)), none), (some 26, (.fieldAddr 40 (.tmp 3) 2), some (25, true)), (some 27, (.load 3 (.tmp 26)), some (25, true)), (some 28, (.fieldAddr 40 (.tmp 2) 2), some (25, true)), (some 29, (.load 3 (.tmp 28)), some (25, true)), (some 30, (.binOp .andNot 3 (.tmp 27) (.tmp 29) 3), some (25, true)), (some 31, (.binOp .eql 3 (.tmp 30) (.const (.int .i64 0)) 3), some (25, true)), (some 32, (.pick (.tmp 25) (.tmp 31) (.const (.bool false))), none), (some 4, (.assign (.tmp 32)), none)] rfl fun K hK => ?_
  try simp only [go_sem, simprocAttr, h2, h3]
  repeat' (refine And.intro (by first | rfl | omega | (simp; done)) ?_)
  refine opS_call_ro rfl (sat_impl_KeyOk ?_) ?ha ?hv ?hh ?_
  case ha => simp only [go_sem, simprocAttr, h2, h3]; first | done | rfl
  case hv => first | rfl | (simp only [go_sem]; done)
  case hh => first | rfl | (simp only [go_sem]; done)
  try simp only [go_sem, simprocAttr, h2, h3]
  repeat' (refine And.intro (by first | rfl | omega | (simp; done)) ?_)
  refine awpS_live [2, 3, 7] fun ρ hL => ?_
  try simp only [go_sem, simprocAttr, h2, h3] at hL
  try clear h2 h3
  obtain ⟨h2, h3, h7⟩ := hL
  refine grp_andN (tc := 7) (tv := 9) (td := 10) (v := ?v1) 2 rfl [2, 3] h7 rfl (fun hb K1 hK1 => ?run) (fun hb => ?skip) (fun ρ hP hL => ?_)
  case skip =>
    exact awpS_skip (want := true) (b := _) (by rw [hb]; rfl) _ [] ρ h7 (fun _ _ => rfl) (by simp) rfl
  case run =>
    simp only [List.take_succ_cons, List.take_zero]
    rw [hb] at h7
    try simp only [go_sem, simprocAttr, h2, h3, h7]
    repeat' (refine And.intro (by first | rfl | omega | (simp; done)) ?_)
    refine opS_call_ro rfl (sat_impl_KeyOk ?_) ?ha ?hv ?hh ?_
    case ha => simp only [go_sem, simprocAttr, h2, h3, h7]; first | done | rfl
    case hv => first | rfl | (simp only [go_sem]; done)
    case hh => first | rfl | (simp only [go_sem]; done)
    try simp only [go_sem, simprocAttr, h2, h3, h7]
    repeat' (refine And.intro (by first | rfl | omega | (simp; done)) ?_)
    exact hK1 _ (by simp only [go_sem, simprocAttr, h2, h3, h7]) (by simp only [go_sem, simprocAttr, h2, h3, h7]; exact rfl) (by simp only [go_sem, simprocAttr, h2, h3, h7])
  simp only [List.drop_succ_cons, List.drop_zero]
  try simp only [go_sem, simprocAttr, h2, h3, h7] at hL
  try clear h2 h3 h7
  obtain ⟨h2, h3⟩ := hL
  have h10 := hP
  clear hP
  try simp only [go_sem, simprocAttr, h2, h3, h10]
  repeat' (refine And.intro (by first | rfl | omega | (simp; done)) ?_)
  refine awpS_live [2, 3, 11] fun ρ hL => ?_
  try simp only [go_sem, simprocAttr, h2, h3, h10] at hL
  try clear h2 h3 h10
  obtain ⟨h2, h3, h11⟩ := hL
  refine grp_andN (tc := 11) (tv := 16) (td := 17) (v := ?v2) 5 rfl [2, 3] h11 rfl (fun hb K1 hK1 => ?run) (fun hb => ?skip) (fun ρ hP hL => ?_)
  case skip =>
    exact awpS_skip (want := true) (b := _) (by rw [hb]; rfl) _ [] ρ h11 (fun _ _ => rfl) (by simp) rfl
  case run =>
    simp only [List.take_succ_cons, List.take_zero]
    rw [hb] at h11
    try simp only [go_sem, simprocAttr, h2, h3, h11]
    repeat' (refine And.intro (by first | rfl | omega | (simp; done)) ?_)
    exact hK1 _ (by simp only [go_sem, simprocAttr, h2, h3, h11]) (by simp only [go_sem, simprocAttr, h2, h3, h11]; exact rfl) (by simp only [go_sem, simprocAttr, h2, h3, h11])
  simp only [List.drop_succ_cons, List.drop_zero]
  try simp only [go_sem, simprocAttr, h2, h3, h11] at hL
  try clear h2 h3 h11
  obtain ⟨h2, h3⟩ := hL
  have h17 := hP
  clear hP
  try simp only [go_sem, simprocAttr, h2, h3, h17]
  repeat' (refine And.intro (by first | rfl | omega | (simp; done)) ?_)
  refine awpS_live [2, 3, 18] fun ρ hL => ?_
  try simp only [go_sem, simprocAttr, h2, h3, h17] at hL
  try clear h2 h3 h17
  obtain ⟨h2, h3, h18⟩ := hL
  refine grp_andN (tc := 18) (tv := 23) (td := 24) (v := ?v3) 5 rfl [2, 3] h18 rfl (fun hb K1 hK1 => ?run) (fun hb => ?skip) (fun ρ hP hL => ?_)
  case skip =>
    exact awpS_skip (want := true) (b := _) (by rw [hb]; rfl) _ [] ρ h18 (fun _ _ => rfl) (by simp) rfl
  case run =>
    simp only [List.take_succ_cons, List.take_zero]
    rw [hb] at h18
    try simp only [go_sem, simprocAttr, h2, h3, h18]
    repeat' (refine And.intro (by first | rfl | omega | (simp; done)) ?_)
    exact hK1 _ (by simp only [go_sem, simprocAttr, h2, h3, h18]) (by simp only [go_sem, simprocAttr, h2, h3, h18]; exact rfl) (by simp only [go_sem, simprocAttr, h2, h3, h18])
  simp only [List.drop_succ_cons, List.drop_zero]
  try simp only [go_sem, simprocAttr, h2, h3, h18] at hL
  try clear h2 h3 h18
  obtain ⟨h2, h3⟩ := hL
  have h24 := hP
  clear hP
  try simp only [go_sem, simprocAttr, h2, h3, h24]
  repeat' (refine And.intro (by first | rfl | omega | (simp; done)) ?_)
  refine awpS_live [2, 3, 25] fun ρ hL => ?_
  try simp only [go_sem, simprocAttr, h2, h3, h24] at hL
  try clear h2 h3 h24
  obtain ⟨h2, h3, h25⟩ := hL
  refine grp_andN (tc := 25) (tv := 31) (td := 32) (v := ?v4) 6 rfl [] h25 rfl (fun hb K1 hK1 => ?run) (fun hb => ?skip) (fun ρ hP hL => ?_)
  case skip =>
    exact awpS_skip (want := true) (b := _) (by rw [hb]; rfl) _ [] ρ h25 (fun _ _ => rfl) (by simp) rfl
  case run =>
    simp only [List.take_succ_cons, List.take_zero]
    rw [hb] at h25
    try simp only [go_sem, simprocAttr, h2, h3, h25]
    repeat' (refine And.intro (by first | rfl | omega | (simp; done)) ?_)
    exact hK1 _ (by simp only [go_sem, simprocAttr, h2, h3, h25]) (by simp only [go_sem, simprocAttr, h2, h3, h25]; exact rfl) (by simp only [go_sem, simprocAttr, h2, h3, h25])
  simp only [List.drop_succ_cons, List.drop_zero]
  clear hL h2 h3 h25
  have h32 := hP
  clear hP
  try simp only [go_sem, simprocAttr, h32]
  repeat' (refine And.intro (by first | rfl | omega | (simp; done)) ?_)
  refine hK _ _ (.mk (awl_live' [4] fun ρ hL => ?_))
  try simp only [go_sem, simprocAttr, h32] at hL
  try clear h32
  have h4 := hL
  clear hL
  clear hK K
  refine awl_ret ?_
  refine ret0 (by simp only [go_sem, simprocAttr, h4]; exact rfl) ?_
  try simp only [go_sem, simprocAttr]
  all_goals (rw [← covers_impl])
set_option maxHeartbeats 8000000 in
set_option maxRecDepth 100000 in
theorem sat_spec_Unders (w : Word) (l : List Word) (hb : l.length ≤ 1099511627776) : Sat Try.prog 109 [.agg w.cells, .sl l.length l.length (rows l)] [] (.bool (unders w l)) [] := by
  refine sat_mk [.tmp 4] 0 30 Try.call109 Try.func109 Try.ntmps109 rfl rfl rfl rfl rfl ?_
  refine awl_live' [0, 1] fun ρ hL => ?_
  try simp only [go_sem, simprocAttr] at hL
  obtain ⟨h0, h1⟩ := hL
  refine awl_seq ?_
  refine awl_regS [(some 2, (.box 42 (.tmp 0)), none), (some 4, (.assign (.const (.bool false))), none)] rfl fun K hK => ?_
  try simp only [go_sem, simprocAttr, h0, h1]
  repeat' (refine And.intro (by first | rfl | omega | (simp; done)) ?_)
  refine hK _ _ (.mk (awl_live' [1, 2] fun ρ hL => ?_))
  try simp only [go_sem, simprocAttr, h0, h1] at hL
  try clear h0 h1
  obtain ⟨h1, h2⟩ := hL
  clear hK K
  refine awl_seq ?_
  refine awl_seq ?_
  refine awl_regS [(some 6, (.fieldAddr 42 (.tmp 2) 1), none), (some 7, (.load 4 (.tmp 6)), none), (some 8, (.unOp .not 4 (.tmp 7)), none)] rfl fun K hK => ?_
  try simp only [go_sem, simprocAttr, h1, h2]
  repeat' (refine And.intro (by first | rfl | omega | (simp; done)) ?_)
  refine hK _ _ (.mk (awl_live' [1, 2, 8] fun ρ hL => ?_))
  try simp only [go_sem, simprocAttr, h1, h2] at hL
  try clear h1 h2
  obtain ⟨h1, h2, h8⟩ := hL
  clear hK K
  refine awl_cond h8 (fun c1 => ?_) (fun c1 => ?_)
  ·
    try simp only [cnd] at c1
    refine awl_seq ?_
    refine awl_regS [(some 4, (.assign (.const (.bool true))), none)] rfl fun K hK => ?_
    try simp only [go_sem, simprocAttr, h1, h2, h8]
    repeat' (refine And.intro (by first | rfl | omega | (simp; done)) ?_)
    refine hK _ _ (.mk (awl_live' [4] fun ρ hL => ?_))
    try simp only [go_sem, simprocAttr, h1, h2, h8] at hL
    try clear h1 h2 h8
    have h4 := hL
    clear hL
    clear hK K
    refine awl_ret ?_
    refine ret0 (by simp only [go_sem, simprocAttr, h4]; exact rfl) ?_
    try simp only [go_sem, simprocAttr]
    all_goals (rw [unders, c1]; rfl)
  ·
    try simp only [cnd] at c1
    refine awl_skip ?_
    refine awl_seq ?_
    refine awl_seq ?_
    refine awl_regS [(some 5, (.assign (.const (.int .i64 0))), none)] rfl fun K hK => ?_
    try simp only [go_sem, simprocAttr, h1, h2, h8]
    repeat' (refine And.intro (by first | rfl | omega | (simp; done)) ?_)
    refine hK _ _ (.mk (awl_live' [1, 2, 5] fun ρ hL => ?_))
    try simp only [go_sem, simprocAttr, h1, h2, h8] at hL
    try clear h1 h2 h8
    obtain ⟨h1, h2, h5⟩ := hL
    clear hK K
    have e1_1 := h1
    have e1_2 := h2
    refine awl_loopH (fun H0 n σ G => ∃ (i : Nat), n = l.length - i ∧ (i ≤ l.length) ∧ ((l.take i).any (fun x => x.is && covers x.key w.key) = false) ∧ liveE [1, 2] σ ρ ∧ σ 5 = .int .i64 (i : Int) ∧ G = H0) (fun H0 σ G => (l.any (fun x => x.is && covers x.key w.key) = false) ∧ liveE [] σ ρ ∧ G = H0) ((fun (i : Nat) => l.length - i) 0) ?init1 (fun n ρ G hI => ?round1) (fun ρ G hJ => ?after1)
    case init1 => exact ⟨0, rfl, (Nat.zero_le _), (rfl), liveE_refl _ _, (h5), rfl⟩
    case round1 =>
      obtain ⟨i, hn, i1_0, i1_1, hL, k5, hG⟩ := hI
      subst hG
      try simp only [go_sem, simprocAttr, h1, h2, h5] at hL
      clear h1 h2 h5
      obtain ⟨h1, h2⟩ := hL
      have h5 := k5
      clear k5
      refine awl_seq ?_
      refine awl_seq ?_
      refine awl_regS [(some 9, (.move (.tmp 5)), none), (some 10, (.move (.tmp 1)), none), (some 11, (.call ⟨(.builtin .len), #[(.tmp 10)], #[38]⟩), none), (some 12, (.binOp .lss 3 (.tmp 9) (.tmp 11) 3), none)] rfl fun K hK => ?_
      try simp only [go_sem, simprocAttr, h1, h2, h5]
      repeat' (refine And.intro (by first | rfl | omega | (simp; done)) ?_)
      refine hK _ _ (.mk (awl_live' [1, 2, 5, 12] fun ρ hL => ?_))
      try simp only [go_sem, simprocAttr, h1, h2, h5] at hL
      try clear h1 h2 h5
      obtain ⟨h1, h2, h5, h12⟩ := hL
      clear hK K
      refine awl_cond h12 (fun c2 => ?_) (fun c2 => ?_)
      ·
        try simp only [cnd] at c2
        have hi1 : i < l.length := by omega
        refine awl_skip ?_
        refine awl_seq ?_
        refine awl_block fun R1 hw1 hR1 => ?_
        refine awl_seq ?_
        have j2_1 := h1
        have j2_2 := h2
        have j2_5 := h5
        refine awl_regDJ mixed [(some 15, (.move (.tmp 1)), none), (some 16, (.move (.tmp 5)), none), (some 17, (.indexAddr 38 (.tmp 15) (.tmp 16)), none), (some 18, (.fieldAddr 42 (.tmp 17) 1), none), (some 19, (.load 4 (.tmp 18)), none), (some 20, (.move (.tmp 19)), none), (some 21, (.move (.tmp 1)), some (20, true)), (some 22, (.move (.tmp 5)), some (20, true)), (some 23, (.indexAddr 38 (.tmp 21) (.tmp 22)), some (20, true)), (some 24, (.fieldAddr 42 (.tmp 23) 2), some (20, true)), (some 25, (.load 40 (.tmp 24)), some (20, true)), (some 26, (.fieldAddr 42 (.tmp 2) 2), some (20, true)), (some 27, (.load 40 (.tmp 26)), some (20, true)), (some 28, (.call ⟨(.value (.func 138)), #[(.tmp 25), (.tmp 27)], #[40, 40]⟩), some (20, true)), (some 29, (.pick (.tmp 20) (.tmp 28) (.const (.bool false))), none)] rfl (fun H0 σ G => liveE [1, 2, 5] σ ρ ∧ σ 29 = .bool ((l.getD i noWord).is && covers (l.getD i noWord).key w.key) ∧ G = H0) (fun K hK => ?inner2) (fun ρ G hJ => ?after2)
        case inner2 =>
          try simp only [go_sem, simprocAttr, h1, h2, h5, h12, hi1, hi1]
          repeat' (refine And.intro (by first | omega | (exact ⟨[0, 0, 3, 7, 15, 31, 63, 63, 255, 511, 1023, 63, 2111, 8191, 16383], by kernel_rfl⟩) | kernel_rfl) ?_)
          refine awpDS_split (b := ?b1) 20 (by simp only [go_sem, simprocAttr, h1, h2, h5, h12, hi1, hi1]; exact rfl) (fun hb1 => ?_) (fun hb1 => ?_)
          ·
            try simp only [go_sem, simprocAttr, h1, h2, h5, h12, hi1, hb1, hi1]
            repeat' (refine And.intro (by first | omega | (exact ⟨[0, 0, 3, 7, 15, 31, 63, 63, 255, 511, 1023, 63, 2111, 8191, 16383], by kernel_rfl⟩) | kernel_rfl) ?_)
            refine dS_call_ro rfl (sat_spec_Covers (l.getD i noWord).key w.key) ?ha ?hv ?hh ?_
            case ha => simp only [go_sem, simprocAttr, h1, h2, h5, h12, hi1, hb1, hi1]; first | done | rfl
            case hv => first | rfl | (simp only [go_sem]; done)
            case hh => first | rfl | (simp only [go_sem]; done)
            try simp only [go_sem, simprocAttr, h1, h2, h5, h12, hi1, hb1, hi1]
            repeat' (refine And.intro (by first | omega | (exact ⟨[0, 0, 3, 7, 15, 31, 63, 63, 255, 511, 1023, 63, 2111, 8191, 16383], by kernel_rfl⟩) | kernel_rfl) ?_)
            exact hK _ _ ⟨(by simp only [go_sem, simprocAttr, h1, h2, h5, h12, hi1, hb1, hi1, j2_1, j2_2, j2_5]), (by simp only [go_sem, simprocAttr, h1, h2, h5, h12, hi1, hb1, hi1, j2_1, j2_2, j2_5]; first | done | rfl), rfl⟩
          ·
            try simp only [go_sem, simprocAttr, h1, h2, h5, h12, hi1, hb1, hi1]
            repeat' (refine And.intro (by first | omega | (exact ⟨[0, 0, 3, 7, 15, 31, 63, 63, 255, 511, 1023, 63, 2111, 8191, 16383], by kernel_rfl⟩) | kernel_rfl) ?_)
            exact hK _ _ ⟨(by simp only [go_sem, simprocAttr, h1, h2, h5, h12, hi1, hb1, hi1, j2_1, j2_2, j2_5]), (by simp only [go_sem, simprocAttr, h1, h2, h5, h12, hi1, hb1, hi1, j2_1, j2_2, j2_5]; first | done | rfl), rfl⟩
        case after2 =>
          obtain ⟨hL, k29, hG⟩ := hJ
          subst hG
          try simp only [go_sem, simprocAttr, h1, h2, h5, h12, hi1] at hL
          clear h1 h2 h5 h12
          obtain ⟨h1, h2, h5⟩ := hL
          have h29 := k29
          clear k29
          refine awl_cond h29 (fun c3 => ?_) (fun c3 => ?_)
          ·
            try simp only [cnd] at c3
            refine awl_seq ?_
            refine awl_regS [(some 4, (.assign (.const (.bool true))), none)] rfl fun K hK => ?_
            try simp only [go_sem, simprocAttr, h1, h2, h5, h29, hi1]
            repeat' (refine And.intro (by first | rfl | omega | (simp; done)) ?_)
            refine hK _ _ (.mk (awl_live' [4] fun ρ hL => ?_))
            try simp only [go_sem, simprocAttr, h1, h2, h5, h29, hi1] at hL
            try clear h1 h2 h5 h29
            have h4 := hL
            clear hL
            clear hK K
            refine awl_ret ?_
            refine blk_ret ?_
            refine loop_ret ?_
            refine ret0 (by simp only [go_sem, simprocAttr, h4, hi1]; exact rfl) ?_
            try simp only [go_sem, simprocAttr]
            all_goals try clear hR1
            all_goals (rw [unders, any_of (d := noWord) hi1 (by simpa using c3), Bool.or_true])
          ·
            try simp only [cnd] at c3
            refine awl_skip ?_
            refine awl_nil ?_
            refine blk_normal (hR1 _ _ (.mk ?_))
            have w1 : IntKind.i64.wrap ((i : Int) + 1) = ((i + 1 : Nat) : Int) := by rw [wrap64 (by omega)]; omega
            refine awl_regS [(some 13, (.move (.tmp 5)), none), (some 14, (.binOp .add 3 (.tmp 13) (.const (.int .i64 1)) 3), none), (some 5, (.assign (.tmp 14)), none)] rfl fun K hK => ?_
            try simp only [go_sem, simprocAttr, h1, h2, h5, h29, hi1, w1]
            repeat' (refine And.intro (by first | rfl | omega | (simp; done)) ?_)
            refine hK _ _ (.mk (awl_live' [1, 2, 5] fun ρ hL => ?_))
            try simp only [go_sem, simprocAttr, h1, h2, h5, h29, hi1, w1] at hL
            try clear h1 h2 h5 h29
            obtain ⟨h1, h2, h5⟩ := hL
            clear hK K
            refine awl_nil ?_
            refine loop_again _ ?meas ⟨i + 1, rfl, (by omega), (by exact any_take_succ (d := noWord) hi1 i1_1 (by rcases c3 with c3 | c3 <;> simp only [c3, Bool.false_and, Bool.and_false])), (by simp only [go_sem, simprocAttr, h1, h2, h5, hi1, e1_1, e1_2]), (h5), rfl⟩
            case meas => subst hn; omega
      ·
        try simp only [cnd] at c2
        refine awl_exit ?_
        refine loop_break ?_
        exact ⟨(by rwa [List.take_of_length_le (by omega)] at i1_1), (by simp only [go_sem, simprocAttr, h1, h2, h5, h12, e1_1, e1_2]), rfl⟩
    case after1 =>
      obtain ⟨j1_0, hL, hG⟩ := hJ
      subst hG
      clear h1 h2 h5
      clear hL
      refine awl_seq ?_
      refine awl_regS [(some 4, (.assign (.const (.bool false))), none)] rfl fun K hK => ?_
      try simp only [go_sem, simprocAttr]
      repeat' (refine And.intro (by first | rfl | omega | (simp; done)) ?_)
      refine hK _ _ (.mk (awl_live' [4] fun ρ hL => ?_))
      try simp only [go_sem, simprocAttr] at hL
      have h4 := hL
      clear hL
      clear hK K
      refine awl_ret ?_
      refine ret0 (by simp only [go_sem, simprocAttr, h4]; exact rfl) ?_
      try simp only [go_sem, simprocAttr]
      all_goals try clear hR1
      all_goals (rw [unders, j1_0, c1]; rfl)
set_option maxHeartbeats 8000000 in
set_option maxRecDepth 100000 in
theorem sat_impl_Unders_1 (x : Word) (w : Word)  : Sat Try.prog 141 [.agg x.cells, .sptr w.cells] [] (.bool (x.is && covers x.key w.key)) [] := by
  refine sat_mk [.tmp 3] 0 13 Try.call141 Try.func141 Try.ntmps141 rfl rfl rfl rfl rfl ?_
  refine awl_live' [0, 1] fun ρ hL => ?_
  try simp only [go_sem, simprocAttr] at hL
  obtain ⟨h0, h1⟩ := hL
  refine awl_seq ?_
  refine awl_regS [(some 2, (.box 42 (.tmp 0)), none), (some 3, (.assign (.const (.bool false))), none)] rfl fun K hK => ?_
  try simp only [go_sem, simprocAttr, h0, h1]
  repeat' (refine And.intro (by first | rfl | omega | (simp; done)) ?_)
  refine hK _ _ (.mk (awl_live' [1, 2] fun ρ hL => ?_))
  try simp only [go_sem, simprocAttr, h0, h1] at hL
  try clear h0 h1
  obtain ⟨h1, h2⟩ := hL
  clear hK K
  refine awl_seq ?_
  refine awl_regS [(some 4, (.fieldAddr 42 (.tmp 2) 1), none), (some 5, (.load 4 (.tmp 4)), none), (some 6, (.move (.tmp 5)), none), (some 7, (.fieldAddr 42 (.tmp 2) 2), some (6, true)), (some 8, (.load 40 (.tmp 7)), some (6, true)), (some 9, (.fieldAddr 42 (.tmp 1) 2), some (6, true)), (some 10, (.load 40 (.tmp 9)), some (6, true)), (some 11, (.call ⟨(.value (.func 142)), #[(.tmp 8), (.tmp 10)], #[40, 40]⟩), some (6, true)), (some 12, (.pick (.tmp 6) (.tmp 11) (.const (.bool false))), none), (some 3, (.assign (.tmp 12)), none)] rfl fun K hK => ?_
  try simp only [go_sem, simprocAttr, h1, h2]
  repeat' (refine And.intro (by first | rfl | omega | (simp; done)) ?_)
  refine awpS_live [1, 2, 6] fun ρ hL => ?_
  try simp only [go_sem, simprocAttr, h1, h2] at hL
  try clear h1 h2
  obtain ⟨h1, h2, h6⟩ := hL
  refine grp_andN (tc := 6) (tv := 11) (td := 12) (v := ?v1) 5 rfl [] h6 rfl (fun hb K1 hK1 => ?run) (fun hb => ?skip) (fun ρ hP hL => ?_)
  case skip =>
    exact awpS_skip (want := true) (b := _) (by rw [hb]; rfl) _ [] ρ h6 (fun _ _ => rfl) (by simp) rfl
  case run =>
    simp only [List.take_succ_cons, List.take_zero]
    rw [hb] at h6
    try simp only [go_sem, simprocAttr, h1, h2, h6]
    repeat' (refine And.intro (by first | rfl | omega | (simp; done)) ?_)
    refine opS_call_ro rfl (sat_impl_Covers ?_ ?_) ?ha ?hv ?hh ?_
    case ha => simp only [go_sem, simprocAttr, h1, h2, h6]; first | done | rfl
    case hv => first | rfl | (simp only [go_sem]; done)
    case hh => first | rfl | (simp only [go_sem]; done)
    try simp only [go_sem, simprocAttr, h1, h2, h6]
    repeat' (refine And.intro (by first | rfl | omega | (simp; done)) ?_)
    exact hK1 _ (by simp only [go_sem, simprocAttr, h1, h2, h6]) (by simp only [go_sem, simprocAttr, h1, h2, h6]; exact rfl) (by simp only [go_sem, simprocAttr, h1, h2, h6])
  simp only [List.drop_succ_cons, List.drop_zero]
  clear hL h1 h2 h6
  have h12 := hP
  clear hP
  try simp only [go_sem, simprocAttr, h12]
  repeat' (refine And.intro (by first | rfl | omega | (simp; done)) ?_)
  refine hK _ _ (.mk (awl_live' [3] fun ρ hL => ?_))
  try simp only [go_sem, simprocAttr, h12] at hL
  try clear h12
  have h3 := hL
  clear hL
  clear hK K
  refine awl_ret ?_
  refine ret0 (by simp only [go_sem, simprocAttr, h3]; exact rfl) ?_
  try simp only [go_sem, simprocAttr]
  all_goals (first | done | rfl | (simp; done) | (simp [inR]; done) | (simp_all [inR]; done) | (simp [inR]; grind))
set_option maxHeartbeats 8000000 in
set_option maxRecDepth 100000 in
theorem sat_impl_Unders (w : Word) (l : List Word) (hb : l.length ≤ 1099511627776) : Sat Try.prog 114 [.agg w.cells, .sl l.length l.length (rows l)] [] (.bool (unders w l)) [] := by
  refine sat_mk [.tmp 4] 0 13 Try.call114 Try.func114 Try.ntmps114 rfl rfl rfl rfl rfl ?_
  refine awl_live' [0, 1] fun ρ hL => ?_
  try simp only [go_sem, simprocAttr] at hL
  obtain ⟨h0, h1⟩ := hL
  refine awl_seq ?_
  refine awl_regS [(some 2, (.box 42 (.tmp 0)), none), (some 4, (.assign (.const (.bool false))), none)] rfl fun K hK => ?_
  try simp only [go_sem, simprocAttr, h0, h1]
  repeat' (refine And.intro (by first | rfl | omega | (simp; done)) ?_)
  refine hK _ _ (.mk (awl_live' [1, 2] fun ρ hL => ?_))
  try simp only [go_sem, simprocAttr, h0, h1] at hL
  try clear h0 h1
  obtain ⟨h1, h2⟩ := hL
  clear hK K
  refine awl_seq ?_
  refine awl_regS [(some 5, (.fieldAddr 42 (.tmp 2) 1), none), (some 6, (.load 4 (.tmp 5)), none), (some 7, (.unOp .not 4 (.tmp 6)), none), (some 8, (.move (.tmp 7)), none), (some 9, (.move (.tmp 1)), some (8, false)), (some 10, (.makeFunc (.func 141) #[] #[(.tmp 2)]), some (8, false)), (some 11, (.call ⟨(.value (.func 112)), #[(.tmp 9), (.tmp 10)], #[38, 108]⟩), some (8, false)), (some 12, (.pick (.tmp 8) (.const (.bool true)) (.tmp 11)), none), (some 4, (.assign (.tmp 12)), none)] rfl fun K hK => ?_
  try simp only [go_sem, simprocAttr, h1, h2]
  repeat' (refine And.intro (by first | rfl | omega | (simp; done)) ?_)
  refine awpS_live [1, 2, 8] fun ρ hL => ?_
  try simp only [go_sem, simprocAttr, h1, h2] at hL
  try clear h1 h2
  obtain ⟨h1, h2, h8⟩ := hL
  refine grp_orN (tc := 8) (tv := 11) (td := 12) (v := ?v1) 3 rfl [] h8 rfl (fun hb K1 hK1 => ?run) (fun hb => ?skip) (fun ρ hP hL => ?_)
  case skip =>
    exact awpS_skip (want := false) (b := _) (by rw [hb]; rfl) _ [] ρ h8 (fun _ _ => rfl) (by simp) rfl
  case run =>
    simp only [List.take_succ_cons, List.take_zero]
    rw [hb] at h8
    try simp only [go_sem, simprocAttr, h1, h2, h8]
    repeat' (refine And.intro (by first | rfl | omega | (simp; done)) ?_)
    refine opS_call_ro rfl (sat_slices_ContainsFunc_impl_Word_impl_Word l _ [.sptr w.cells] (fun x => x.is && covers x.key w.key) (by omega) (fun _ _ _ => rfl) (fun x => sat_impl_Unders_1 x w)) ?ha ?hv ?hh ?_
    case ha => simp only [go_sem, simprocAttr, h1, h2, h8]; first | done | rfl
    case hv => first | rfl | (simp only [go_sem]; done)
    case hh => first | rfl | (simp only [go_sem]; done)
    try simp only [go_sem, simprocAttr, h1, h2, h8]
    repeat' (refine And.intro (by first | rfl | omega | (simp; done)) ?_)
    exact hK1 _ (by simp only [go_sem, simprocAttr, h1, h2, h8]) (by simp only [go_sem, simprocAttr, h1, h2, h8]; exact rfl) (by simp only [go_sem, simprocAttr, h1, h2, h8])
  simp only [List.drop_succ_cons, List.drop_zero]
  clear hL h1 h2 h8
  have h12 := hP
  clear hP
  try simp only [go_sem, simprocAttr, h12]
  repeat' (refine And.intro (by first | rfl | omega | (simp; done)) ?_)
  refine hK _ _ (.mk (awl_live' [4] fun ρ hL => ?_))
  try simp only [go_sem, simprocAttr, h12] at hL
  try clear h12
  have h4 := hL
  clear hL
  clear hK K
  refine awl_ret ?_
  refine ret0 (by simp only [go_sem, simprocAttr, h4]; exact rfl) ?_
  try simp only [go_sem, simprocAttr]
  all_goals (rfl)
set_option maxHeartbeats 8000000 in
set_option maxRecDepth 100000 in
theorem sat_spec_l10Under (ws : List Word) (l : List Word) (hb : ws.length ≤ 1099511627776) (hb2 : l.length ≤ 1099511627776) : Sat Try.prog 60 [.sl ws.length ws.length (rows ws), .sl l.length l.length (rows l)] [] (.bool (allUnder ws l)) [] := by
  refine sat_mk [.tmp 4] 0 19 Try.call60 Try.func60 Try.ntmps60 rfl rfl rfl rfl rfl ?_
  refine awl_live' [0, 1] fun ρ hL => ?_
  try simp only [go_sem, simprocAttr] at hL
  obtain ⟨h0, h1⟩ := hL
  refine awl_seq ?_
  refine awl_regS [(some 4, (.assign (.const (.bool false))), none)] rfl fun K hK => ?_
  try simp only [go_sem, simprocAttr, h0, h1]
  repeat' (refine And.intro (by first | rfl | omega | (simp; done)) ?_)
  refine hK _ _ (.mk (awl_live' [0, 1] fun ρ hL => ?_))
  try simp only [go_sem, simprocAttr, h0, h1] at hL
  try clear h0 h1
  obtain ⟨h0, h1⟩ := hL
  clear hK K
  refine awl_seq ?_
  refine awl_seq ?_
  refine awl_regS [(some 5, (.assign (.const (.int .i64 0))), none)] rfl fun K hK => ?_
  try simp only [go_sem, simprocAttr, h0, h1]
  repeat' (refine And.intro (by first | rfl | omega | (simp; done)) ?_)
  refine hK _ _ (.mk (awl_live' [0, 1, 5] fun ρ hL => ?_))
  try simp only [go_sem, simprocAttr, h0, h1] at hL
  try clear h0 h1
  obtain ⟨h0, h1, h5⟩ := hL
  clear hK K
  have e1_0 := h0
  have e1_1 := h1
  refine awl_loopH (fun H0 n σ G => ∃ (i : Nat), n = ws.length - i ∧ (i ≤ ws.length) ∧ ((ws.take i).all (fun w => unders w l) = true) ∧ liveE [0, 1] σ ρ ∧ σ 5 = .int .i64 (i : Int) ∧ G = H0) (fun H0 σ G => (ws.all (fun w => unders w l) = true) ∧ liveE [] σ ρ ∧ G = H0) ((fun (i : Nat) => ws.length - i) 0) ?init1 (fun n ρ G hI => ?round1) (fun ρ G hJ => ?after1)
  case init1 => exact ⟨0, rfl, (Nat.zero_le _), (rfl), liveE_refl _ _, (h5), rfl⟩
  case round1 =>
    obtain ⟨i, hn, i1_0, i1_1, hL, k5, hG⟩ := hI
    subst hG
    try simp only [go_sem, simprocAttr, h0, h1, h5] at hL
    clear h0 h1 h5
    obtain ⟨h0, h1⟩ := hL
    have h5 := k5
    clear k5
    refine awl_seq ?_
    refine awl_seq ?_
    refine awl_regS [(some 6, (.move (.tmp 5)), none), (some 7, (.move (.tmp 0)), none), (some 8, (.call ⟨(.builtin .len), #[(.tmp 7)], #[38]⟩), none), (some 9, (.binOp .lss 3 (.tmp 6) (.tmp 8) 3), none)] rfl fun K hK => ?_
    try simp only [go_sem, simprocAttr, h0, h1, h5]
    repeat' (refine And.intro (by first | rfl | omega | (simp; done)) ?_)
    refine hK _ _ (.mk (awl_live' [0, 1, 5, 9] fun ρ hL => ?_))
    try simp only [go_sem, simprocAttr, h0, h1, h5] at hL
    try clear h0 h1 h5
    obtain ⟨h0, h1, h5, h9⟩ := hL
    clear hK K
    refine awl_cond h9 (fun c1 => ?_) (fun c1 => ?_)
    ·
      try simp only [cnd] at c1
      have hi1 : i < ws.length := by omega
      refine awl_skip ?_
      refine awl_seq ?_
      refine awl_block fun R1 hw1 hR1 => ?_
      refine awl_seq ?_
      refine awl_regS [(some 12, (.move (.tmp 0)), none), (some 13, (.move (.tmp 5)), none), (some 14, (.indexAddr 38 (.tmp 12) (.tmp 13)), none), (some 15, (.load 42 (.tmp 14)), none), (some 16, (.move (.tmp 1)), none), (some 17, (.call ⟨(.value (.func 109)), #[(.tmp 15), (.tmp 16)], #[42, 38]⟩), none), (some 18, (.unOp .not 4 (.tmp 17)), none)] rfl fun K hK => ?_
      try simp only [go_sem, simprocAttr, h0, h1, h5, h9, hi1]
      repeat' (refine And.intro (by first | rfl | omega | (simp; done)) ?_)
      refine opS_call_ro rfl (sat_spec_Unders (ws.getD i noWord) l hb2) ?ha ?hv ?hh ?_
      case ha => simp only [go_sem, simprocAttr, h0, h1, h5, h9, hi1]; first | done | rfl
      case hv => first | rfl | (simp only [go_sem]; done)
      case hh => first | rfl | (simp only [go_sem]; done)
      try simp only [go_sem, simprocAttr, h0, h1, h5, h9, hi1]
      repeat' (refine And.intro (by first | rfl | omega | (simp; done)) ?_)
      refine hK _ _ (.mk (awl_live' [0, 1, 5, 18] fun ρ hL => ?_))
      try simp only [go_sem, simprocAttr, h0, h1, h5, h9, hi1] at hL
      try clear h0 h1 h5 h9
      obtain ⟨h0, h1, h5, h18⟩ := hL
      clear hK K
      refine awl_cond h18 (fun c2 => ?_) (fun c2 => ?_)
      ·
        try simp only [cnd] at c2
        refine awl_seq ?_
        refine awl_regS [(some 4, (.assign (.const (.bool false))), none)] rfl fun K hK => ?_
        try simp only [go_sem, simprocAttr, h0, h1, h5, h18, hi1]
        repeat' (refine And.intro (by first | rfl | omega | (simp; done)) ?_)
        refine hK _ _ (.mk (awl_live' [4] fun ρ hL => ?_))
        try simp only [go_sem, simprocAttr, h0, h1, h5, h18, hi1] at hL
        try clear h0 h1 h5 h18
        have h4 := hL
        clear hL
        clear hK K
        refine awl_ret ?_
        refine blk_ret ?_
        refine loop_ret ?_
        refine ret0 (by simp only [go_sem, simprocAttr, h4, hi1]; exact rfl) ?_
        try simp only [go_sem, simprocAttr]
        all_goals try clear hR1
        all_goals (rw [allUnder, all_false_of (d := noWord) hi1 (by simpa using c2)])
      ·
        try simp only [cnd] at c2
        refine awl_skip ?_
        refine awl_nil ?_
        refine blk_normal (hR1 _ _ (.mk ?_))
        have w1 : IntKind.i64.wrap ((i : Int) + 1) = ((i + 1 : Nat) : Int) := by rw [wrap64 (by omega)]; omega
        refine awl_regS [(some 10, (.move (.tmp 5)), none), (some 11, (.binOp .add 3 (.tmp 10) (.const (.int .i64 1)) 3), none), (some 5, (.assign (.tmp 11)), none)] rfl fun K hK => ?_
        try simp only [go_sem, simprocAttr, h0, h1, h5, h18, hi1, w1]
        repeat' (refine And.intro (by first | rfl | omega | (simp; done)) ?_)
        refine hK _ _ (.mk (awl_live' [0, 1, 5] fun ρ hL => ?_))
        try simp only [go_sem, simprocAttr, h0, h1, h5, h18, hi1, w1] at hL
        try clear h0 h1 h5 h18
        obtain ⟨h0, h1, h5⟩ := hL
        clear hK K
        refine awl_nil ?_
        refine loop_again _ ?meas ⟨i + 1, rfl, (by omega), (by exact all_take_succ (d := noWord) hi1 i1_1 (by simpa using c2)), (by simp only [go_sem, simprocAttr, h0, h1, h5, hi1, e1_0, e1_1]), (h5), rfl⟩
        case meas => subst hn; omega
    ·
      try simp only [cnd] at c1
      refine awl_exit ?_
      refine loop_break ?_
      exact ⟨(by exact all_of_take (by omega) i1_1), (by simp only [go_sem, simprocAttr, h0, h1, h5, h9, e1_0, e1_1]), rfl⟩
  case after1 =>
    obtain ⟨j1_0, hL, hG⟩ := hJ
    subst hG
    clear h0 h1 h5
    clear hL
    refine awl_seq ?_
    refine awl_regS [(some 4, (.assign (.const (.bool true))), none)] rfl fun K hK => ?_
    try simp only [go_sem, simprocAttr]
    repeat' (refine And.intro (by first | rfl | omega | (simp; done)) ?_)
    refine hK _ _ (.mk (awl_live' [4] fun ρ hL => ?_))
    try simp only [go_sem, simprocAttr] at hL
    have h4 := hL
    clear hL
    clear hK K
    refine awl_ret ?_
    refine ret0 (by simp only [go_sem, simprocAttr, h4]; exact rfl) ?_
    try simp only [go_sem, simprocAttr]
    all_goals try clear hR1
    all_goals (rw [allUnder, j1_0])
set_option maxHeartbeats 8000000 in
set_option maxRecDepth 100000 in
theorem sat_impl_allUnder_1 (x : Word) (l : List Word) (hb2 : l.length ≤ 1099511627776) : Sat Try.prog 113 [.agg x.cells, .sptr [.sl l.length l.length (rows l)]] [] (.bool (!unders x l)) [] := by
  refine sat_mk [.tmp 3] 0 8 Try.call113 Try.func113 Try.ntmps113 rfl rfl rfl rfl rfl ?_
  refine awl_live' [0, 1] fun ρ hL => ?_
  try simp only [go_sem, simprocAttr] at hL
  obtain ⟨h0, h1⟩ := hL
  refine awl_seq ?_
  refine awl_regS [(some 2, (.box 42 (.tmp 0)), none), (some 3, (.assign (.const (.bool false))), none)] rfl fun K hK => ?_
  try simp only [go_sem, simprocAttr, h0, h1]
  repeat' (refine And.intro (by first | rfl | omega | (simp; done)) ?_)
  refine hK _ _ (.mk (awl_live' [1, 2] fun ρ hL => ?_))
  try simp only [go_sem, simprocAttr, h0, h1] at hL
  try clear h0 h1
  obtain ⟨h1, h2⟩ := hL
  clear hK K
  refine awl_seq ?_
  refine awl_regS [(some 4, (.load 42 (.tmp 2)), none), (some 5, (.load 38 (.tmp 1)), none), (some 6, (.call ⟨(.value (.func 114)), #[(.tmp 4), (.tmp 5)], #[42, 38]⟩), none), (some 7, (.unOp .not 4 (.tmp 6)), none), (some 3, (.assign (.tmp 7)), none)] rfl fun K hK => ?_
  try simp only [go_sem, simprocAttr, h1, h2]
  repeat' (refine And.intro (by first | rfl | omega | (simp; done)) ?_)
  refine opS_call_ro rfl (sat_impl_Unders x l hb2) ?ha ?hv ?hh ?_
  case ha => simp only [go_sem, simprocAttr, h1, h2]; first | done | rfl
  case hv => first | rfl | (simp only [go_sem]; done)
  case hh => first | rfl | (simp only [go_sem]; done)
  try simp only [go_sem, simprocAttr, h1, h2]
  repeat' (refine And.intro (by first | rfl | omega | (simp; done)) ?_)
  refine hK _ _ (.mk (awl_live' [3] fun ρ hL => ?_))
  try simp only [go_sem, simprocAttr, h1, h2] at hL
  try clear h1 h2
  have h3 := hL
  clear hL
  clear hK K
  refine awl_ret ?_
  refine ret0 (by simp only [go_sem, simprocAttr, h3]; exact rfl) ?_
  try simp only [go_sem, simprocAttr]
  all_goals (first | done | rfl | (simp; done) | (simp [inR]; done) | (simp_all [inR]; done) | (simp [inR]; grind))
set_option maxHeartbeats 8000000 in
set_option maxRecDepth 100000 in
theorem sat_impl_allUnder (ws : List Word) (l : List Word) (hb : ws.length ≤ 1099511627776) (hb2 : l.length ≤ 1099511627776) : Sat Try.prog 62 [.sl ws.length ws.length (rows ws), .sl l.length l.length (rows l)] [] (.bool (allUnder ws l)) [] := by
  refine sat_mk [.tmp 4] 0 9 Try.call62 Try.func62 Try.ntmps62 rfl rfl rfl rfl rfl ?_
  refine awl_live' [0, 1] fun ρ hL => ?_
  try simp only [go_sem, simprocAttr] at hL
  obtain ⟨h0, h1⟩ := hL
  refine awl_seq ?_
  refine awl_regS [(some 3, (.box 38 (.tmp 1)), none), (some 4, (.assign (.const (.bool false))), none)] rfl fun K hK => ?_
  try simp only [go_sem, simprocAttr, h0, h1]
  repeat' (refine And.intro (by first | rfl | omega | (simp; done)) ?_)
  refine hK _ _ (.mk (awl_live' [0, 3] fun ρ hL => ?_))
  try simp only [go_sem, simprocAttr, h0, h1] at hL
  try clear h0 h1
  obtain ⟨h0, h3⟩ := hL
  clear hK K
  refine awl_seq ?_
  refine awl_regS [(some 5, (.move (.tmp 0)), none), (some 6, (.makeFunc (.func 113) #[] #[(.tmp 3)]), none), (some 7, (.call ⟨(.value (.func 112)), #[(.tmp 5), (.tmp 6)], #[38, 108]⟩), none), (some 8, (.unOp .not 4 (.tmp 7)), none), (some 4, (.assign (.tmp 8)), none)] rfl fun K hK => ?_
  try simp only [go_sem, simprocAttr, h0, h3]
  repeat' (refine And.intro (by first | rfl | omega | (simp; done)) ?_)
  refine opS_call_ro rfl (sat_slices_ContainsFunc_impl_Word_impl_Word ws _ [.sptr [.sl l.length l.length (rows l)]] (fun w => !unders w l) hb (fun _ _ _ => by simp only [List.map_cons, List.map_nil, bor_sptr, bor_sl, bor_rows]) (fun x => sat_impl_allUnder_1 x l hb2)) ?ha ?hv ?hh ?_
  case ha => simp only [go_sem, simprocAttr, h0, h3]; first | done | rfl
  case hv => first | rfl | (simp only [go_sem]; done)
  case hh => first | rfl | (simp only [go_sem]; done)
  try simp only [go_sem, simprocAttr, h0, h3]
  repeat' (refine And.intro (by first | rfl | omega | (simp; done)) ?_)
  refine hK _ _ (.mk (awl_live' [4] fun ρ hL => ?_))
  try simp only [go_sem, simprocAttr, h0, h3] at hL
  try clear h0 h3
  have h4 := hL
  clear hL
  clear hK K
  refine awl_ret ?_
  refine ret0 (by simp only [go_sem, simprocAttr, h4]; exact rfl) ?_
  try simp only [go_sem, simprocAttr]
  all_goals (rw [allUnder, List.all_eq_not_any_not])
set_option maxHeartbeats 8000000 in
set_option maxRecDepth 100000 in
theorem sat_spec_Closed (s : Stt) (t : Stt) (hf : s.fit) (hf2 : t.fit) : Sat Try.prog 27 [.agg s.cells, .agg t.cells] [] (.bool (closed s t)) [] := by
  refine sat_mk [.tmp 4] 0 18 Try.call27 Try.func27 Try.ntmps27 rfl rfl rfl rfl rfl ?_
  refine awl_live' [0, 1] fun ρ hL => ?_
  try simp only [go_sem, simprocAttr] at hL
  obtain ⟨h0, h1⟩ := hL
  refine awl_seq ?_
  refine awl_regS [(some 2, (.box 46 (.tmp 0)), none), (some 3, (.box 46 (.tmp 1)), none), (some 4, (.assign (.const (.bool false))), none)] rfl fun K hK => ?_
  try simp only [go_sem, simprocAttr, h0, h1]
  repeat' (refine And.intro (by first | rfl | omega | (simp; done)) ?_)
  refine hK _ _ (.mk (awl_live' [2, 3] fun ρ hL => ?_))
  try simp only [go_sem, simprocAttr, h0, h1] at hL
  try clear h0 h1
  obtain ⟨h2, h3⟩ := hL
  clear hK K
  refine awl_seq ?_
  refine awl_regDJ mixed [(some 5, (.load 46 (.tmp 2)), none), (some 6, (.call ⟨(.value (.func 59)), #[(.tmp 5)], #[46]⟩), none), (some 7, (.move (.tmp 6)), none), (some 8, (.load 46 (.tmp 3)), some (7, true)), (some 9, (.call ⟨(.value (.func 59)), #[(.tmp 8)], #[46]⟩), some (7, true)), (some 10, (.pick (.tmp 7) (.tmp 9) (.const (.bool false))), none), (some 11, (.move (.tmp 10)), none), (some 12, (.load 46 (.tmp 3)), some (11, true)), (some 13, (.call ⟨(.value (.func 19)), #[(.tmp 12)], #[46]⟩), some (11, true)), (some 14, (.load 46 (.tmp 2)), some (11, true)), (some 15, (.call ⟨(.value (.func 19)), #[(.tmp 14)], #[46]⟩), some (11, true)), (some 16, (.call ⟨(.value (.func 60)), #[(.tmp 13), (.tmp 15)], #[38, 38]⟩), some (11, true)), (some 17, (.pick (.tmp 11) (.tmp 16) (.const (.bool false))), none), (some 4, (.assign (.tmp 17)), none)] rfl (fun H0 σ G => liveE [] σ ρ ∧ σ 4 = .bool (closed s t)) (fun K hK => ?inner1) (fun ρ G hJ => ?after1)
  case inner1 =>
    try simp only [go_sem, simprocAttr, h2, h3, closed]
    repeat' (refine And.intro (by first | omega | (exact ⟨[0, 1, 3, 7, 15, 31, 63, 127, 255, 127, 1023, 2047, 4095, 8191], by kernel_rfl⟩) | kernel_rfl) ?_)
    refine dS_call_ro rfl (sat_spec_StateOk s hf) ?ha ?hv ?hh ?_
    case ha => simp only [go_sem, simprocAttr, h2, h3, closed]; first | done | rfl
    case hv => first | rfl | (simp only [go_sem]; done)
    case hh => first | rfl | (simp only [go_sem]; done)
    try simp only [go_sem, simprocAttr, h2, h3, closed]
    repeat' (refine And.intro (by first | omega | (exact ⟨[0, 1, 3, 7, 15, 31, 63, 127, 255, 127, 1023, 2047, 4095, 8191], by kernel_rfl⟩) | kernel_rfl) ?_)
    refine awpDS_split (b := ?b1) 7 (by simp only [go_sem, simprocAttr, h2, h3, closed]; exact rfl) (fun hb1 => ?_) (fun hb1 => ?_)
    ·
      try simp only [go_sem, simprocAttr, h2, h3, hb1, closed]
      repeat' (refine And.intro (by first | omega | (exact ⟨[0, 1, 3, 7, 15, 31, 63, 127, 255, 127, 1023, 2047, 4095, 8191], by kernel_rfl⟩) | kernel_rfl) ?_)
      refine dS_call_ro rfl (sat_spec_StateOk t hf2) ?ha ?hv ?hh ?_
      case ha => simp only [go_sem, simprocAttr, h2, h3, hb1, closed]; first | done | rfl
      case hv => first | rfl | (simp only [go_sem]; done)
      case hh => first | rfl | (simp only [go_sem]; done)
      try simp only [go_sem, simprocAttr, h2, h3, hb1, closed]
      repeat' (refine And.intro (by first | omega | (exact ⟨[0, 1, 3, 7, 15, 31, 63, 127, 255, 127, 1023, 2047, 4095, 8191], by kernel_rfl⟩) | kernel_rfl) ?_)
      refine awpDS_split (b := ?b2) 11 (by simp only [go_sem, simprocAttr, h2, h3, hb1, closed]; exact rfl) (fun hb2 => ?_) (fun hb2 => ?_)
      ·
        try simp only [go_sem, simprocAttr, h2, h3, hb1, hb2, closed]
        repeat' (refine And.intro (by first | omega | (exact ⟨[0, 1, 3, 7, 15, 31, 63, 127, 255, 127, 1023, 2047, 4095, 8191], by kernel_rfl⟩) | kernel_rfl) ?_)
        refine dS_call_ro rfl (sat_spec_Keys t hf2) ?ha ?hv ?hh ?_
        case ha => simp only [go_sem, simprocAttr, h2, h3, hb1, hb2, closed]; first | done | rfl
        case hv => first | rfl | (simp only [go_sem]; done)
        case hh => first | rfl | (simp only [go_sem]; done)
        try simp only [go_sem, simprocAttr, h2, h3, hb1, hb2, closed]
        repeat' (refine And.intro (by first | omega | (exact ⟨[0, 1, 3, 7, 15, 31, 63, 127, 255, 127, 1023, 2047, 4095, 8191], by kernel_rfl⟩) | kernel_rfl) ?_)
        refine dS_call_ro rfl (sat_spec_Keys s hf) ?ha ?hv ?hh ?_
        case ha => simp only [go_sem, simprocAttr, h2, h3, hb1, hb2, closed]; first | done | rfl
        case hv => first | rfl | (simp only [go_sem]; done)
        case hh => first | rfl | (simp only [go_sem]; done)
        try simp only [go_sem, simprocAttr, h2, h3, hb1, hb2, closed]
        repeat' (refine And.intro (by first | omega | (exact ⟨[0, 1, 3, 7, 15, 31, 63, 127, 255, 127, 1023, 2047, 4095, 8191], by kernel_rfl⟩) | kernel_rfl) ?_)
        refine dS_call_ro rfl (sat_spec_l10Under (keys t) (keys s) (Nat.le_trans (keys_len hf2) (by decide)) (Nat.le_trans (keys_len hf) (by decide))) ?ha ?hv ?hh ?_
        case ha => simp only [go_sem, simprocAttr, h2, h3, hb1, hb2, closed]; first | done | rfl
        case hv => first | rfl | (simp only [go_sem]; done)
        case hh => first | rfl | (simp only [go_sem]; done)
        try simp only [go_sem, simprocAttr, h2, h3, hb1, hb2, closed]
        repeat' (refine And.intro (by first | omega | (exact ⟨[0, 1, 3, 7, 15, 31, 63, 127, 255, 127, 1023, 2047, 4095, 8191], by kernel_rfl⟩) | kernel_rfl) ?_)
        exact hK _ _ ⟨(by simp only [go_sem, simprocAttr, h2, h3, hb1, hb2, closed]), (by simp only [go_sem, simprocAttr, h2, h3, hb1, hb2, closed]; first | done | rfl)⟩
      ·
        try simp only [go_sem, simprocAttr, h2, h3, hb1, hb2, closed]
        repeat' (refine And.intro (by first | omega | (exact ⟨[0, 1, 3, 7, 15, 31, 63, 127, 255, 127, 1023, 2047, 4095, 8191], by kernel_rfl⟩) | kernel_rfl) ?_)
        exact hK _ _ ⟨(by simp only [go_sem, simprocAttr, h2, h3, hb1, hb2, closed]), (by simp only [go_sem, simprocAttr, h2, h3, hb1, hb2, closed]; first | done | rfl)⟩
    ·
      try simp only [go_sem, simprocAttr, h2, h3, hb1, closed]
      repeat' (refine And.intro (by first | omega | (exact ⟨[0, 1, 3, 7, 15, 31, 63, 127, 255, 127, 1023, 2047, 4095, 8191], by kernel_rfl⟩) | kernel_rfl) ?_)
      exact hK _ _ ⟨(by simp only [go_sem, simprocAttr, h2, h3, hb1, closed]), (by simp only [go_sem, simprocAttr, h2, h3, hb1, closed]; first | done | rfl)⟩
  case after1 =>
    obtain ⟨hL, k4⟩ := hJ
    clear h2 h3
    clear hL
    have h4 := k4
    clear k4
    refine awl_ret ?_
    refine ret0 (by simp only [go_sem, simprocAttr, h4]; exact rfl) ?_
    try simp only [go_sem, simprocAttr]
    all_goals (rfl)
set_option maxHeartbeats 8000000 in
set_option maxRecDepth 100000 in
theorem sat_impl_Closed (s : Stt) (t : Stt) (hf : s.fit) (hf2 : t.fit) : Sat Try.prog 28 [.agg s.cells, .agg t.cells] [] (.bool (closed s t)) [] := by
  refine sat_mk [.tmp 4] 0 18 Try.call28 Try.func28 Try.ntmps28 rfl rfl rfl rfl rfl ?_
  refine awl_live' [0, 1] fun ρ hL => ?_
  try simp only [go_sem, simprocAttr] at hL
  obtain ⟨h0, h1⟩ := hL
  refine awl_seq ?_
  refine awl_regS [(some 2, (.box 46 (.tmp 0)), none), (some 3, (.box 46 (.tmp 1)), none), (some 4, (.assign (.const (.bool false))), none)] rfl fun K hK => ?_
  try simp only [go_sem, simprocAttr, h0, h1]
  repeat' (refine And.intro (by first | rfl | omega | (simp; done)) ?_)
  refine hK _ _ (.mk (awl_live' [2, 3] fun ρ hL => ?_))
  try simp only [go_sem, simprocAttr, h0, h1] at hL
  try clear h0 h1
  obtain ⟨h2, h3⟩ := hL
  clear hK K
  refine awl_seq ?_
  refine awl_regDJ mixed [(some 5, (.load 46 (.tmp 2)), none), (some 6, (.call ⟨(.value (.func 61)), #[(.tmp 5)], #[46]⟩), none), (some 7, (.move (.tmp 6)), none), (some 8, (.load 46 (.tmp 3)), some (7, true)), (some 9, (.call ⟨(.value (.func 61)), #[(.tmp 8)], #[46]⟩), some (7, true)), (some 10, (.pick (.tmp 7) (.tmp 9) (.const (.bool false))), none), (some 11, (.move (.tmp 10)), none), (some 12, (.load 46 (.tmp 3)), some (11, true)), (some 13, (.call ⟨(.value (.func 21)), #[(.tmp 12)], #[46]⟩), some (11, true)), (some 14, (.load 46 (.tmp 2)), some (11, true)), (some 15, (.call ⟨(.value (.func 21)), #[(.tmp 14)], #[46]⟩), some (11, true)), (some 16, (.call ⟨(.value (.func 62)), #[(.tmp 13), (.tmp 15)], #[38, 38]⟩), some (11, true)), (some 17, (.pick (.tmp 11) (.tmp 16) (.const (.bool false))), none), (some 4, (.assign (.tmp 17)), none)] rfl (fun H0 σ G => liveE [] σ ρ ∧ σ 4 = .bool (closed s t)) (fun K hK => ?inner1) (fun ρ G hJ => ?after1)
  case inner1 =>
    try simp only [go_sem, simprocAttr, h2, h3, closed]
    repeat' (refine And.intro (by first | omega | (exact ⟨[0, 1, 3, 7, 15, 31, 63, 127, 255, 127, 1023, 2047, 4095, 8191], by kernel_rfl⟩) | kernel_rfl) ?_)
    refine dS_call_ro rfl (sat_impl_StateOk s hf) ?ha ?hv ?hh ?_
    case ha => simp only [go_sem, simprocAttr, h2, h3, closed]; first | done | rfl
    case hv => first | rfl | (simp only [go_sem]; done)
    case hh => first | rfl | (simp only [go_sem]; done)
    try simp only [go_sem, simprocAttr, h2, h3, closed]
    repeat' (refine And.intro (by first | omega | (exact ⟨[0, 1, 3, 7, 15, 31, 63, 127, 255, 127, 1023, 2047, 4095, 8191], by kernel_rfl⟩) | kernel_rfl) ?_)
    refine awpDS_split (b := ?b1) 7 (by simp only [go_sem, simprocAttr, h2, h3, closed]; exact rfl) (fun hb1 => ?_) (fun hb1 => ?_)
    ·
      try simp only [go_sem, simprocAttr, h2, h3, hb1, closed]
      repeat' (refine And.intro (by first | omega | (exact ⟨[0, 1, 3, 7, 15, 31, 63, 127, 255, 127, 1023, 2047, 4095, 8191], by kernel_rfl⟩) | kernel_rfl) ?_)
      refine dS_call_ro rfl (sat_impl_StateOk t hf2) ?ha ?hv ?hh ?_
      case ha => simp only [go_sem, simprocAttr, h2, h3, hb1, closed]; first | done | rfl
      case hv => first | rfl | (simp only [go_sem]; done)
      case hh => first | rfl | (simp only [go_sem]; done)
      try simp only [go_sem, simprocAttr, h2, h3, hb1, closed]
      repeat' (refine And.intro (by first | omega | (exact ⟨[0, 1, 3, 7, 15, 31, 63, 127, 255, 127, 1023, 2047, 4095, 8191], by kernel_rfl⟩) | kernel_rfl) ?_)
      refine awpDS_split (b := ?b2) 11 (by simp only [go_sem, simprocAttr, h2, h3, hb1, closed]; exact rfl) (fun hb2 => ?_) (fun hb2 => ?_)
      ·
        try simp only [go_sem, simprocAttr, h2, h3, hb1, hb2, closed]
        repeat' (refine And.intro (by first | omega | (exact ⟨[0, 1, 3, 7, 15, 31, 63, 127, 255, 127, 1023, 2047, 4095, 8191], by kernel_rfl⟩) | kernel_rfl) ?_)
        refine dS_call_ro rfl (sat_impl_Keys t hf2) ?ha ?hv ?hh ?_
        case ha => simp only [go_sem, simprocAttr, h2, h3, hb1, hb2, closed]; first | done | rfl
        case hv => first | rfl | (simp only [go_sem]; done)
        case hh => first | rfl | (simp only [go_sem]; done)
        try simp only [go_sem, simprocAttr, h2, h3, hb1, hb2, closed]
        repeat' (refine And.intro (by first | omega | (exact ⟨[0, 1, 3, 7, 15, 31, 63, 127, 255, 127, 1023, 2047, 4095, 8191], by kernel_rfl⟩) | kernel_rfl) ?_)
        refine dS_call_ro rfl (sat_impl_Keys s hf) ?ha ?hv ?hh ?_
        case ha => simp only [go_sem, simprocAttr, h2, h3, hb1, hb2, closed]; first | done | rfl
        case hv => first | rfl | (simp only [go_sem]; done)
        case hh => first | rfl | (simp only [go_sem]; done)
        try simp only [go_sem, simprocAttr, h2, h3, hb1, hb2, closed]
        repeat' (refine And.intro (by first | omega | (exact ⟨[0, 1, 3, 7, 15, 31, 63, 127, 255, 127, 1023, 2047, 4095, 8191], by kernel_rfl⟩) | kernel_rfl) ?_)
        refine dS_call_ro rfl (sat_impl_allUnder (keys t) (keys s) (Nat.le_trans (keys_len hf2) (by decide)) (Nat.le_trans (keys_len hf) (by decide))) ?ha ?hv ?hh ?_
        case ha => simp only [go_sem, simprocAttr, h2, h3, hb1, hb2, closed]; first | done | rfl
        case hv => first | rfl | (simp only [go_sem]; done)
        case hh => first | rfl | (simp only [go_sem]; done)
        try simp only [go_sem, simprocAttr, h2, h3, hb1, hb2, closed]
        repeat' (refine And.intro (by first | omega | (exact ⟨[0, 1, 3, 7, 15, 31, 63, 127, 255, 127, 1023, 2047, 4095, 8191], by kernel_rfl⟩) | kernel_rfl) ?_)
        exact hK _ _ ⟨(by simp only [go_sem, simprocAttr, h2, h3, hb1, hb2, closed]), (by simp only [go_sem, simprocAttr, h2, h3, hb1, hb2, closed]; first | done | rfl)⟩
      ·
        try simp only [go_sem, simprocAttr, h2, h3, hb1, hb2, closed]
        repeat' (refine And.intro (by first | omega | (exact ⟨[0, 1, 3, 7, 15, 31, 63, 127, 255, 127, 1023, 2047, 4095, 8191], by kernel_rfl⟩) | kernel_rfl) ?_)
        exact hK _ _ ⟨(by simp only [go_sem, simprocAttr, h2, h3, hb1, hb2, closed]), (by simp only [go_sem, simprocAttr, h2, h3, hb1, hb2, closed]; first | done | rfl)⟩
    ·
      try simp only [go_sem, simprocAttr, h2, h3, hb1, closed]
      repeat' (refine And.intro (by first | omega | (exact ⟨[0, 1, 3, 7, 15, 31, 63, 127, 255, 127, 1023, 2047, 4095, 8191], by kernel_rfl⟩) | kernel_rfl) ?_)
      exact hK _ _ ⟨(by simp only [go_sem, simprocAttr, h2, h3, hb1, closed]), (by simp only [go_sem, simprocAttr, h2, h3, hb1, closed]; first | done | rfl)⟩
  case after1 =>
    obtain ⟨hL, k4⟩ := hJ
    clear h2 h3
    clear hL
    have h4 := k4
    clear k4
    refine awl_ret ?_
    refine ret0 (by simp only [go_sem, simprocAttr, h4]; exact rfl) ?_
    try simp only [go_sem, simprocAttr]
    all_goals (rfl)
end Go.Proofs.Ytgddflnhibhacaa.AM
