/- The texts of traps. No conditions but those each theorem bears. -/
import Derived.Test.YtcjjopfmeipidaaFa
import Derived.Test.YtcjjopfmeipidaaSp1
set_option linter.unusedSimpArgs false
set_option linter.unusedVariables false
namespace Go.Proofs.Ytcjjopfmeipidaa.AM
open Go

set_option maxRecDepth 100000 in
theorem sat_spec_l1In (a : Int) (b : Int) (c : Int)  : Sat Try.prog 30 [.int .i64 a, .int .i64 b, .int .i64 c] [] (.bool (inR a b c)) [] := by
  refine sat_mk [.tmp 6] 0 15 Try.call30 Try.func30 Try.ntmps30 rfl rfl rfl rfl rfl ?_
  refine awl_live' [0, 1, 2] fun ρ hL => ?_
  try simp only [go_sem, simprocAttr] at hL
  obtain ⟨h0, h1, h2⟩ := hL
  refine awl_seq ?_
  refine awl_regS [(some 6, (.assign (.const (.bool false))), none)] rfl fun K hK => ?_
  try simp only [go_sem, simprocAttr, h0, h1, h2]
  repeat' (refine And.intro (by first | rfl | omega | (simp; done)) ?_)
  refine hK _ _ (awl_live' [0, 1, 2] fun ρ hL => ?_)
  try simp only [go_sem, simprocAttr, h0, h1, h2] at hL
  clear h0 h1 h2
  obtain ⟨h0, h1, h2⟩ := hL
  clear hK K
  refine awl_seq ?_
  refine awl_regS [(some 7, (.move (.tmp 0)), none), (some 8, (.move (.tmp 1)), none), (some 9, (.binOp .geq 3 (.tmp 7) (.tmp 8) 3), none), (some 10, (.move (.tmp 9)), none), (some 11, (.move (.tmp 0)), some (10, true)), (some 12, (.move (.tmp 2)), some (10, true)), (some 13, (.binOp .leq 3 (.tmp 11) (.tmp 12) 3), some (10, true)), (some 14, (.pick (.tmp 10) (.tmp 13) (.const (.bool false))), none), (some 6, (.assign (.tmp 14)), none)] rfl fun K hK => ?_
  try simp only [go_sem, simprocAttr, h0, h1, h2]
  repeat' (refine And.intro (by first | rfl | omega | (simp; done)) ?_)
  refine awpS_live [0, 2, 10] fun ρ hL => ?_
  try simp only [go_sem, simprocAttr, h0, h1, h2] at hL
  clear h0 h1 h2
  obtain ⟨h0, h2, h10⟩ := hL
  refine grp_and (l := [(some 11, (.move (.tmp 0)), some (10, true)), (some 12, (.move (.tmp 2)), some (10, true)), (some 13, (.binOp .leq 3 (.tmp 11) (.tmp 12) 3), some (10, true))]) (rest := [(some 6, (.assign (.tmp 14)), none)]) (tc := 10) (tv := 13) (td := 14) (v := ?v) [] h10 rfl (fun hb K1 hK1 => ?run) (fun hb => ?skip) (fun ρ hP hL => ?_)
  case skip =>
    exact awpS_skip (want := true) (b := _) (by rw [hb]; rfl) _ [] ρ h10 (fun _ _ => rfl) (by simp) rfl
  case run =>
    rw [hb] at h10
    try simp only [go_sem, simprocAttr, h0, h2, h10]
    repeat' (refine And.intro (by first | rfl | omega | (simp; done)) ?_)
    exact hK1 _ (by simp only [go_sem, simprocAttr, h0, h2, h10]) (by simp only [go_sem, simprocAttr, h0, h2, h10]; exact rfl) (by simp only [go_sem, simprocAttr, h0, h2, h10])
  clear hL h0 h2 h10
  have h14 := hP
  clear hP
  try simp only [go_sem, simprocAttr, h14]
  repeat' (refine And.intro (by first | rfl | omega | (simp; done)) ?_)
  refine hK _ _ (awl_live' [6] fun ρ hL => ?_)
  try simp only [go_sem, simprocAttr, h14] at hL
  clear h14
  have h6 := hL
  clear hL
  clear hK K
  refine awl_ret ?_
  refine ret0 (by simp only [go_sem, simprocAttr, h6]; exact rfl) ?_
  try simp only [go_sem, simprocAttr]
  all_goals (simp [inR])
set_option maxRecDepth 100000 in
theorem sat_impl_in (a : Int) (b : Int) (c : Int)  : Sat Try.prog 31 [.int .i64 a, .int .i64 b, .int .i64 c] [] (.bool (inR a b c)) [] := by
  refine sat_mk [.tmp 6] 0 15 Try.call31 Try.func31 Try.ntmps31 rfl rfl rfl rfl rfl ?_
  refine awl_live' [0, 1, 2] fun ρ hL => ?_
  try simp only [go_sem, simprocAttr] at hL
  obtain ⟨h0, h1, h2⟩ := hL
  refine awl_seq ?_
  refine awl_regS [(some 6, (.assign (.const (.bool false))), none)] rfl fun K hK => ?_
  try simp only [go_sem, simprocAttr, h0, h1, h2]
  repeat' (refine And.intro (by first | rfl | omega | (simp; done)) ?_)
  refine hK _ _ (awl_live' [0, 1, 2] fun ρ hL => ?_)
  try simp only [go_sem, simprocAttr, h0, h1, h2] at hL
  clear h0 h1 h2
  obtain ⟨h0, h1, h2⟩ := hL
  clear hK K
  refine awl_seq ?_
  refine awl_regS [(some 7, (.move (.tmp 0)), none), (some 8, (.move (.tmp 1)), none), (some 9, (.binOp .geq 3 (.tmp 7) (.tmp 8) 3), none), (some 10, (.move (.tmp 9)), none), (some 11, (.move (.tmp 0)), some (10, true)), (some 12, (.move (.tmp 2)), some (10, true)), (some 13, (.binOp .leq 3 (.tmp 11) (.tmp 12) 3), some (10, true)), (some 14, (.pick (.tmp 10) (.tmp 13) (.const (.bool false))), none), (some 6, (.assign (.tmp 14)), none)] rfl fun K hK => ?_
  try simp only [go_sem, simprocAttr, h0, h1, h2]
  repeat' (refine And.intro (by first | rfl | omega | (simp; done)) ?_)
  refine awpS_live [0, 2, 10] fun ρ hL => ?_
  try simp only [go_sem, simprocAttr, h0, h1, h2] at hL
  clear h0 h1 h2
  obtain ⟨h0, h2, h10⟩ := hL
  refine grp_and (l := [(some 11, (.move (.tmp 0)), some (10, true)), (some 12, (.move (.tmp 2)), some (10, true)), (some 13, (.binOp .leq 3 (.tmp 11) (.tmp 12) 3), some (10, true))]) (rest := [(some 6, (.assign (.tmp 14)), none)]) (tc := 10) (tv := 13) (td := 14) (v := ?v) [] h10 rfl (fun hb K1 hK1 => ?run) (fun hb => ?skip) (fun ρ hP hL => ?_)
  case skip =>
    exact awpS_skip (want := true) (b := _) (by rw [hb]; rfl) _ [] ρ h10 (fun _ _ => rfl) (by simp) rfl
  case run =>
    rw [hb] at h10
    try simp only [go_sem, simprocAttr, h0, h2, h10]
    repeat' (refine And.intro (by first | rfl | omega | (simp; done)) ?_)
    exact hK1 _ (by simp only [go_sem, simprocAttr, h0, h2, h10]) (by simp only [go_sem, simprocAttr, h0, h2, h10]; exact rfl) (by simp only [go_sem, simprocAttr, h0, h2, h10])
  clear hL h0 h2 h10
  have h14 := hP
  clear hP
  try simp only [go_sem, simprocAttr, h14]
  repeat' (refine And.intro (by first | rfl | omega | (simp; done)) ?_)
  refine hK _ _ (awl_live' [6] fun ρ hL => ?_)
  try simp only [go_sem, simprocAttr, h14] at hL
  clear h14
  have h6 := hL
  clear hL
  clear hK K
  refine awl_ret ?_
  refine ret0 (by simp only [go_sem, simprocAttr, h6]; exact rfl) ?_
  try simp only [go_sem, simprocAttr]
  all_goals (simp [inR])
set_option maxRecDepth 100000 in
theorem sat_spec_TrapText (a : Int)  : Sat Try.prog 9 [.int .i64 a] [] (.str (trapText a)) [] := by
  refine sat_mk [.tmp 2] 0 10 Try.call9 Try.func9 Try.ntmps9 rfl rfl rfl rfl rfl ?_
  refine awl_live' [0] fun ρ hL => ?_
  try simp only [go_sem, simprocAttr] at hL
  have h0 := hL
  clear hL
  refine awl_seq ?_
  refine awl_regS [(some 2, (.assign (.const (.string ⟨#[]⟩))), none)] rfl fun K hK => ?_
  try simp only [go_sem, simprocAttr, h0]
  repeat' (refine And.intro (by first | rfl | omega | (simp; done)) ?_)
  refine hK _ _ (awl_live' [0] fun ρ hL => ?_)
  try simp only [go_sem, simprocAttr, h0] at hL
  clear h0
  have h0 := hL
  clear hL
  clear hK K
  refine awl_seq ?_
  refine awl_seq ?_
  refine awl_regS [(some 3, (.move (.tmp 0)), none), (some 4, (.call ⟨(.value (.func 30)), #[(.tmp 3), (.const (.int .i64 0)), (.const (.int .i64 5))], #[3, 3, 3]⟩), none), (some 5, (.unOp .not 4 (.tmp 4)), none)] rfl fun K hK => ?_
  try simp only [go_sem, simprocAttr, h0]
  repeat' (refine And.intro (by first | rfl | omega | (simp; done)) ?_)
  refine opS_call_ro rfl (sat_spec_l1In ?_ ?_ ?_) ?ha ?hv ?hh ?_
  case ha => simp only [go_sem, simprocAttr, h0]; first | done | rfl
  case hv => first | rfl | (simp only [go_sem]; done)
  case hh => first | rfl | (simp only [go_sem]; done)
  try simp only [go_sem, simprocAttr, h0]
  repeat' (refine And.intro (by first | rfl | omega | (simp; done)) ?_)
  refine hK _ _ (awl_live' [0, 5] fun ρ hL => ?_)
  try simp only [go_sem, simprocAttr, h0] at hL
  clear h0
  obtain ⟨h0, h5⟩ := hL
  clear hK K
  refine awl_cond h5 (fun c1 => ?_) (fun c1 => ?_)
  ·
    try simp only [cnd] at c1
    refine awl_seq ?_
    refine awl_regS [(some 2, (.assign (.const (.string ⟨#[]⟩))), none)] rfl fun K hK => ?_
    try simp only [go_sem, simprocAttr, h0, h5]
    repeat' (refine And.intro (by first | rfl | omega | (simp; done)) ?_)
    refine hK _ _ (awl_live' [2] fun ρ hL => ?_)
    try simp only [go_sem, simprocAttr, h0, h5] at hL
    clear h0 h5
    have h2 := hL
    clear hL
    clear hK K
    refine awl_ret ?_
    refine ret0 (by simp only [go_sem, simprocAttr, h2]; exact rfl) ?_
    try simp only [go_sem, simprocAttr]
    all_goals (simp [trapText, c1])
  ·
    try simp only [cnd] at c1
    refine awl_skip ?_
    refine awl_seq ?_
    have ha : 0 ≤ a ∧ a < 6 := by simp [inR] at c1; omega
    refine awl_regS [(some 6, (.buildSlice 60 6 #[(0, (.const (.string ⟨#[110, 111, 110, 101]⟩))), (1, (.const (.string ⟨#[107, 101, 121]⟩))), (2, (.const (.string ⟨#[115, 101, 97, 108]⟩))), (3, (.const (.string ⟨#[112, 101, 114, 109]⟩))), (4, (.const (.string ⟨#[98, 111, 117, 110, 100]⟩))), (5, (.const (.string ⟨#[115, 116, 111, 112]⟩)))]), none), (some 7, (.move (.tmp 0)), none), (some 8, (.indexAddr 60 (.tmp 6) (.tmp 7)), none), (some 9, (.load 9 (.tmp 8)), none), (some 2, (.assign (.tmp 9)), none)] rfl fun K hK => ?_
    try simp only [go_sem, simprocAttr, h0, h5, ha, trap_row ha]
    repeat' (refine And.intro (by first | rfl | omega | (simp; done)) ?_)
    refine hK _ _ (awl_live' [2] fun ρ hL => ?_)
    try simp only [go_sem, simprocAttr, h0, h5, ha, trap_row ha] at hL
    clear h0 h5
    have h2 := hL
    clear hL
    clear hK K
    refine awl_ret ?_
    refine ret0 (by simp only [go_sem, simprocAttr, h2]; exact rfl) ?_
    try simp only [go_sem, simprocAttr]
    all_goals (simp [trapText, c1])
set_option maxRecDepth 100000 in
theorem sat_impl_TrapText (a : Int)  : Sat Try.prog 10 [.int .i64 a] [] (.str (trapText a)) [] := by
  refine sat_mk [.tmp 2] 0 10 Try.call10 Try.func10 Try.ntmps10 rfl rfl rfl rfl rfl ?_
  refine awl_live' [0] fun ρ hL => ?_
  try simp only [go_sem, simprocAttr] at hL
  have h0 := hL
  clear hL
  refine awl_seq ?_
  refine awl_regS [(some 2, (.assign (.const (.string ⟨#[]⟩))), none)] rfl fun K hK => ?_
  try simp only [go_sem, simprocAttr, h0]
  repeat' (refine And.intro (by first | rfl | omega | (simp; done)) ?_)
  refine hK _ _ (awl_live' [0] fun ρ hL => ?_)
  try simp only [go_sem, simprocAttr, h0] at hL
  clear h0
  have h0 := hL
  clear hL
  clear hK K
  refine awl_seq ?_
  refine awl_seq ?_
  refine awl_regS [(some 3, (.move (.tmp 0)), none), (some 4, (.call ⟨(.value (.func 31)), #[(.tmp 3), (.const (.int .i64 0)), (.const (.int .i64 5))], #[3, 3, 3]⟩), none), (some 5, (.unOp .not 4 (.tmp 4)), none)] rfl fun K hK => ?_
  try simp only [go_sem, simprocAttr, h0]
  repeat' (refine And.intro (by first | rfl | omega | (simp; done)) ?_)
  refine opS_call_ro rfl (sat_impl_in ?_ ?_ ?_) ?ha ?hv ?hh ?_
  case ha => simp only [go_sem, simprocAttr, h0]; first | done | rfl
  case hv => first | rfl | (simp only [go_sem]; done)
  case hh => first | rfl | (simp only [go_sem]; done)
  try simp only [go_sem, simprocAttr, h0]
  repeat' (refine And.intro (by first | rfl | omega | (simp; done)) ?_)
  refine hK _ _ (awl_live' [0, 5] fun ρ hL => ?_)
  try simp only [go_sem, simprocAttr, h0] at hL
  clear h0
  obtain ⟨h0, h5⟩ := hL
  clear hK K
  refine awl_cond h5 (fun c1 => ?_) (fun c1 => ?_)
  ·
    try simp only [cnd] at c1
    refine awl_seq ?_
    refine awl_regS [(some 2, (.assign (.const (.string ⟨#[]⟩))), none)] rfl fun K hK => ?_
    try simp only [go_sem, simprocAttr, h0, h5]
    repeat' (refine And.intro (by first | rfl | omega | (simp; done)) ?_)
    refine hK _ _ (awl_live' [2] fun ρ hL => ?_)
    try simp only [go_sem, simprocAttr, h0, h5] at hL
    clear h0 h5
    have h2 := hL
    clear hL
    clear hK K
    refine awl_ret ?_
    refine ret0 (by simp only [go_sem, simprocAttr, h2]; exact rfl) ?_
    try simp only [go_sem, simprocAttr]
    all_goals (simp [trapText, c1])
  ·
    try simp only [cnd] at c1
    refine awl_skip ?_
    refine awl_seq ?_
    have ha : 0 ≤ a ∧ a < 6 := by simp [inR] at c1; omega
    refine awl_regS [(some 6, (.buildSlice 60 6 #[(0, (.const (.string ⟨#[110, 111, 110, 101]⟩))), (1, (.const (.string ⟨#[107, 101, 121]⟩))), (2, (.const (.string ⟨#[115, 101, 97, 108]⟩))), (3, (.const (.string ⟨#[112, 101, 114, 109]⟩))), (4, (.const (.string ⟨#[98, 111, 117, 110, 100]⟩))), (5, (.const (.string ⟨#[115, 116, 111, 112]⟩)))]), none), (some 7, (.move (.tmp 0)), none), (some 8, (.indexAddr 60 (.tmp 6) (.tmp 7)), none), (some 9, (.load 9 (.tmp 8)), none), (some 2, (.assign (.tmp 9)), none)] rfl fun K hK => ?_
    try simp only [go_sem, simprocAttr, h0, h5, ha, trap_row ha]
    repeat' (refine And.intro (by first | rfl | omega | (simp; done)) ?_)
    refine hK _ _ (awl_live' [2] fun ρ hL => ?_)
    try simp only [go_sem, simprocAttr, h0, h5, ha, trap_row ha] at hL
    clear h0 h5
    have h2 := hL
    clear hL
    clear hK K
    refine awl_ret ?_
    refine ret0 (by simp only [go_sem, simprocAttr, h2]; exact rfl) ?_
    try simp only [go_sem, simprocAttr]
    all_goals (simp [trapText, c1])
set_option maxRecDepth 100000 in
theorem sat_laws_FnExactTrapText (a : Int)  : Sat Try.prog 3 [.int .i64 a] [] (.bool true) [] := by
  refine sat_mk [.tmp 2] 0 12 Try.call3 Try.func3 Try.ntmps3 rfl rfl rfl rfl rfl ?_
  refine awl_live' [0] fun ρ hL => ?_
  try simp only [go_sem, simprocAttr] at hL
  have h0 := hL
  clear hL
  refine awl_seq ?_
  refine awl_regS [(some 2, (.assign (.const (.bool false))), none)] rfl fun K hK => ?_
  try simp only [go_sem, simprocAttr, h0]
  repeat' (refine And.intro (by first | rfl | omega | (simp; done)) ?_)
  refine hK _ _ (awl_live' [0] fun ρ hL => ?_)
  try simp only [go_sem, simprocAttr, h0] at hL
  clear h0
  have h0 := hL
  clear hL
  clear hK K
  refine awl_seq ?_
  refine awl_regS [(some 5, (.move (.tmp 0)), none), (some 6, (.call ⟨(.value (.func 9)), #[(.tmp 5)], #[3]⟩), none), (some 3, (.assign (.tmp 6)), none)] rfl fun K hK => ?_
  try simp only [go_sem, simprocAttr, h0]
  repeat' (refine And.intro (by first | rfl | omega | (simp; done)) ?_)
  refine opS_call_ro rfl (sat_spec_TrapText ?_) ?ha ?hv ?hh ?_
  case ha => simp only [go_sem, simprocAttr, h0]; first | done | rfl
  case hv => first | rfl | (simp only [go_sem]; done)
  case hh => first | rfl | (simp only [go_sem]; done)
  try simp only [go_sem, simprocAttr, h0]
  repeat' (refine And.intro (by first | rfl | omega | (simp; done)) ?_)
  refine hK _ _ (awl_live' [0, 3] fun ρ hL => ?_)
  try simp only [go_sem, simprocAttr, h0] at hL
  clear h0
  obtain ⟨h0, h3⟩ := hL
  clear hK K
  refine awl_seq ?_
  refine awl_regS [(some 7, (.move (.tmp 0)), none), (some 8, (.call ⟨(.value (.func 10)), #[(.tmp 7)], #[3]⟩), none), (some 4, (.assign (.tmp 8)), none)] rfl fun K hK => ?_
  try simp only [go_sem, simprocAttr, h0, h3]
  repeat' (refine And.intro (by first | rfl | omega | (simp; done)) ?_)
  refine opS_call_ro rfl (sat_impl_TrapText ?_) ?ha ?hv ?hh ?_
  case ha => simp only [go_sem, simprocAttr, h0, h3]; first | done | rfl
  case hv => first | rfl | (simp only [go_sem]; done)
  case hh => first | rfl | (simp only [go_sem]; done)
  try simp only [go_sem, simprocAttr, h0, h3]
  repeat' (refine And.intro (by first | rfl | omega | (simp; done)) ?_)
  refine hK _ _ (awl_live' [3, 4] fun ρ hL => ?_)
  try simp only [go_sem, simprocAttr, h0, h3] at hL
  clear h0 h3
  obtain ⟨h3, h4⟩ := hL
  clear hK K
  refine awl_seq ?_
  refine awl_seq ?_
  refine awl_regS [(some 9, (.move (.tmp 4)), none), (some 10, (.move (.tmp 3)), none), (some 11, (.binOp .neq 9 (.tmp 9) (.tmp 10) 9), none)] rfl fun K hK => ?_
  try simp only [go_sem, simprocAttr, h3, h4]
  repeat' (refine And.intro (by first | rfl | omega | (simp; done)) ?_)
  refine hK _ _ (awl_live' [11] fun ρ hL => ?_)
  try simp only [go_sem, simprocAttr, h3, h4] at hL
  clear h3 h4
  have h11 := hL
  clear hL
  clear hK K
  refine awl_cond h11 (fun c1 => ?_) (fun c1 => ?_)
  ·
    try simp only [cnd] at c1
    simp at c1
  ·
    try simp only [cnd] at c1
    refine awl_skip ?_
    refine awl_seq ?_
    refine awl_regS [(some 2, (.assign (.const (.bool true))), none)] rfl fun K hK => ?_
    try simp only [go_sem, simprocAttr, h11]
    repeat' (refine And.intro (by first | rfl | omega | (simp; done)) ?_)
    refine hK _ _ (awl_live' [2] fun ρ hL => ?_)
    try simp only [go_sem, simprocAttr, h11] at hL
    clear h11
    have h2 := hL
    clear hL
    clear hK K
    refine awl_ret ?_
    refine ret0 (by simp only [go_sem, simprocAttr, h2]; exact rfl) ?_
    try simp only [go_sem, simprocAttr]
    all_goals (rfl)
end Go.Proofs.Ytcjjopfmeipidaa.AM
