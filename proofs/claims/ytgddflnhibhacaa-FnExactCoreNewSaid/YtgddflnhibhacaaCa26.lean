/- New guesses. No conditions but those each theorem bears. -/
import Derived.Test.YtgddflnhibhacaaFa
import Derived.Test.YtgddflnhibhacaaSp11
import Derived.Test.YtgddflnhibhacaaCa3
set_option linter.unusedSimpArgs false
set_option linter.unusedVariables false
namespace Go.Proofs.Ytgddflnhibhacaa.AM
open Go

set_option maxHeartbeats 8000000 in
set_option maxRecDepth 100000 in
theorem sat_math_bits_Mul64   : Sat Try.prog 136 [.int .u64 1, .int .u64 48] [] (.tuple [.int .u64 0, .int .u64 48]) [] := by
  refine sat_mk [.tmp 4, .tmp 5] 0 51 Try.call136 Try.func136 Try.ntmps136 rfl rfl rfl rfl rfl ?_
  refine awl_live' [0, 1] fun ρ hL => ?_
  try simp only [go_sem, simprocAttr] at hL
  obtain ⟨h0, h1⟩ := hL
  refine awl_seq ?_
  refine awl_regS [(some 4, (.assign (.const (.int .u64 0))), none), (some 5, (.assign (.const (.int .u64 0))), none)] rfl fun K hK => ?_
  try simp only [go_sem, simprocAttr, h0, h1]
  repeat' (refine And.intro (by first | rfl | omega | (simp; done)) ?_)
  refine hK _ _ (.mk (awl_live' [0, 1] fun ρ hL => ?_))
  try simp only [go_sem, simprocAttr, h0, h1] at hL
  try clear h0 h1
  obtain ⟨h0, h1⟩ := hL
  clear hK K
  refine awl_seq ?_
  refine awl_regS [(some 14, (.move (.tmp 0)), none), (some 15, (.binOp .and 150 (.tmp 14) (.const (.int .u64 4294967295)) 150), none), (some 6, (.assign (.tmp 15)), none)] rfl fun K hK => ?_
  try simp only [go_sem, simprocAttr, h0, h1]
  repeat' (refine And.intro (by first | rfl | omega | (simp; done)) ?_)
  refine hK _ _ (.mk (awl_live' [0, 1, 6] fun ρ hL => ?_))
  try simp only [go_sem, simprocAttr, h0, h1] at hL
  try clear h0 h1
  obtain ⟨h0, h1, h6⟩ := hL
  clear hK K
  refine awl_seq ?_
  refine awl_regS [(some 16, (.move (.tmp 0)), none), (some 17, (.binOp .shr 150 (.tmp 16) (.const (.int .u64 32)) 116), none), (some 7, (.assign (.tmp 17)), none)] rfl fun K hK => ?_
  try simp only [go_sem, simprocAttr, h0, h1, h6]
  repeat' (refine And.intro (by first | rfl | omega | (simp; done)) ?_)
  refine hK _ _ (.mk (awl_live' [0, 1, 6, 7] fun ρ hL => ?_))
  try simp only [go_sem, simprocAttr, h0, h1, h6] at hL
  try clear h0 h1 h6
  obtain ⟨h0, h1, h6, h7⟩ := hL
  clear hK K
  refine awl_seq ?_
  refine awl_regS [(some 18, (.move (.tmp 1)), none), (some 19, (.binOp .and 150 (.tmp 18) (.const (.int .u64 4294967295)) 150), none), (some 8, (.assign (.tmp 19)), none)] rfl fun K hK => ?_
  try simp only [go_sem, simprocAttr, h0, h1, h6, h7]
  repeat' (refine And.intro (by first | rfl | omega | (simp; done)) ?_)
  refine hK _ _ (.mk (awl_live' [0, 1, 6, 7, 8] fun ρ hL => ?_))
  try simp only [go_sem, simprocAttr, h0, h1, h6, h7] at hL
  try clear h0 h1 h6 h7
  obtain ⟨h0, h1, h6, h7, h8⟩ := hL
  clear hK K
  refine awl_seq ?_
  refine awl_regS [(some 20, (.move (.tmp 1)), none), (some 21, (.binOp .shr 150 (.tmp 20) (.const (.int .u64 32)) 116), none), (some 9, (.assign (.tmp 21)), none)] rfl fun K hK => ?_
  try simp only [go_sem, simprocAttr, h0, h1, h6, h7, h8]
  repeat' (refine And.intro (by first | rfl | omega | (simp; done)) ?_)
  refine hK _ _ (.mk (awl_live' [0, 1, 6, 7, 8, 9] fun ρ hL => ?_))
  try simp only [go_sem, simprocAttr, h0, h1, h6, h7, h8] at hL
  try clear h0 h1 h6 h7 h8
  obtain ⟨h0, h1, h6, h7, h8, h9⟩ := hL
  clear hK K
  refine awl_seq ?_
  refine awl_regS [(some 22, (.move (.tmp 6)), none), (some 23, (.move (.tmp 8)), none), (some 24, (.binOp .mul 150 (.tmp 22) (.tmp 23) 150), none), (some 10, (.assign (.tmp 24)), none)] rfl fun K hK => ?_
  try simp only [go_sem, simprocAttr, h0, h1, h6, h7, h8, h9]
  repeat' (refine And.intro (by first | rfl | omega | (simp; done)) ?_)
  refine hK _ _ (.mk (awl_live' [0, 1, 6, 7, 8, 9, 10] fun ρ hL => ?_))
  try simp only [go_sem, simprocAttr, h0, h1, h6, h7, h8, h9] at hL
  try clear h0 h1 h6 h7 h8 h9
  obtain ⟨h0, h1, h6, h7, h8, h9, h10⟩ := hL
  clear hK K
  refine awl_seq ?_
  refine awl_regS [(some 25, (.move (.tmp 7)), none), (some 26, (.move (.tmp 8)), none), (some 27, (.binOp .mul 150 (.tmp 25) (.tmp 26) 150), none), (some 28, (.move (.tmp 10)), none), (some 29, (.binOp .shr 150 (.tmp 28) (.const (.int .u64 32)) 116), none), (some 30, (.binOp .add 150 (.tmp 27) (.tmp 29) 150), none), (some 11, (.assign (.tmp 30)), none)] rfl fun K hK => ?_
  try simp only [go_sem, simprocAttr, h0, h1, h6, h7, h8, h9, h10]
  repeat' (refine And.intro (by first | rfl | omega | (simp; done)) ?_)
  refine hK _ _ (.mk (awl_live' [0, 1, 6, 7, 9, 11] fun ρ hL => ?_))
  try simp only [go_sem, simprocAttr, h0, h1, h6, h7, h8, h9, h10] at hL
  try clear h0 h1 h6 h7 h8 h9 h10
  obtain ⟨h0, h1, h6, h7, h9, h11⟩ := hL
  clear hK K
  refine awl_seq ?_
  refine awl_regS [(some 31, (.move (.tmp 11)), none), (some 32, (.binOp .and 150 (.tmp 31) (.const (.int .u64 4294967295)) 150), none), (some 12, (.assign (.tmp 32)), none)] rfl fun K hK => ?_
  try simp only [go_sem, simprocAttr, h0, h1, h6, h7, h9, h11]
  repeat' (refine And.intro (by first | rfl | omega | (simp; done)) ?_)
  refine hK _ _ (.mk (awl_live' [0, 1, 6, 7, 9, 11, 12] fun ρ hL => ?_))
  try simp only [go_sem, simprocAttr, h0, h1, h6, h7, h9, h11] at hL
  try clear h0 h1 h6 h7 h9 h11
  obtain ⟨h0, h1, h6, h7, h9, h11, h12⟩ := hL
  clear hK K
  refine awl_seq ?_
  refine awl_regS [(some 33, (.move (.tmp 11)), none), (some 34, (.binOp .shr 150 (.tmp 33) (.const (.int .u64 32)) 116), none), (some 13, (.assign (.tmp 34)), none)] rfl fun K hK => ?_
  try simp only [go_sem, simprocAttr, h0, h1, h6, h7, h9, h11, h12]
  repeat' (refine And.intro (by first | rfl | omega | (simp; done)) ?_)
  refine hK _ _ (.mk (awl_live' [0, 1, 6, 7, 9, 12, 13] fun ρ hL => ?_))
  try simp only [go_sem, simprocAttr, h0, h1, h6, h7, h9, h11, h12] at hL
  try clear h0 h1 h6 h7 h9 h11 h12
  obtain ⟨h0, h1, h6, h7, h9, h12, h13⟩ := hL
  clear hK K
  refine awl_seq ?_
  refine awl_regS [(some 35, (.move (.tmp 12)), none), (some 36, (.move (.tmp 6)), none), (some 37, (.move (.tmp 9)), none), (some 38, (.binOp .mul 150 (.tmp 36) (.tmp 37) 150), none), (some 39, (.binOp .add 150 (.tmp 35) (.tmp 38) 150), none), (some 12, (.assign (.tmp 39)), none)] rfl fun K hK => ?_
  try simp only [go_sem, simprocAttr, h0, h1, h6, h7, h9, h12, h13]
  repeat' (refine And.intro (by first | rfl | omega | (simp; done)) ?_)
  refine hK _ _ (.mk (awl_live' [0, 1, 7, 9, 12, 13] fun ρ hL => ?_))
  try simp only [go_sem, simprocAttr, h0, h1, h6, h7, h9, h12, h13] at hL
  try clear h0 h1 h6 h7 h9 h12 h13
  obtain ⟨h0, h1, h7, h9, h12, h13⟩ := hL
  clear hK K
  refine awl_seq ?_
  refine awl_regS [(some 40, (.move (.tmp 7)), none), (some 41, (.move (.tmp 9)), none), (some 42, (.binOp .mul 150 (.tmp 40) (.tmp 41) 150), none), (some 43, (.move (.tmp 13)), none), (some 44, (.binOp .add 150 (.tmp 42) (.tmp 43) 150), none), (some 45, (.move (.tmp 12)), none), (some 46, (.binOp .shr 150 (.tmp 45) (.const (.int .u64 32)) 116), none), (some 47, (.binOp .add 150 (.tmp 44) (.tmp 46) 150), none), (some 4, (.assign (.tmp 47)), none)] rfl fun K hK => ?_
  try simp only [go_sem, simprocAttr, h0, h1, h7, h9, h12, h13]
  repeat' (refine And.intro (by first | rfl | omega | (simp; done)) ?_)
  refine hK _ _ (.mk (awl_live' [0, 1, 4] fun ρ hL => ?_))
  try simp only [go_sem, simprocAttr, h0, h1, h7, h9, h12, h13] at hL
  try clear h0 h1 h7 h9 h12 h13
  obtain ⟨h0, h1, h4⟩ := hL
  clear hK K
  refine awl_seq ?_
  refine awl_regS [(some 48, (.move (.tmp 0)), none), (some 49, (.move (.tmp 1)), none), (some 50, (.binOp .mul 150 (.tmp 48) (.tmp 49) 150), none), (some 5, (.assign (.tmp 50)), none)] rfl fun K hK => ?_
  try simp only [go_sem, simprocAttr, h0, h1, h4]
  repeat' (refine And.intro (by first | rfl | omega | (simp; done)) ?_)
  refine hK _ _ (.mk (awl_live' [4, 5] fun ρ hL => ?_))
  try simp only [go_sem, simprocAttr, h0, h1, h4] at hL
  try clear h0 h1 h4
  obtain ⟨h4, h5⟩ := hL
  clear hK K
  refine awl_ret ?_
  refine ret0 (by simp only [go_sem, simprocAttr, h4, h5]; exact rfl) ?_
  try simp only [go_sem, simprocAttr]
  all_goals (kernel_rfl)
set_option maxHeartbeats 8000000 in
set_option maxRecDepth 100000 in
theorem sat_math_bits_Mul   : Sat Try.prog 99 [.int .u64 1, .int .u64 48] [] (.tuple [.int .u64 0, .int .u64 48]) [] := by
  refine sat_mk [.tmp 4, .tmp 5] 0 30 Try.call99 Try.func99 Try.ntmps99 rfl rfl rfl rfl rfl ?_
  refine awl_live' [0, 1] fun ρ hL => ?_
  try simp only [go_sem, simprocAttr] at hL
  obtain ⟨h0, h1⟩ := hL
  refine awl_seq ?_
  refine awl_regS [(some 4, (.assign (.const (.int .u64 0))), none), (some 5, (.assign (.const (.int .u64 0))), none)] rfl fun K hK => ?_
  try simp only [go_sem, simprocAttr, h0, h1]
  repeat' (refine And.intro (by first | rfl | omega | (simp; done)) ?_)
  refine hK _ _ (.mk (awl_live' [0, 1] fun ρ hL => ?_))
  try simp only [go_sem, simprocAttr, h0, h1] at hL
  try clear h0 h1
  obtain ⟨h0, h1⟩ := hL
  clear hK K
  refine awl_seq ?_
  refine awl_cond rfl (fun c1 => ?_) (fun c1 => ?_)
  ·
    first | done | cases c1 | (simp at c1)
  ·
    refine awl_skip ?_
    refine awl_seq ?_
    refine awl_regS [(some 23, (.move (.tmp 0)), none), (some 24, (.move (.tmp 1)), none), (some 25, (.call ⟨(.value (.func 136)), #[(.tmp 23), (.tmp 24)], #[150, 150]⟩), none), (some 22, (.move (.tmp 25)), none), (some 26, (.extract (.tmp 22) 0), none), (some 27, (.extract (.tmp 22) 1), none), (some 8, (.assign (.tmp 26)), none), (some 9, (.assign (.tmp 27)), none)] rfl fun K hK => ?_
    try simp only [go_sem, simprocAttr, h0, h1]
    repeat' (refine And.intro (by first | rfl | omega | (simp; done)) ?_)
    refine opS_call_ro rfl (sat_math_bits_Mul64) ?ha ?hv ?hh ?_
    case ha => simp only [go_sem, simprocAttr, h0, h1]; first | done | rfl
    case hv => first | rfl | (simp only [go_sem]; done)
    case hh => first | rfl | (simp only [go_sem]; done)
    try simp only [go_sem, simprocAttr, h0, h1]
    repeat' (refine And.intro (by first | rfl | omega | (simp; done)) ?_)
    refine hK _ _ (.mk (awl_live' [8, 9] fun ρ hL => ?_))
    try simp only [go_sem, simprocAttr, h0, h1] at hL
    try clear h0 h1
    obtain ⟨h8, h9⟩ := hL
    clear hK K
    refine awl_seq ?_
    refine awl_regS [(some 28, (.move (.tmp 8)), none), (some 29, (.move (.tmp 9)), none), (some 4, (.assign (.tmp 28)), none), (some 5, (.assign (.tmp 29)), none)] rfl fun K hK => ?_
    try simp only [go_sem, simprocAttr, h8, h9]
    repeat' (refine And.intro (by first | rfl | omega | (simp; done)) ?_)
    refine hK _ _ (.mk (awl_live' [4, 5] fun ρ hL => ?_))
    try simp only [go_sem, simprocAttr, h8, h9] at hL
    try clear h8 h9
    obtain ⟨h4, h5⟩ := hL
    clear hK K
    refine awl_ret ?_
    refine ret0 (by simp only [go_sem, simprocAttr, h4, h5]; exact rfl) ?_
    try simp only [go_sem, simprocAttr]
    all_goals (rfl)
set_option maxHeartbeats 8000000 in
set_option maxRecDepth 100000 in
theorem sat_slices_Repeat_int_int   : Sat Try.prog 50 [.sl 1 1 [.int .i64 (-1)], .int .i64 48] [] (.slice 0 0 48 0) [⟨1, ints guessNew, true, false⟩] := by
  refine sat_mk [.tmp 4] 0 48 Try.call50 Try.func50 Try.ntmps50 rfl rfl rfl rfl rfl ?_
  refine awl_live' [0, 1] fun ρ hL => ?_
  try simp only [go_sem, simprocAttr] at hL
  obtain ⟨h0, h1⟩ := hL
  refine awl_seq ?_
  refine awl_regS [(some 4, (.assign (.const (.slice none 0 0))), none)] rfl fun K hK => ?_
  try simp only [go_sem, simprocAttr, h0, h1]
  repeat' (refine And.intro (by first | rfl | omega | (simp; done)) ?_)
  refine hK _ _ (.mk (awl_live' [0, 1] fun ρ hL => ?_))
  try simp only [go_sem, simprocAttr, h0, h1] at hL
  try clear h0 h1
  obtain ⟨h0, h1⟩ := hL
  clear hK K
  refine awl_seq ?_
  refine awl_seq ?_
  refine awl_regS [(some 9, (.move (.tmp 1)), none), (some 10, (.binOp .lss 3 (.tmp 9) (.const (.int .i64 0)) 3), none)] rfl fun K hK => ?_
  try simp only [go_sem, simprocAttr, h0, h1]
  repeat' (refine And.intro (by first | rfl | omega | (simp; done)) ?_)
  refine hK _ _ (.mk (awl_live' [0, 1, 10] fun ρ hL => ?_))
  try simp only [go_sem, simprocAttr, h0, h1] at hL
  try clear h0 h1
  obtain ⟨h0, h1, h10⟩ := hL
  clear hK K
  refine awl_cond h10 (fun c1 => ?_) (fun c1 => ?_)
  ·
    try simp only [cnd] at c1
    first | done | omega | (simp at c1)
  ·
    try simp only [cnd] at c1
    refine awl_skip ?_
    refine awl_seq ?_
    refine awl_regS [(some 13, (.move (.tmp 0)), none), (some 14, (.call ⟨(.builtin .len), #[(.tmp 13)], #[22]⟩), none), (some 15, (.convert 3 116 (.tmp 14)), none), (some 16, (.move (.tmp 1)), none), (some 17, (.convert 3 116 (.tmp 16)), none), (some 18, (.call ⟨(.value (.func 99)), #[(.tmp 15), (.tmp 17)], #[116, 116]⟩), none), (some 12, (.move (.tmp 18)), none), (some 19, (.extract (.tmp 12) 0), none), (some 20, (.extract (.tmp 12) 1), none), (some 5, (.assign (.tmp 19)), none), (some 6, (.assign (.tmp 20)), none)] rfl fun K hK => ?_
    try simp only [go_sem, simprocAttr, h0, h1, h10, wu1, wu48]
    repeat' (refine And.intro (by first | rfl | omega | (simp; done)) ?_)
    refine opS_call_ro rfl (sat_math_bits_Mul) ?ha ?hv ?hh ?_
    case ha => simp only [go_sem, simprocAttr, h0, h1, h10, wu1, wu48]; first | done | rfl
    case hv => first | rfl | (simp only [go_sem]; done)
    case hh => first | rfl | (simp only [go_sem]; done)
    try simp only [go_sem, simprocAttr, h0, h1, h10, wu1, wu48]
    repeat' (refine And.intro (by first | rfl | omega | (simp; done)) ?_)
    refine hK _ _ (.mk (awl_live' [0, 5, 6] fun ρ hL => ?_))
    try simp only [go_sem, simprocAttr, h0, h1, h10, wu1, wu48] at hL
    try clear h0 h1 h10
    obtain ⟨h0, h5, h6⟩ := hL
    clear hK K
    refine awl_seq ?_
    refine awl_seq ?_
    refine awl_regS [(some 21, (.move (.tmp 5)), none), (some 22, (.binOp .gtr 116 (.tmp 21) (.const (.int .u64 0)) 116), none), (some 23, (.move (.tmp 22)), none), (some 24, (.move (.tmp 6)), some (23, false)), (some 25, (.binOp .gtr 116 (.tmp 24) (.const (.int .u64 9223372036854775807)) 116), some (23, false)), (some 26, (.pick (.tmp 23) (.const (.bool true)) (.tmp 25)), none)] rfl fun K hK => ?_
    try simp only [go_sem, simprocAttr, h0, h5, h6]
    repeat' (refine And.intro (by first | rfl | omega | (simp; done)) ?_)
    refine awpS_live [0, 6, 23] fun ρ hL => ?_
    try simp only [go_sem, simprocAttr, h0, h5, h6] at hL
    try clear h0 h5 h6
    obtain ⟨h0, h6, h23⟩ := hL
    refine grp_orN (tc := 23) (tv := 25) (td := 26) (v := ?v1) 2 rfl [0, 6] h23 rfl (fun hb K1 hK1 => ?run) (fun hb => ?skip) (fun ρ hP hL => ?_)
    case skip =>
      exact awpS_skip (want := false) (b := _) (by rw [hb]; rfl) _ [] ρ h23 (fun _ _ => rfl) (by simp) rfl
    case run =>
      simp only [List.take_succ_cons, List.take_zero]
      rw [hb] at h23
      try simp only [go_sem, simprocAttr, h0, h6, h23]
      repeat' (refine And.intro (by first | rfl | omega | (simp; done)) ?_)
      exact hK1 _ (by simp only [go_sem, simprocAttr, h0, h6, h23]) (by simp only [go_sem, simprocAttr, h0, h6, h23]; exact rfl) (by simp only [go_sem, simprocAttr, h0, h6, h23])
    simp only [List.drop_succ_cons, List.drop_zero]
    try simp only [go_sem, simprocAttr, h0, h6, h23] at hL
    try clear h0 h6 h23
    obtain ⟨h0, h6⟩ := hL
    have h26 := hP
    clear hP
    try simp only [go_sem, simprocAttr, h0, h6, h26]
    repeat' (refine And.intro (by first | rfl | omega | (simp; done)) ?_)
    refine hK _ _ (.mk (awl_live' [0, 6, 26] fun ρ hL => ?_))
    try simp only [go_sem, simprocAttr, h0, h6, h26] at hL
    try clear h0 h6 h26
    obtain ⟨h0, h6, h26⟩ := hL
    clear hK K
    refine awl_cond h26 (fun c2 => ?_) (fun c2 => ?_)
    ·
      try simp only [cnd] at c2
      first | done | omega | (simp at c2; done) | (simp at c2; omega)
    ·
      try simp only [cnd] at c2
      refine awl_skip ?_
      refine awl_seq ?_
      refine awl_regS [(some 28, (.move (.tmp 6)), none), (some 29, (.convert 116 3 (.tmp 28)), none), (some 30, (.makeSlice 22 (.tmp 29) (.tmp 29)), none), (some 7, (.assign (.tmp 30)), none)] rfl fun K hK => ?_
      try simp only [go_sem, simprocAttr, h0, h6, h26, wi48]
      repeat' (refine And.intro (by first | rfl | omega | (simp; done)) ?_)
      refine hK _ _ (.mk (awl_live' [0, 7] fun ρ hL => ?_))
      try simp only [go_sem, simprocAttr, h0, h6, h26, wi48] at hL
      try clear h0 h6 h26
      obtain ⟨h0, h7⟩ := hL
      clear hK K
      refine awl_seq ?_
      refine awl_regS [(some 31, (.move (.tmp 7)), none), (some 32, (.move (.tmp 0)), none), (some 33, (.call ⟨(.builtin .copy), #[(.tmp 31), (.tmp 32)], #[22, 22]⟩), none), (some 8, (.assign (.tmp 33)), none)] rfl fun K hK => ?_
      try simp only [go_sem, simprocAttr, h0, h7, gfill_one, wi1]
      repeat' (refine And.intro (by first | rfl | omega | (simp; done)) ?_)
      refine hK _ _ (.mk (awl_live' [7, 8] fun ρ hL => ?_))
      try simp only [go_sem, simprocAttr, h0, h7, gfill_one, wi1] at hL
      try clear h0 h7
      obtain ⟨h7, h8⟩ := hL
      clear hK K
      refine awl_seq ?_
      have e1_7 := h7
      refine awl_loopH (fun H0 n σ G => ∃ (m : Nat), n = 48 - m ∧ (1 ≤ m) ∧ (m ≤ 48) ∧ liveE [7] σ ρ ∧ σ 8 = .int .i64 (m : Int) ∧ G = [⟨1, ints (gfill m), true, false⟩]) (fun H0 σ G => liveE [7] σ ρ ∧ G = [⟨1, ints guessNew, true, false⟩]) ((fun (m : Nat) => 48 - m) 1) ?init1 (fun n ρ G hI => ?round1) (fun ρ G hJ => ?after1)
      case init1 => exact ⟨1, rfl, (Nat.le_refl _), (by decide), liveE_refl _ _, (h8), rfl⟩
      case round1 =>
        obtain ⟨m, hn, i1_0, i1_1, hL, k8, hG⟩ := hI
        subst hG
        try simp only [go_sem, simprocAttr, h7, h8] at hL
        clear h7 h8
        have h7 := hL
        clear hL
        have h8 := k8
        clear k8
        refine awl_seq ?_
        refine awl_seq ?_
        refine awl_regS [(some 34, (.move (.tmp 8)), none), (some 35, (.move (.tmp 7)), none), (some 36, (.call ⟨(.builtin .len), #[(.tmp 35)], #[22]⟩), none), (some 37, (.binOp .lss 3 (.tmp 34) (.tmp 36) 3), none)] rfl fun K hK => ?_
        try simp only [go_sem, simprocAttr, h7, h8]
        repeat' (refine And.intro (by first | rfl | omega | (simp; done)) ?_)
        refine hK _ _ (.mk (awl_live' [7, 8, 37] fun ρ hL => ?_))
        try simp only [go_sem, simprocAttr, h7, h8] at hL
        try clear h7 h8
        obtain ⟨h7, h8, h37⟩ := hL
        clear hK K
        refine awl_cond h37 (fun c3 => ?_) (fun c3 => ?_)
        ·
          try simp only [cnd] at c3
          refine awl_skip ?_
          refine awl_block fun R1 hw1 hR1 => ?_
          have hm48 : m ≤ 48 := by omega
          have ha9 : (0 : Int) ≤ (m : Int) := by omega
          have hb9 : (m : Int) ≤ 48 := by omega
          have hmm : m + (48 - m) ≤ 48 := by omega
          have hfc := gfill_copy hm48
          have hfl := ints_lenF hm48
          have hw9 : IntKind.i64.wrap ((m : Int) + ((Nat.min m (48 - m) : Nat) : Int)) = ((m + Nat.min m (48 - m) : Nat) : Int) := by rw [show Nat.min m (48 - m) = min m (48 - m) from rfl, wrap64 (by omega)]; omega
          refine awl_regD mixed [(some 38, (.move (.tmp 8)), none), (some 39, (.move (.tmp 7)), none), (some 40, (.move (.tmp 8)), none), (some 41, (.slice 22 (.tmp 39) (some (.tmp 40)) none none), none), (some 42, (.move (.tmp 7)), none), (some 43, (.move (.tmp 8)), none), (some 44, (.slice 22 (.tmp 42) none (some (.tmp 43)) none), none), (some 45, (.call ⟨(.builtin .copy), #[(.tmp 41), (.tmp 44)], #[22, 22]⟩), none), (some 46, (.binOp .add 3 (.tmp 38) (.tmp 45) 3), none), (some 8, (.assign (.tmp 46)), none)] rfl fun K hK => ?_
          try simp only [go_sem, simprocAttr, h7, h8, h37, ha9, hb9, hm48, hmm, hfc, hfl, hw9, Nat.sub_zero, Nat.sub_self, Nat.max_zero, Nat.zero_max, Nat.max_self, Option.isSome_none, Option.isNone_some, Option.isNone_none]
          repeat' (refine And.intro (by first | omega | (exact ⟨[0, 0, 0, 6, 0, 0, 48, 126, 255, 511], by kernel_rfl⟩) | kernel_rfl) ?_)
          refine hK _ _ (.mk (awl_live' [7, 8] fun ρ hL => ?_))
          try simp only [go_sem, simprocAttr, h7, h8, h37, ha9, hb9, hm48, hmm, hfc, hfl, hw9, Nat.sub_zero, Nat.sub_self, Nat.max_zero, Nat.zero_max, Nat.max_self, Option.isSome_none, Option.isNone_some, Option.isNone_none] at hL
          try clear h7 h8 h37
          obtain ⟨h7, h8⟩ := hL
          clear hK K
          refine awl_nil ?_
          refine blk_normal (hR1 _ _ (.mk ?_))
          refine awl_nil ?_
          refine loop_again _ ?meas ⟨(m + Nat.min m (48 - m)), rfl, (by omega), (by rw [show Nat.min m (48 - m) = min m (48 - m) from rfl]; omega), (by simp only [go_sem, simprocAttr, h7, h8, e1_7]), (h8), rfl⟩
          case meas => subst hn; rw [show Nat.min m (48 - m) = min m (48 - m) from rfl]; omega
        ·
          try simp only [cnd] at c3
          refine awl_exit ?_
          refine loop_break ?_
          exact ⟨(by simp only [go_sem, simprocAttr, h7, h8, h37, e1_7]), by rw [show m = 48 by omega, gfill_end]⟩
      case after1 =>
        obtain ⟨hL, hG⟩ := hJ
        subst hG
        try simp only [go_sem, simprocAttr, h7, h8] at hL
        clear h7 h8
        have h7 := hL
        clear hL
        refine awl_seq ?_
        refine awl_regS [(some 47, (.move (.tmp 7)), none), (some 4, (.assign (.tmp 47)), none)] rfl fun K hK => ?_
        try simp only [go_sem, simprocAttr, h7]
        repeat' (refine And.intro (by first | rfl | omega | (simp; done)) ?_)
        refine hK _ _ (.mk (awl_live' [4] fun ρ hL => ?_))
        try simp only [go_sem, simprocAttr, h7] at hL
        try clear h7
        have h4 := hL
        clear hL
        clear hK K
        refine awl_ret ?_
        refine ret_wk (Wk.norm [] (RefE.refl.upd h4 (Ref.cap _ _ _ _ 0 (Nat.zero_le _)))) ?_
        refine retK [0] [0] rfl (by simp only [go_sem, simprocAttr, h4]; exact rfl) (by decide) (by first | rfl | (simp only [go_sem, simprocAttr, h4]; first | done | rfl)) (by first | rfl | (simp only [go_sem, simprocAttr, h4]; first | done | rfl)) ?_ ?_
        all_goals try simp only [go_sem, simprocAttr, h4]
        all_goals try clear hR1
        all_goals (first | done | rfl | (simp; done) | (simp [inR]; done) | (simp_all [inR]; done) | (simp [inR]; grind))
set_option maxHeartbeats 8000000 in
set_option maxRecDepth 100000 in
theorem sat_impl_GuessNew   : Sat Try.prog 14 [] [] (.slice 0 0 48 0) [⟨1, ints guessNew, true, false⟩] := by
  refine sat_mk [.tmp 0] 0 3 Try.call14 Try.func14 Try.ntmps14 rfl rfl rfl rfl rfl ?_
  refine awl_live' [] fun ρ hL => ?_
  clear hL 
  refine awl_seq ?_
  refine awl_regS [(some 0, (.assign (.const (.slice none 0 0))), none)] rfl fun K hK => ?_
  try simp only [go_sem, simprocAttr]
  repeat' (refine And.intro (by first | rfl | omega | (simp; done)) ?_)
  refine hK _ _ (.mk (awl_live' [] fun ρ hL => ?_))
  clear hL 
  clear hK K
  refine awl_seq ?_
  refine awl_regS [(some 1, (.buildSlice 22 1 #[(0, (.const (.int .i64 (-1))))]), none), (some 2, (.call ⟨(.value (.func 50)), #[(.tmp 1), (.const (.int .i64 48))], #[22, 3]⟩), none), (some 0, (.assign (.tmp 2)), none)] rfl fun K hK => ?_
  try simp only [go_sem, simprocAttr]
  repeat' (refine And.intro (by first | rfl | omega | (simp; done)) ?_)
  refine opS_call_ro rfl (sat_slices_Repeat_int_int) ?ha ?hv ?hh ?_
  case ha => simp only [go_sem, simprocAttr]; first | done | rfl
  case hv => first | rfl | (simp only [go_sem]; done)
  case hh => first | rfl | (simp only [go_sem]; done)
  try simp only [go_sem, simprocAttr]
  repeat' (refine And.intro (by first | rfl | omega | (simp; done)) ?_)
  refine hK _ _ (.mk (awl_live' [0] fun ρ hL => ?_))
  try simp only [go_sem, simprocAttr] at hL
  have h0 := hL
  clear hL
  clear hK K
  refine awl_ret ?_
  refine retK [1] [1] rfl (by simp only [go_sem, simprocAttr, h0]; exact rfl) (by decide) (by first | rfl | (simp only [go_sem, simprocAttr, h0]; first | done | rfl)) (by first | rfl | (simp only [go_sem, simprocAttr, h0]; first | done | rfl)) ?_ ?_
  all_goals try simp only [go_sem, simprocAttr, h0]
  all_goals (first | done | rfl | (simp; done) | (simp [inR]; done) | (simp_all [inR]; done) | (simp [inR]; grind))
set_option maxHeartbeats 8000000 in
set_option maxRecDepth 100000 in
theorem sat_spec_GuessNew   : Sat Try.prog 13 [] [] (.slice 0 0 48 0) [⟨1, ints guessNew, true, false⟩] := by
  refine sat_mk [.tmp 0] 0 12 Try.call13 Try.func13 Try.ntmps13 rfl rfl rfl rfl rfl ?_
  refine awl_live' [] fun ρ hL => ?_
  clear hL 
  refine awl_seq ?_
  refine awl_regS [(some 0, (.assign (.const (.slice none 0 0))), none)] rfl fun K hK => ?_
  try simp only [go_sem, simprocAttr, ints_takeR, ints_lenR]
  repeat' (refine And.intro (by first | rfl | omega | (simp; done)) ?_)
  refine hK _ _ (.mk (awl_live' [] fun ρ hL => ?_))
  clear hL 
  clear hK K
  refine awl_seq ?_
  refine awl_regS [(some 3, (.buildSlice 22 0 #[]), none), (some 1, (.assign (.tmp 3)), none)] rfl fun K hK => ?_
  try simp only [go_sem, simprocAttr, ints_takeR, ints_lenR]
  repeat' (refine And.intro (by first | rfl | omega | (simp; done)) ?_)
  refine hK _ _ (.mk (awl_live' [1] fun ρ hL => ?_))
  try simp only [go_sem, simprocAttr, ints_takeR, ints_lenR] at hL
  have h1 := hL
  clear hL
  clear hK K
  refine awl_seq ?_
  refine awl_seq ?_
  refine awl_regS [(some 2, (.assign (.const (.int .i64 0))), none)] rfl fun K hK => ?_
  try simp only [go_sem, simprocAttr, h1, ints_takeR, ints_lenR]
  repeat' (refine And.intro (by first | rfl | omega | (simp; done)) ?_)
  refine hK _ _ ⟨_, _, (Wk.norm [1] (RefE.refl.upd (t := 1) (by simp only [go_sem, simprocAttr, h1]; first | done | rfl) (Ref.esl 0 ⟨Nat.le_refl _, Nat.lt_succ_self _⟩))), awl_live' [1, 2] fun ρ hL => ?_⟩
  try simp only [go_sem, simprocAttr, h1, ints_takeR, ints_lenR] at hL
  try clear h1
  obtain ⟨h1, h2⟩ := hL
  try simp only [go_sem, simprocAttr]
  clear hK K
  refine awl_loopH (fun H0 n σ G => ∃ (i : Nat), n = 48 - i ∧ (i ≤ 48) ∧ liveE [] σ ρ ∧ σ 1 = .slice 0 0 i 0 ∧ σ 2 = .int .i64 (i : Int) ∧ G = [⟨1, ints (List.replicate i (-1)), true, false⟩]) (fun H0 σ G => liveE [] σ ρ ∧ σ 1 = .slice 0 0 48 0 ∧ G = [⟨1, ints guessNew, true, false⟩]) ((fun (i : Nat) => 48 - i) 0) ?init1 (fun n ρ G hI => ?round1) (fun ρ G hJ => ?after1)
  case init1 => exact ⟨0, rfl, (Nat.zero_le _), liveE_refl _ _, (h1), (h2), rfl⟩
  case round1 =>
    obtain ⟨i, hn, i1_0, hL, k1, k2, hG⟩ := hI
    subst hG
    clear h1 h2
    clear hL
    have h1 := k1
    clear k1
    have h2 := k2
    clear k2
    refine awl_seq ?_
    refine awl_seq ?_
    refine awl_regS [(some 4, (.move (.tmp 2)), none), (some 5, (.binOp .lss 3 (.tmp 4) (.const (.int .i64 48)) 3), none)] rfl fun K hK => ?_
    try simp only [go_sem, simprocAttr, h1, h2, ints_takeR, ints_lenR]
    repeat' (refine And.intro (by first | rfl | omega | (simp; done)) ?_)
    refine hK _ _ (.mk (awl_live' [1, 2, 5] fun ρ hL => ?_))
    try simp only [go_sem, simprocAttr, h1, h2, ints_takeR, ints_lenR] at hL
    try clear h1 h2
    obtain ⟨h1, h2, h5⟩ := hL
    clear hK K
    refine awl_cond h5 (fun c1 => ?_) (fun c1 => ?_)
    ·
      try simp only [cnd] at c1
      have hi1 : i < 48 := by omega
      refine awl_skip ?_
      refine awl_seq ?_
      refine awl_block fun R1 hw1 hR1 => ?_
      refine awl_regS [(some 8, (.move (.tmp 1)), none), (some 9, (.buildSlice 22 1 #[(0, (.const (.int .i64 (-1))))]), none), (some 10, (.call ⟨(.builtin .append), #[(.tmp 8), (.tmp 9)], #[22, 22]⟩), none), (some 1, (.assign (.tmp 10)), none)] rfl fun K hK => ?_
      try simp only [go_sem, simprocAttr, h1, h2, h5, hi1, ints_takeR, ints_lenR]
      repeat' (refine And.intro (by first | rfl | omega | (simp; done)) ?_)
      refine hK _ _ (.mk (awl_live' [1, 2] fun ρ hL => ?_))
      try simp only [go_sem, simprocAttr, h1, h2, h5, hi1, ints_takeR, ints_lenR] at hL
      try clear h1 h2 h5
      obtain ⟨h1, h2⟩ := hL
      clear hK K
      refine awl_nil ?_
      refine blk_normal (hR1 _ _ (.mk ?_))
      have w1 : IntKind.i64.wrap ((i : Int) + 1) = ((i + 1 : Nat) : Int) := by rw [wrap64 (by omega)]; omega
      refine awl_regS [(some 6, (.move (.tmp 2)), none), (some 7, (.binOp .add 3 (.tmp 6) (.const (.int .i64 1)) 3), none), (some 2, (.assign (.tmp 7)), none)] rfl fun K hK => ?_
      try simp only [go_sem, simprocAttr, h1, h2, hi1, w1, ints_takeR, ints_lenR]
      repeat' (refine And.intro (by first | rfl | omega | (simp; done)) ?_)
      refine hK _ _ (.mk (awl_live' [1, 2] fun ρ hL => ?_))
      try simp only [go_sem, simprocAttr, h1, h2, hi1, w1, ints_takeR, ints_lenR] at hL
      try clear h1 h2
      obtain ⟨h1, h2⟩ := hL
      clear hK K
      refine awl_nil ?_
      refine loop_againW (Wk.keep [2] rfl) _ ?meas ⟨i + 1, rfl, (by omega), (by simp only [go_sem, simprocAttr, h1, h2, hi1, ints_takeR, ints_lenR]), (by simp only [go_sem, simprocAttr, h1, h2, hi1, ints_takeR, ints_lenR]; first | done | rfl), (by simp only [go_sem, simprocAttr, h1, h2, hi1, ints_takeR, ints_lenR]; first | done | rfl), (by simp only [go_sem, simprocAttr, h1, h2, hi1, ints_takeR, ints_lenR]; rw [rep_snoc])⟩
      case meas => subst hn; omega
    ·
      try simp only [cnd] at c1
      refine awl_exit ?_
      refine loop_break ?_
      exact ⟨(by simp only [go_sem, simprocAttr, h1, h2, h5, ints_takeR, ints_lenR]), (by rw [h1, show i = 48 by omega]), by rw [show i = 48 by omega]; rfl⟩
  case after1 =>
    obtain ⟨hL, k1, hG⟩ := hJ
    subst hG
    clear h1 h2
    clear hL
    have h1 := k1
    clear k1
    refine awl_seq ?_
    refine awl_regS [(some 11, (.move (.tmp 1)), none), (some 0, (.assign (.tmp 11)), none)] rfl fun K hK => ?_
    try simp only [go_sem, simprocAttr, h1, ints_takeR, ints_lenR]
    repeat' (refine And.intro (by first | rfl | omega | (simp; done)) ?_)
    refine hK _ _ (.mk (awl_live' [0] fun ρ hL => ?_))
    try simp only [go_sem, simprocAttr, h1, ints_takeR, ints_lenR] at hL
    try clear h1
    have h0 := hL
    clear hL
    clear hK K
    refine awl_ret ?_
    refine retK [0] [0] rfl (by simp only [go_sem, simprocAttr, h0, ints_takeR, ints_lenR]; exact rfl) (by decide) (by first | rfl | (simp only [go_sem, simprocAttr, h0, ints_takeR, ints_lenR]; first | done | rfl)) (by first | rfl | (simp only [go_sem, simprocAttr, h0, ints_takeR, ints_lenR]; first | done | rfl)) ?_ ?_
    all_goals try simp only [go_sem, simprocAttr, h0, ints_takeR, ints_lenR]
    all_goals try clear hR1
    all_goals (first | done | rfl | (simp; done) | (simp [inR]; done) | (simp_all [inR]; done) | (simp [inR]; grind))
end Go.Proofs.Ytgddflnhibhacaa.AM
