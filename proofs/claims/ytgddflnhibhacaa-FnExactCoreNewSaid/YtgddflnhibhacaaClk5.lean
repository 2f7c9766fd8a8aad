/- The law CoreNew. No conditions but those each theorem bears. -/
import Derived.Test.YtgddflnhibhacaaFa
import Derived.Test.YtgddflnhibhacaaCa13
import Derived.Test.YtgddflnhibhacaaCa23
import Derived.Test.YtgddflnhibhacaaCa33
set_option linter.unusedSimpArgs false
set_option linter.unusedVariables false
namespace Go.Proofs.Ytgddflnhibhacaa.AM
open Go

set_option maxHeartbeats 8000000 in
set_option maxRecDepth 100000 in
theorem sat_laws_FnExactCoreNew (s : Stt) (hs : s.sm) : Sat Try.prog 12 [.agg s.cells] [] (.bool true) [] := by
  refine sat_mk [.tmp 2] 0 69 Try.call12 Try.func12 Try.ntmps12 rfl rfl rfl rfl rfl ?_
  refine awl_live' [0] fun ρ hL => ?_
  try simp only [go_sem, simprocAttr, Mem.marked, Stt.marked, Cor.markedQ, mrow_len, marks_len] at hL
  have h0 := hL
  clear hL
  refine awl_seq ?_
  refine awl_regS [(some 1, (.box 36 (.tmp 0)), none), (some 2, (.assign (.const (.bool false))), none)] rfl fun K hK => ?_
  try simp only [go_sem, simprocAttr, h0, Mem.marked, Stt.marked, Cor.markedQ, mrow_len, marks_len]
  repeat' (refine And.intro (by first | exact f1.1 | assumption | omega) ?_)
  refine hK _ _ ⟨_, _, Wk.keep [0] rfl, awl_live' [1] fun ρ hL => ?_⟩
  try simp only [go_sem, simprocAttr, h0, Mem.marked, Stt.marked, Cor.markedQ, mrow_len, marks_len] at hL
  try clear h0
  have h1 := hL
  clear hL
  try simp only [go_sem, simprocAttr, Mem.marked, Stt.marked, Cor.markedQ, mrow_len, marks_len]
  clear hK K
  refine awl_seq ?_
  refine awl_regS [(some 3, (.assign (.const (.int .i64 1048576))), none)] rfl fun K hK => ?_
  try simp only [go_sem, simprocAttr, h1, Mem.marked, Stt.marked, Cor.markedQ, mrow_len, marks_len]
  repeat' (refine And.intro (by first | exact f1.1 | assumption | omega) ?_)
  refine hK _ _ ⟨_, _, Wk.keep [0] rfl, awl_live' [1, 3] fun ρ hL => ?_⟩
  try simp only [go_sem, simprocAttr, h1, Mem.marked, Stt.marked, Cor.markedQ, mrow_len, marks_len] at hL
  try clear h1
  obtain ⟨h1, h3⟩ := hL
  try simp only [go_sem, simprocAttr, Mem.marked, Stt.marked, Cor.markedQ, mrow_len, marks_len]
  clear hK K
  refine awl_seq ?_
  refine awl_regS [(some 11, (.load 36 (.tmp 1)), none), (some 12, (.move (.tmp 3)), none), (some 13, (.call ⟨(.value (.func 18)), #[(.tmp 11), (.tmp 12)], #[36, 3]⟩), none), (some 3, (.assign (.tmp 13)), none)] rfl fun K hK => ?_
  try simp only [go_sem, simprocAttr, h1, h3, Mem.marked, Stt.marked, Cor.markedQ, mrow_len, marks_len]
  repeat' (refine And.intro (by first | exact f1.1 | assumption | omega) ?_)
  refine opS_call_ro rfl (sat_laws_szState s 1048576 hs ⟨by decide, by decide⟩) ?ha ?hv ?hh ?_
  case ha => simp only [go_sem, simprocAttr, h1, h3, Mem.marked, Stt.marked, Cor.markedQ, mrow_len, marks_len]; first | done | rfl
  case hv => first | rfl | (simp only [go_sem]; done)
  case hh => first | rfl | (simp only [go_sem]; done)
  try simp only [go_sem, simprocAttr, h1, h3, Mem.marked, Stt.marked, Cor.markedQ, mrow_len, marks_len]
  repeat' (refine And.intro (by first | exact f1.1 | assumption | omega) ?_)
  refine hK _ _ ⟨_, _, Wk.keep [0] rfl, awl_live' [1, 3] fun ρ hL => ?_⟩
  try simp only [go_sem, simprocAttr, h1, h3, Mem.marked, Stt.marked, Cor.markedQ, mrow_len, marks_len] at hL
  try clear h1 h3
  obtain ⟨h1, h3⟩ := hL
  try simp only [go_sem, simprocAttr, Mem.marked, Stt.marked, Cor.markedQ, mrow_len, marks_len]
  clear hK K
  refine awl_seq ?_
  refine awl_seq ?_
  refine awl_regS [(some 14, (.move (.tmp 3)), none), (some 15, (.binOp .lss 3 (.tmp 14) (.const (.int .i64 0)) 3), none)] rfl fun K hK => ?_
  try simp only [go_sem, simprocAttr, h1, h3, Mem.marked, Stt.marked, Cor.markedQ, mrow_len, marks_len]
  repeat' (refine And.intro (by first | exact f1.1 | assumption | omega) ?_)
  refine hK _ _ ⟨_, _, Wk.keep [0] rfl, awl_live' [1, 15] fun ρ hL => ?_⟩
  try simp only [go_sem, simprocAttr, h1, h3, Mem.marked, Stt.marked, Cor.markedQ, mrow_len, marks_len] at hL
  try clear h1 h3
  obtain ⟨h1, h15⟩ := hL
  try simp only [go_sem, simprocAttr, Mem.marked, Stt.marked, Cor.markedQ, mrow_len, marks_len]
  clear hK K
  refine awl_cond h15 (fun c1 => ?_) (fun c1 => ?_)
  ·
    try simp only [cnd] at c1
    refine awl_seq ?_
    refine awl_regS [(some 2, (.assign (.const (.bool true))), none)] rfl fun K hK => ?_
    try simp only [go_sem, simprocAttr, h1, h15, Mem.marked, Stt.marked, Cor.markedQ, mrow_len, marks_len]
    repeat' (refine And.intro (by first | exact f1.1 | assumption | omega) ?_)
    refine hK _ _ ⟨_, _, Wk.keep [] rfl, awl_live' [2] fun ρ hL => ?_⟩
    try simp only [go_sem, simprocAttr, h1, h15, Mem.marked, Stt.marked, Cor.markedQ, mrow_len, marks_len] at hL
    try clear h1 h15
    have h2 := hL
    clear hL
    try simp only [go_sem, simprocAttr, Mem.marked, Stt.marked, Cor.markedQ, mrow_len, marks_len]
    clear hK K
    refine awl_ret ?_
    refine ret0 (by simp only [go_sem, simprocAttr, h2, Mem.marked, Stt.marked, Cor.markedQ, mrow_len, marks_len]; exact rfl) ?_
    try simp only [go_sem, simprocAttr]
    all_goals (rfl)
  ·
    try simp only [cnd] at c1
    have f1 := szS_ok (l := 1048576) ⟨by decide, by decide⟩ c1
    have f3 := corNew_fit f1.1
    refine awl_skip ?_
    refine awl_seq ?_
    refine awl_regS [(some 16, (.load 36 (.tmp 1)), none), (some 17, (.call ⟨(.value (.func 20)), #[(.tmp 16)], #[36]⟩), none), (some 18, (.call ⟨(.value (.func 47)), #[(.tmp 17)], #[46]⟩), none), (some 4, (.alloc 61), none), (none, (.store 61 (.tmp 4) (.tmp 18)), none)] rfl fun K hK => ?_
    try simp only [go_sem, simprocAttr, h1, h15, Mem.marked, Stt.marked, Cor.markedQ, mrow_len, marks_len]
    repeat' (refine And.intro (by first | exact f1.1 | assumption | omega) ?_)
    refine opS_call_ro rfl (sat_laws_toState ?_ ?hp0) ?ha ?hv ?hh ?_
    case ha => simp only [go_sem, simprocAttr, h1, h15, Mem.marked, Stt.marked, Cor.markedQ, mrow_len, marks_len]; first | done | rfl
    case hp0 => first | exact f1.1 | assumption | omega
    case hv => first | rfl | (simp only [go_sem]; done)
    case hh => first | rfl | (simp only [go_sem]; done)
    try simp only [go_sem, simprocAttr, h1, h15, Mem.marked, Stt.marked, Cor.markedQ, mrow_len, marks_len]
    repeat' (refine And.intro (by first | exact f1.1 | assumption | omega) ?_)
    refine opS_call_ro rfl (sat_spec_CoreNew ?_ ?hp0) ?ha ?hv ?hh ?_
    case ha => simp only [go_sem, simprocAttr, h1, h15, Mem.marked, Stt.marked, Cor.markedQ, mrow_len, marks_len]; first | done | rfl
    case hp0 => first | exact f1.1 | assumption | omega
    case hv => first | rfl | (simp only [go_sem]; done)
    case hh => first | rfl | (simp only [go_sem]; done)
    try simp only [go_sem, simprocAttr, h1, h15, Mem.marked, Stt.marked, Cor.markedQ, mrow_len, marks_len]
    repeat' (refine And.intro (by first | exact f1.1 | assumption | omega) ?_)
    refine hK _ _ ⟨_, _, Wk.keep [0, 9, 4, 5, 6, 7, 8] rfl, awl_live' [1, 4] fun ρ hL => ?_⟩
    try simp only [go_sem, simprocAttr, h1, h15, Mem.marked, Stt.marked, Cor.markedQ, mrow_len, marks_len] at hL
    try clear h1 h15
    obtain ⟨h1, h4⟩ := hL
    try simp only [go_sem, simprocAttr, Mem.marked, Stt.marked, Cor.markedQ, mrow_len, marks_len]
    clear hK K
    refine awl_seq ?_
    refine awl_regS [(some 19, (.load 36 (.tmp 1)), none), (some 20, (.call ⟨(.value (.func 20)), #[(.tmp 19)], #[36]⟩), none), (some 5, (.alloc 46), none), (none, (.store 46 (.tmp 5) (.tmp 20)), none)] rfl fun K hK => ?_
    try simp only [go_sem, simprocAttr, h1, h4, Mem.marked, Stt.marked, Cor.markedQ, mrow_len, marks_len]
    repeat' (refine And.intro (by first | exact f1.1 | assumption | omega) ?_)
    refine opS_call_ro rfl (sat_laws_toState ?_ ?hp0) ?ha ?hv ?hh ?_
    case ha => simp only [go_sem, simprocAttr, h1, h4, Mem.marked, Stt.marked, Cor.markedQ, mrow_len, marks_len]; first | done | rfl
    case hp0 => first | exact f1.1 | assumption | omega
    case hv => first | rfl | (simp only [go_sem]; done)
    case hh => first | rfl | (simp only [go_sem]; done)
    try simp only [go_sem, simprocAttr, h1, h4, Mem.marked, Stt.marked, Cor.markedQ, mrow_len, marks_len]
    repeat' (refine And.intro (by first | exact f1.1 | assumption | omega) ?_)
    refine hK _ _ ⟨_, _, Wk.keep [0, 1, 2, 3, 4, 5, 6, 10, 7, 8, 9] rfl, awl_live' [1, 4, 5] fun ρ hL => ?_⟩
    try simp only [go_sem, simprocAttr, h1, h4, Mem.marked, Stt.marked, Cor.markedQ, mrow_len, marks_len] at hL
    try clear h1 h4
    obtain ⟨h1, h4, h5⟩ := hL
    try simp only [go_sem, simprocAttr, Mem.marked, Stt.marked, Cor.markedQ, mrow_len, marks_len]
    clear hK K
    refine awl_seq ?_
    refine awl_regS [(some 21, (.load 46 (.tmp 5)), none), (some 22, (.call ⟨(.value (.func 48)), #[(.tmp 21)], #[46]⟩), none), (some 6, (.alloc 61), none), (none, (.store 61 (.tmp 6) (.tmp 22)), none)] rfl fun K hK => ?_
    try simp only [go_sem, simprocAttr, h1, h4, h5, Mem.marked, Stt.marked, Cor.markedQ, mrow_len, marks_len]
    repeat' (refine And.intro (by first | exact f1.1 | assumption | omega) ?_)
    refine opS_call_ro rfl (sat_impl_CoreNew ?_ ?hp0) ?ha ?hv ?hh ?_
    case ha => simp only [go_sem, simprocAttr, h1, h4, h5, Mem.marked, Stt.marked, Cor.markedQ, mrow_len, marks_len]; first | done | rfl
    case hp0 => first | exact f1.1 | assumption | omega
    case hv => first | rfl | (simp only [go_sem]; done)
    case hh => first | rfl | (simp only [go_sem]; done)
    try simp only [go_sem, simprocAttr, h1, h4, h5, Mem.marked, Stt.marked, Cor.markedQ, mrow_len, marks_len]
    repeat' (refine And.intro (by first | exact f1.1 | assumption | omega) ?_)
    refine hK _ _ ⟨_, _, Wk.keep [0, 1, 2, 3, 4, 5, 6, 7, 8, 9, 10, 16, 11, 12, 13, 14, 15] rfl, awl_live' [1, 4, 5, 6] fun ρ hL => ?_⟩
    try simp only [go_sem, simprocAttr, h1, h4, h5, Mem.marked, Stt.marked, Cor.markedQ, mrow_len, marks_len] at hL
    try clear h1 h4 h5
    obtain ⟨h1, h4, h5, h6⟩ := hL
    try simp only [go_sem, simprocAttr, Mem.marked, Stt.marked, Cor.markedQ, mrow_len, marks_len]
    clear hK K
    refine awl_seq ?_
    refine awl_seq ?_
    refine awl_regS [(some 23, (.load 61 (.tmp 6)), none), (some 24, (.load 61 (.tmp 4)), none), (some 25, (.call ⟨(.value (.func 33)), #[(.tmp 23), (.tmp 24)], #[61, 61]⟩), none), (some 26, (.unOp .not 4 (.tmp 25)), none)] rfl fun K hK => ?_
    try simp only [go_sem, simprocAttr, h1, h4, h5, h6, Mem.marked, Stt.marked, Cor.markedQ, mrow_len, marks_len]
    repeat' (refine And.intro (by first | exact f1.1 | assumption | omega) ?_)
    refine opS_call_ro rfl (sat_laws_eqCore (corNew s) (corNew s) f3) ?ha ?hv ?hh ?_
    case ha => simp only [go_sem, simprocAttr, h1, h4, h5, h6, Mem.marked, Stt.marked, Cor.markedQ, mrow_len, marks_len]; first | done | rfl
    case hv => first | rfl | (simp only [go_sem]; done)
    case hh => first | rfl | (simp only [go_sem]; done)
    try simp only [go_sem, simprocAttr, h1, h4, h5, h6, Mem.marked, Stt.marked, Cor.markedQ, mrow_len, marks_len]
    repeat' (refine And.intro (by first | exact f1.1 | assumption | omega) ?_)
    refine hK _ _ ⟨_, _, Wk.keep [0, 1, 2, 3, 4, 5, 6, 7, 8, 9, 10, 11, 12, 13, 14, 15, 16] rfl, awl_live' [1, 4, 5, 6, 26] fun ρ hL => ?_⟩
    try simp only [go_sem, simprocAttr, h1, h4, h5, h6, Mem.marked, Stt.marked, Cor.markedQ, mrow_len, marks_len] at hL
    try clear h1 h4 h5 h6
    obtain ⟨h1, h4, h5, h6, h26⟩ := hL
    try simp only [go_sem, simprocAttr, Mem.marked, Stt.marked, Cor.markedQ, mrow_len, marks_len]
    clear hK K
    refine awl_cond h26 (fun c2 => ?_) (fun c2 => ?_)
    ·
      try simp only [cnd] at c2
      first | done | (simp at c2; done) | (simp at c2; omega) | omega
    ·
      try simp only [cnd] at c2
      refine awl_skip ?_
      refine awl_seq ?_
      refine awl_seq ?_
      refine awl_regD mixed [(some 27, (.load 46 (.tmp 5)), none), (some 28, (.load 36 (.tmp 1)), none), (some 29, (.call ⟨(.value (.func 20)), #[(.tmp 28)], #[36]⟩), none), (some 30, (.call ⟨(.value (.func 23)), #[(.tmp 27), (.tmp 29)], #[46, 46]⟩), none), (some 31, (.unOp .not 4 (.tmp 30)), none)] rfl fun K hK => ?_
      try simp only [go_sem, simprocAttr, h1, h4, h5, h6, h26, Mem.marked, Stt.marked, Cor.markedQ, mrow_len, marks_len]
      repeat' (refine And.intro (by first | omega | (exact ⟨[0, 0, 2, 7, 15], by kernel_rfl⟩) | kernel_rfl) ?_)
      refine dS_call_ro rfl (sat_laws_toState ?_ ?hp0) ?ha ?hv ?hh ?_
      case ha => simp only [go_sem, simprocAttr, h1, h4, h5, h6, h26, Mem.marked, Stt.marked, Cor.markedQ, mrow_len, marks_len]; first | done | rfl
      case hp0 => first | exact f1.1 | assumption | omega
      case hv => first | rfl | (simp only [go_sem]; done)
      case hh => first | rfl | (simp only [go_sem]; done)
      try simp only [go_sem, simprocAttr, h1, h4, h5, h6, h26, Mem.marked, Stt.marked, Cor.markedQ, mrow_len, marks_len]
      repeat' (refine And.intro (by first | omega | (exact ⟨[0, 0, 2, 7, 15], by kernel_rfl⟩) | kernel_rfl) ?_)
      refine dS_call_ro rfl (sat_laws_eqState s s f1.1) ?ha ?hv ?hh ?_
      case ha => simp only [go_sem, simprocAttr, h1, h4, h5, h6, h26, Mem.marked, Stt.marked, Cor.markedQ, mrow_len, marks_len]; first | done | rfl
      case hv => first | rfl | (simp only [go_sem]; done)
      case hh => first | rfl | (simp only [go_sem]; done)
      try simp only [go_sem, simprocAttr, h1, h4, h5, h6, h26, Mem.marked, Stt.marked, Cor.markedQ, mrow_len, marks_len]
      repeat' (refine And.intro (by first | omega | (exact ⟨[0, 0, 2, 7, 15], by kernel_rfl⟩) | kernel_rfl) ?_)
      refine hK _ _ ⟨_, _, Wk.keep [0, 1, 2, 3, 4, 5, 6, 7, 8, 9, 10, 11, 12, 13, 14, 15, 16] rfl, awl_live' [1, 4, 5, 6, 31] fun ρ hL => ?_⟩
      try simp only [go_sem, simprocAttr, h1, h4, h5, h6, h26, Mem.marked, Stt.marked, Cor.markedQ, mrow_len, marks_len] at hL
      try clear h1 h4 h5 h6 h26
      obtain ⟨h1, h4, h5, h6, h31⟩ := hL
      try simp only [go_sem, simprocAttr, Mem.marked, Stt.marked, Cor.markedQ, mrow_len, marks_len]
      clear hK K
      refine awl_cond h31 (fun c3 => ?_) (fun c3 => ?_)
      ·
        try simp only [cnd] at c3
        first | done | (simp at c3; done) | (simp at c3; omega) | omega
      ·
        try simp only [cnd] at c3
        refine awl_skip ?_
        refine awl_seq ?_
        refine awl_regS [(some 7, (.assign (.const (.int .i64 1))), none)] rfl fun K hK => ?_
        try simp only [go_sem, simprocAttr, h1, h4, h5, h6, h31, Mem.marked, Stt.marked, Cor.markedQ, mrow_len, marks_len]
        repeat' (refine And.intro (by first | exact f1.1 | assumption | omega) ?_)
        refine hK _ _ ⟨_, _, Wk.keep [0, 1, 2, 3, 4, 5, 6, 7, 8, 9, 10, 11, 12, 13, 14, 15, 16] rfl, awl_live' [1, 4, 5, 6, 7] fun ρ hL => ?_⟩
        try simp only [go_sem, simprocAttr, h1, h4, h5, h6, h31, Mem.marked, Stt.marked, Cor.markedQ, mrow_len, marks_len] at hL
        try clear h1 h4 h5 h6 h31
        obtain ⟨h1, h4, h5, h6, h7⟩ := hL
        try simp only [go_sem, simprocAttr, Mem.marked, Stt.marked, Cor.markedQ, mrow_len, marks_len]
        clear hK K
        refine awl_seq ?_
        refine awl_regS [(some 32, (.load 46 (.tmp 5)), none), (some 33, (.move (.tmp 7)), none), (some 34, (.call ⟨(.value (.func 24)), #[(.tmp 32), (.tmp 33)], #[46, 3]⟩), none), (some 7, (.assign (.tmp 34)), none)] rfl fun K hK => ?_
        try simp only [go_sem, simprocAttr, h1, h4, h5, h6, h7, Mem.marked, Stt.marked, Cor.markedQ, mrow_len, marks_len]
        repeat' (refine And.intro (by first | exact f1.1 | assumption | omega) ?_)
        refine opS_call_in [8, 9, 10] rfl (sat_laws_markState s 1 f1.1 (by decide)) ?ha ?hb ?hv ?hh (by decide) rfl ?_
        case ha => simp only [go_sem, simprocAttr, h1, h4, h5, h6, h7, Mem.marked, Stt.marked, Cor.markedQ, mrow_len, marks_len]; first | done | rfl
        case hb => simp only [go_sem, simprocAttr, h1, h4, h5, h6, h7, Mem.marked, Stt.marked, Cor.markedQ, mrow_len, marks_len]; first | done | rfl
        case hv => first | rfl | (simp only [go_sem]; done)
        case hh => first | rfl | (simp only [go_sem]; done)
        try simp only [go_sem, simprocAttr, h1, h4, h5, h6, h7, Mem.marked, Stt.marked, Cor.markedQ, mrow_len, marks_len]
        repeat' (refine And.intro (by first | exact f1.1 | assumption | omega) ?_)
        refine hK _ _ ⟨_, _, Wk.keep [0, 1, 2, 3, 4, 5, 6, 11, 12, 13, 14, 15, 16] rfl, awl_live' [1, 4, 6, 7] fun ρ hL => ?_⟩
        try simp only [go_sem, simprocAttr, h1, h4, h5, h6, h7, Mem.marked, Stt.marked, Cor.markedQ, mrow_len, marks_len] at hL
        try clear h1 h4 h5 h6 h7
        obtain ⟨h1, h4, h6, h7⟩ := hL
        try simp only [go_sem, simprocAttr, Mem.marked, Stt.marked, Cor.markedQ, mrow_len, marks_len]
        clear hK K
        refine awl_seq ?_
        refine awl_seq ?_
        refine awl_regS [(some 35, (.move (.tmp 7)), none), (some 36, (.binOp .lss 3 (.tmp 35) (.const (.int .i64 0)) 3), none), (some 37, (.move (.tmp 36)), none), (some 38, (.load 61 (.tmp 6)), some (37, false)), (some 39, (.load 61 (.tmp 4)), some (37, false)), (some 40, (.call ⟨(.value (.func 33)), #[(.tmp 38), (.tmp 39)], #[61, 61]⟩), some (37, false)), (some 41, (.unOp .not 4 (.tmp 40)), some (37, false)), (some 42, (.pick (.tmp 37) (.const (.bool true)) (.tmp 41)), none)] rfl fun K hK => ?_
        try simp only [go_sem, simprocAttr, h1, h4, h6, h7, Mem.marked, Stt.marked, Cor.markedQ, mrow_len, marks_len]
        repeat' (refine And.intro (by first | exact f1.1 | assumption | omega) ?_)
        refine awpS_live [1, 4, 6, 37] fun ρ hL => ?_
        try simp only [go_sem, simprocAttr, h1, h4, h6, h7, Mem.marked, Stt.marked, Cor.markedQ, mrow_len, marks_len] at hL
        try clear h1 h4 h6 h7
        obtain ⟨h1, h4, h6, h37⟩ := hL
        refine grp_orN (tc := 37) (tv := 41) (td := 42) (v := ?v1) 4 rfl [1, 4, 6] h37 rfl (fun hb K1 hK1 => ?run) (fun hb => ?skip) (fun ρ hP hL => ?_)
        case skip =>
          exact awpS_skip (want := false) (b := _) (by rw [hb]; rfl) _ [] ρ h37 (fun _ _ => rfl) (by simp) rfl
        case run =>
          simp only [List.take_succ_cons, List.take_zero]
          rw [hb] at h37
          try simp only [go_sem, simprocAttr, h1, h4, h6, h37, Mem.marked, Stt.marked, Cor.markedQ, mrow_len, marks_len]
          repeat' (refine And.intro (by first | exact f1.1 | assumption | omega) ?_)
          refine opS_call_ro rfl (sat_laws_eqCore (corNew s) (corNew s) f3) ?ha ?hv ?hh ?_
          case ha => simp only [go_sem, simprocAttr, h1, h4, h6, h37, Mem.marked, Stt.marked, Cor.markedQ, mrow_len, marks_len]; first | done | rfl
          case hv => first | rfl | (simp only [go_sem]; done)
          case hh => first | rfl | (simp only [go_sem]; done)
          try simp only [go_sem, simprocAttr, h1, h4, h6, h37, Mem.marked, Stt.marked, Cor.markedQ, mrow_len, marks_len]
          repeat' (refine And.intro (by first | exact f1.1 | assumption | omega) ?_)
          exact hK1 _ (by simp only [go_sem, simprocAttr, h1, h4, h6, h37, Mem.marked, Stt.marked, Cor.markedQ, mrow_len, marks_len]) (by simp only [go_sem, simprocAttr, h1, h4, h6, h37, Mem.marked, Stt.marked, Cor.markedQ, mrow_len, marks_len]; exact rfl) (by simp only [go_sem, simprocAttr, h1, h4, h6, h37, Mem.marked, Stt.marked, Cor.markedQ, mrow_len, marks_len])
        simp only [List.drop_succ_cons, List.drop_zero]
        try simp only [go_sem, simprocAttr, h1, h4, h6, h37, Mem.marked, Stt.marked, Cor.markedQ, mrow_len, marks_len] at hL
        try clear h1 h4 h6 h37
        obtain ⟨h1, h4, h6⟩ := hL
        have h42 := hP
        clear hP
        try simp only [go_sem, simprocAttr, h1, h4, h6, h42, Mem.marked, Stt.marked, Cor.markedQ, mrow_len, marks_len]
        repeat' (refine And.intro (by first | exact f1.1 | assumption | omega) ?_)
        refine hK _ _ ⟨_, _, Wk.keep [0, 1, 2, 3, 4, 5, 6, 7, 8, 9, 10, 11, 12] rfl, awl_live' [1, 4, 6, 42] fun ρ hL => ?_⟩
        try simp only [go_sem, simprocAttr, h1, h4, h6, h42, Mem.marked, Stt.marked, Cor.markedQ, mrow_len, marks_len] at hL
        try clear h1 h4 h6 h42
        obtain ⟨h1, h4, h6, h42⟩ := hL
        try simp only [go_sem, simprocAttr, Mem.marked, Stt.marked, Cor.markedQ, mrow_len, marks_len]
        clear hK K
        refine awl_cond h42 (fun c4 => ?_) (fun c4 => ?_)
        ·
          try simp only [cnd] at c4
          first | done | (simp at c4; done) | (simp at c4; omega) | omega
        ·
          try simp only [cnd] at c4
          refine awl_skip ?_
          refine awl_seq ?_
          refine awl_regS [(some 8, (.assign (.const (.int .i64 1))), none)] rfl fun K hK => ?_
          try simp only [go_sem, simprocAttr, h1, h4, h6, h42, Mem.marked, Stt.marked, Cor.markedQ, mrow_len, marks_len]
          repeat' (refine And.intro (by first | exact f1.1 | assumption | omega) ?_)
          refine hK _ _ ⟨_, _, Wk.keep [0, 1, 2, 3, 4, 5, 6, 7, 8, 9, 10, 11, 12] rfl, awl_live' [1, 4, 6, 8] fun ρ hL => ?_⟩
          try simp only [go_sem, simprocAttr, h1, h4, h6, h42, Mem.marked, Stt.marked, Cor.markedQ, mrow_len, marks_len] at hL
          try clear h1 h4 h6 h42
          obtain ⟨h1, h4, h6, h8⟩ := hL
          try simp only [go_sem, simprocAttr, Mem.marked, Stt.marked, Cor.markedQ, mrow_len, marks_len]
          clear hK K
          refine awl_seq ?_
          refine awl_regS [(some 43, (.load 61 (.tmp 6)), none), (some 44, (.move (.tmp 8)), none), (some 45, (.call ⟨(.value (.func 42)), #[(.tmp 43), (.tmp 44)], #[61, 3]⟩), none), (some 8, (.assign (.tmp 45)), none)] rfl fun K hK => ?_
          try simp only [go_sem, simprocAttr, h1, h4, h6, h8, Mem.marked, Stt.marked, Cor.markedQ, mrow_len, marks_len]
          repeat' (refine And.intro (by first | exact f1.1 | assumption | omega) ?_)
          refine opS_call_in [8, 9, 10, 11, 12] rfl (sat_laws_markCore (corNew s) 1 f3 (by decide)) ?ha ?hb ?hv ?hh (by decide) rfl ?_
          case ha => simp only [go_sem, simprocAttr, h1, h4, h6, h8, Mem.marked, Stt.marked, Cor.markedQ, mrow_len, marks_len]; first | done | rfl
          case hb => simp only [go_sem, simprocAttr, h1, h4, h6, h8, Mem.marked, Stt.marked, Cor.markedQ, mrow_len, marks_len]; first | done | rfl
          case hv => first | rfl | (simp only [go_sem]; done)
          case hh => first | rfl | (simp only [go_sem]; done)
          try simp only [go_sem, simprocAttr, h1, h4, h6, h8, Mem.marked, Stt.marked, Cor.markedQ, mrow_len, marks_len]
          repeat' (refine And.intro (by first | exact f1.1 | assumption | omega) ?_)
          refine hK _ _ ⟨_, _, Wk.keep [0, 1, 2, 3, 4, 5, 6, 7, 8, 9, 10, 11, 12] rfl, awl_live' [1, 4, 6, 8] fun ρ hL => ?_⟩
          try simp only [go_sem, simprocAttr, h1, h4, h6, h8, Mem.marked, Stt.marked, Cor.markedQ, mrow_len, marks_len] at hL
          try clear h1 h4 h6 h8
          obtain ⟨h1, h4, h6, h8⟩ := hL
          try simp only [go_sem, simprocAttr, Mem.marked, Stt.marked, Cor.markedQ, mrow_len, marks_len]
          clear hK K
          refine awl_seq ?_
          refine awl_regS [(some 9, (.assign (.const (.int .i64 1))), none)] rfl fun K hK => ?_
          try simp only [go_sem, simprocAttr, h1, h4, h6, h8, Mem.marked, Stt.marked, Cor.markedQ, mrow_len, marks_len]
          repeat' (refine And.intro (by first | exact f1.1 | assumption | omega) ?_)
          refine hK _ _ ⟨_, _, Wk.keep [0, 1, 2, 3, 4, 5, 6, 7, 8, 9, 10, 11, 12] rfl, awl_live' [1, 4, 6, 8, 9] fun ρ hL => ?_⟩
          try simp only [go_sem, simprocAttr, h1, h4, h6, h8, Mem.marked, Stt.marked, Cor.markedQ, mrow_len, marks_len] at hL
          try clear h1 h4 h6 h8
          obtain ⟨h1, h4, h6, h8, h9⟩ := hL
          try simp only [go_sem, simprocAttr, Mem.marked, Stt.marked, Cor.markedQ, mrow_len, marks_len]
          clear hK K
          refine awl_seq ?_
          refine awl_regS [(some 46, (.load 61 (.tmp 6)), none), (some 47, (.move (.tmp 9)), none), (some 48, (.call ⟨(.value (.func 49)), #[(.tmp 46), (.tmp 47)], #[61, 3]⟩), none), (some 9, (.assign (.tmp 48)), none)] rfl fun K hK => ?_
          try simp only [go_sem, simprocAttr, h1, h4, h6, h8, h9, Mem.marked, Stt.marked, Cor.markedQ, mrow_len, marks_len]
          repeat' (refine And.intro (by first | exact f1.1 | assumption | omega) ?_)
          refine opS_call_ro rfl (sat_laws_heldCore (corNew s) 1 f3 (by decide)) ?ha ?hv ?hh ?_
          case ha => simp only [go_sem, simprocAttr, h1, h4, h6, h8, h9, Mem.marked, Stt.marked, Cor.markedQ, mrow_len, marks_len]; first | done | rfl
          case hv => first | rfl | (simp only [go_sem]; done)
          case hh => first | rfl | (simp only [go_sem]; done)
          try simp only [go_sem, simprocAttr, h1, h4, h6, h8, h9, Mem.marked, Stt.marked, Cor.markedQ, mrow_len, marks_len]
          repeat' (refine And.intro (by first | exact f1.1 | assumption | omega) ?_)
          refine hK _ _ ⟨_, _, Wk.keep [0, 1, 2, 3, 4, 5, 6, 7, 8, 9, 10, 11, 12] rfl, awl_live' [1, 4, 6, 8, 9] fun ρ hL => ?_⟩
          try simp only [go_sem, simprocAttr, h1, h4, h6, h8, h9, Mem.marked, Stt.marked, Cor.markedQ, mrow_len, marks_len] at hL
          try clear h1 h4 h6 h8 h9
          obtain ⟨h1, h4, h6, h8, h9⟩ := hL
          try simp only [go_sem, simprocAttr, Mem.marked, Stt.marked, Cor.markedQ, mrow_len, marks_len]
          clear hK K
          refine awl_seq ?_
          refine awl_seq ?_
          refine awl_regS [(some 49, (.move (.tmp 9)), none), (some 50, (.binOp .lss 3 (.tmp 49) (.const (.int .i64 0)) 3), none)] rfl fun K hK => ?_
          try simp only [go_sem, simprocAttr, h1, h4, h6, h8, h9, Mem.marked, Stt.marked, Cor.markedQ, mrow_len, marks_len]
          repeat' (refine And.intro (by first | exact f1.1 | assumption | omega) ?_)
          refine hK _ _ ⟨_, _, Wk.keep [0, 1, 2, 3, 4, 5, 6, 7, 8, 9, 10, 11, 12] rfl, awl_live' [1, 4, 6, 8, 9, 50] fun ρ hL => ?_⟩
          try simp only [go_sem, simprocAttr, h1, h4, h6, h8, h9, Mem.marked, Stt.marked, Cor.markedQ, mrow_len, marks_len] at hL
          try clear h1 h4 h6 h8 h9
          obtain ⟨h1, h4, h6, h8, h9, h50⟩ := hL
          try simp only [go_sem, simprocAttr, Mem.marked, Stt.marked, Cor.markedQ, mrow_len, marks_len]
          clear hK K
          refine awl_cond h50 (fun c5 => ?_) (fun c5 => ?_)
          ·
            try simp only [cnd] at c5
            first | done | (simp at c5; done) | (simp at c5; omega) | omega
          ·
            try simp only [cnd] at c5
            refine awl_skip ?_
            refine awl_seq ?_
            refine awl_seq ?_
            refine awl_regS [(some 51, (.move (.tmp 9)), none), (some 52, (.move (.tmp 8)), none), (some 53, (.binOp .neq 3 (.tmp 51) (.tmp 52) 3), none)] rfl fun K hK => ?_
            try simp only [go_sem, simprocAttr, h1, h4, h6, h8, h9, h50, Mem.marked, Stt.marked, Cor.markedQ, mrow_len, marks_len]
            repeat' (refine And.intro (by first | exact f1.1 | assumption | omega) ?_)
            refine hK _ _ ⟨_, _, Wk.keep [0, 1, 2, 3, 4, 5, 6, 7, 8, 9, 10, 11, 12] rfl, awl_live' [1, 4, 6, 8, 53] fun ρ hL => ?_⟩
            try simp only [go_sem, simprocAttr, h1, h4, h6, h8, h9, h50, Mem.marked, Stt.marked, Cor.markedQ, mrow_len, marks_len] at hL
            try clear h1 h4 h6 h8 h9 h50
            obtain ⟨h1, h4, h6, h8, h53⟩ := hL
            try simp only [go_sem, simprocAttr, Mem.marked, Stt.marked, Cor.markedQ, mrow_len, marks_len]
            clear hK K
            refine awl_cond h53 (fun c6 => ?_) (fun c6 => ?_)
            ·
              try simp only [cnd] at c6
              first | done | (simp at c6; done) | (simp at c6; omega) | omega
            ·
              try simp only [cnd] at c6
              refine awl_skip ?_
              refine awl_seq ?_
              refine awl_regS [(some 54, (.load 36 (.tmp 1)), none), (some 55, (.call ⟨(.value (.func 20)), #[(.tmp 54)], #[36]⟩), none), (some 56, (.call ⟨(.value (.func 48)), #[(.tmp 55)], #[46]⟩), none), (some 10, (.alloc 61), none), (none, (.store 61 (.tmp 10) (.tmp 56)), none)] rfl fun K hK => ?_
              try simp only [go_sem, simprocAttr, h1, h4, h6, h8, h53, Mem.marked, Stt.marked, Cor.markedQ, mrow_len, marks_len]
              repeat' (refine And.intro (by first | exact f1.1 | assumption | omega) ?_)
              refine opS_call_ro rfl (sat_laws_toState ?_ ?hp0) ?ha ?hv ?hh ?_
              case ha => simp only [go_sem, simprocAttr, h1, h4, h6, h8, h53, Mem.marked, Stt.marked, Cor.markedQ, mrow_len, marks_len]; first | done | rfl
              case hp0 => first | exact f1.1 | assumption | omega
              case hv => first | rfl | (simp only [go_sem]; done)
              case hh => first | rfl | (simp only [go_sem]; done)
              try simp only [go_sem, simprocAttr, h1, h4, h6, h8, h53, Mem.marked, Stt.marked, Cor.markedQ, mrow_len, marks_len]
              repeat' (refine And.intro (by first | exact f1.1 | assumption | omega) ?_)
              refine opS_call_ro rfl (sat_impl_CoreNew ?_ ?hp0) ?ha ?hv ?hh ?_
              case ha => simp only [go_sem, simprocAttr, h1, h4, h6, h8, h53, Mem.marked, Stt.marked, Cor.markedQ, mrow_len, marks_len]; first | done | rfl
              case hp0 => first | exact f1.1 | assumption | omega
              case hv => first | rfl | (simp only [go_sem]; done)
              case hh => first | rfl | (simp only [go_sem]; done)
              try simp only [go_sem, simprocAttr, h1, h4, h6, h8, h53, Mem.marked, Stt.marked, Cor.markedQ, mrow_len, marks_len]
              repeat' (refine And.intro (by first | exact f1.1 | assumption | omega) ?_)
              refine hK _ _ ⟨_, _, Wk.keep [1, 2, 3, 4, 5, 6, 7, 8, 9, 10, 11, 12, 21, 16, 17, 18, 19, 20] rfl, awl_live' [4, 6, 8, 10] fun ρ hL => ?_⟩
              try simp only [go_sem, simprocAttr, h1, h4, h6, h8, h53, Mem.marked, Stt.marked, Cor.markedQ, mrow_len, marks_len] at hL
              try clear h1 h4 h6 h8 h53
              obtain ⟨h4, h6, h8, h10⟩ := hL
              try simp only [go_sem, simprocAttr, Mem.marked, Stt.marked, Cor.markedQ, mrow_len, marks_len]
              clear hK K
              refine awl_seq ?_
              refine awl_seq ?_
              refine awl_regS [(some 57, (.load 61 (.tmp 10)), none), (some 58, (.load 61 (.tmp 4)), none), (some 59, (.call ⟨(.value (.func 33)), #[(.tmp 57), (.tmp 58)], #[61, 61]⟩), none), (some 60, (.unOp .not 4 (.tmp 59)), none)] rfl fun K hK => ?_
              try simp only [go_sem, simprocAttr, h4, h6, h8, h10, Mem.marked, Stt.marked, Cor.markedQ, mrow_len, marks_len]
              repeat' (refine And.intro (by first | exact f1.1 | assumption | omega) ?_)
              refine opS_call_ro rfl (sat_laws_eqCore (corNew s) (corNew s) f3) ?ha ?hv ?hh ?_
              case ha => simp only [go_sem, simprocAttr, h4, h6, h8, h10, Mem.marked, Stt.marked, Cor.markedQ, mrow_len, marks_len]; first | done | rfl
              case hv => first | rfl | (simp only [go_sem]; done)
              case hh => first | rfl | (simp only [go_sem]; done)
              try simp only [go_sem, simprocAttr, h4, h6, h8, h10, Mem.marked, Stt.marked, Cor.markedQ, mrow_len, marks_len]
              repeat' (refine And.intro (by first | exact f1.1 | assumption | omega) ?_)
              refine hK _ _ ⟨_, _, Wk.keep [6, 7, 8, 9, 10, 11] rfl, awl_live' [6, 8, 60] fun ρ hL => ?_⟩
              try simp only [go_sem, simprocAttr, h4, h6, h8, h10, Mem.marked, Stt.marked, Cor.markedQ, mrow_len, marks_len] at hL
              try clear h4 h6 h8 h10
              obtain ⟨h6, h8, h60⟩ := hL
              try simp only [go_sem, simprocAttr, Mem.marked, Stt.marked, Cor.markedQ, mrow_len, marks_len]
              clear hK K
              refine awl_cond h60 (fun c7 => ?_) (fun c7 => ?_)
              ·
                try simp only [cnd] at c7
                first | done | (simp at c7; done) | (simp at c7; omega) | omega
              ·
                try simp only [cnd] at c7
                refine awl_skip ?_
                refine awl_seq ?_
                refine awl_regS [(some 9, (.assign (.const (.int .i64 1))), none)] rfl fun K hK => ?_
                try simp only [go_sem, simprocAttr, h6, h8, h60, Mem.marked, Stt.marked, Cor.markedQ, mrow_len, marks_len]
                repeat' (refine And.intro (by first | exact f1.1 | assumption | omega) ?_)
                refine hK _ _ ⟨_, _, Wk.keep [0, 1, 2, 3, 4, 5] rfl, awl_live' [6, 8, 9] fun ρ hL => ?_⟩
                try simp only [go_sem, simprocAttr, h6, h8, h60, Mem.marked, Stt.marked, Cor.markedQ, mrow_len, marks_len] at hL
                try clear h6 h8 h60
                obtain ⟨h6, h8, h9⟩ := hL
                try simp only [go_sem, simprocAttr, Mem.marked, Stt.marked, Cor.markedQ, mrow_len, marks_len]
                clear hK K
                refine awl_seq ?_
                refine awl_regS [(some 61, (.load 61 (.tmp 6)), none), (some 62, (.move (.tmp 9)), none), (some 63, (.call ⟨(.value (.func 49)), #[(.tmp 61), (.tmp 62)], #[61, 3]⟩), none), (some 9, (.assign (.tmp 63)), none)] rfl fun K hK => ?_
                try simp only [go_sem, simprocAttr, h6, h8, h9, Mem.marked, Stt.marked, Cor.markedQ, mrow_len, marks_len]
                repeat' (refine And.intro (by first | exact f1.1 | assumption | omega) ?_)
                refine opS_call_ro rfl (sat_laws_heldCore (corNew s) 1 f3 (by decide)) ?ha ?hv ?hh ?_
                case ha => simp only [go_sem, simprocAttr, h6, h8, h9, Mem.marked, Stt.marked, Cor.markedQ, mrow_len, marks_len]; first | done | rfl
                case hv => first | rfl | (simp only [go_sem]; done)
                case hh => first | rfl | (simp only [go_sem]; done)
                try simp only [go_sem, simprocAttr, h6, h8, h9, Mem.marked, Stt.marked, Cor.markedQ, mrow_len, marks_len]
                repeat' (refine And.intro (by first | exact f1.1 | assumption | omega) ?_)
                refine hK _ _ ⟨_, _, Wk.keep [] rfl, awl_live' [8, 9] fun ρ hL => ?_⟩
                try simp only [go_sem, simprocAttr, h6, h8, h9, Mem.marked, Stt.marked, Cor.markedQ, mrow_len, marks_len] at hL
                try clear h6 h8 h9
                obtain ⟨h8, h9⟩ := hL
                try simp only [go_sem, simprocAttr, Mem.marked, Stt.marked, Cor.markedQ, mrow_len, marks_len]
                clear hK K
                refine awl_seq ?_
                refine awl_seq ?_
                refine awl_regS [(some 64, (.move (.tmp 9)), none), (some 65, (.binOp .lss 3 (.tmp 64) (.const (.int .i64 0)) 3), none)] rfl fun K hK => ?_
                try simp only [go_sem, simprocAttr, h8, h9, Mem.marked, Stt.marked, Cor.markedQ, mrow_len, marks_len]
                repeat' (refine And.intro (by first | exact f1.1 | assumption | omega) ?_)
                refine hK _ _ ⟨_, _, Wk.keep [] rfl, awl_live' [8, 9, 65] fun ρ hL => ?_⟩
                try simp only [go_sem, simprocAttr, h8, h9, Mem.marked, Stt.marked, Cor.markedQ, mrow_len, marks_len] at hL
                try clear h8 h9
                obtain ⟨h8, h9, h65⟩ := hL
                try simp only [go_sem, simprocAttr, Mem.marked, Stt.marked, Cor.markedQ, mrow_len, marks_len]
                clear hK K
                refine awl_cond h65 (fun c8 => ?_) (fun c8 => ?_)
                ·
                  try simp only [cnd] at c8
                  first | done | (simp at c8; done) | (simp at c8; omega) | omega
                ·
                  try simp only [cnd] at c8
                  refine awl_skip ?_
                  refine awl_seq ?_
                  refine awl_seq ?_
                  refine awl_regS [(some 66, (.move (.tmp 9)), none), (some 67, (.move (.tmp 8)), none), (some 68, (.binOp .neq 3 (.tmp 66) (.tmp 67) 3), none)] rfl fun K hK => ?_
                  try simp only [go_sem, simprocAttr, h8, h9, h65, Mem.marked, Stt.marked, Cor.markedQ, mrow_len, marks_len]
                  repeat' (refine And.intro (by first | exact f1.1 | assumption | omega) ?_)
                  refine hK _ _ ⟨_, _, Wk.keep [] rfl, awl_live' [68] fun ρ hL => ?_⟩
                  try simp only [go_sem, simprocAttr, h8, h9, h65, Mem.marked, Stt.marked, Cor.markedQ, mrow_len, marks_len] at hL
                  try clear h8 h9 h65
                  have h68 := hL
                  clear hL
                  try simp only [go_sem, simprocAttr, Mem.marked, Stt.marked, Cor.markedQ, mrow_len, marks_len]
                  clear hK K
                  refine awl_cond h68 (fun c9 => ?_) (fun c9 => ?_)
                  ·
                    try simp only [cnd] at c9
                    first | done | (simp at c9; done) | (simp at c9; omega) | omega
                  ·
                    try simp only [cnd] at c9
                    refine awl_skip ?_
                    refine awl_seq ?_
                    refine awl_regS [(some 2, (.assign (.const (.bool true))), none)] rfl fun K hK => ?_
                    try simp only [go_sem, simprocAttr, h68, Mem.marked, Stt.marked, Cor.markedQ, mrow_len, marks_len]
                    repeat' (refine And.intro (by first | exact f1.1 | assumption | omega) ?_)
                    refine hK _ _ ⟨_, _, Wk.keep [] rfl, awl_live' [2] fun ρ hL => ?_⟩
                    try simp only [go_sem, simprocAttr, h68, Mem.marked, Stt.marked, Cor.markedQ, mrow_len, marks_len] at hL
                    try clear h68
                    have h2 := hL
                    clear hL
                    try simp only [go_sem, simprocAttr, Mem.marked, Stt.marked, Cor.markedQ, mrow_len, marks_len]
                    clear hK K
                    refine awl_ret ?_
                    refine ret0 (by simp only [go_sem, simprocAttr, h2, Mem.marked, Stt.marked, Cor.markedQ, mrow_len, marks_len]; exact rfl) ?_
                    try simp only [go_sem, simprocAttr]
                    all_goals (rfl)
end Go.Proofs.Ytgddflnhibhacaa.AM
