/- The law Ready. No conditions but those each theorem bears. -/
import Derived.Test.YtgddflnhibhacaaFa
import Derived.Test.YtgddflnhibhacaaCa13
import Derived.Test.YtgddflnhibhacaaCa17
set_option linter.unusedSimpArgs false
set_option linter.unusedVariables false
namespace Go.Proofs.Ytgddflnhibhacaa.AM
open Go

set_option maxHeartbeats 8000000 in
set_option maxRecDepth 100000 in
theorem sat_laws_FnExactReady (c : Cor) (i : Int) (hs : c.sm) : Sat Try.prog 11 [.agg c.cells, .int .i64 i] [] (.bool true) [] := by
  refine sat_mk [.tmp 4] 0 31 Try.call11 Try.func11 Try.ntmps11 rfl rfl rfl rfl rfl ?_
  refine awl_live' [0, 1] fun ρ hL => ?_
  try simp only [go_sem, simprocAttr] at hL
  obtain ⟨h0, h1⟩ := hL
  refine awl_seq ?_
  refine awl_regS [(some 2, (.box 56 (.tmp 0)), none), (some 4, (.assign (.const (.bool false))), none)] rfl fun K hK => ?_
  try simp only [go_sem, simprocAttr, h0, h1]
  repeat' (refine And.intro (by first | exact f1.1 | assumption) ?_)
  refine hK _ _ ⟨_, _, Wk.keep [0] rfl, awl_live' [1, 2] fun ρ hL => ?_⟩
  try simp only [go_sem, simprocAttr, h0, h1] at hL
  try clear h0 h1
  obtain ⟨h1, h2⟩ := hL
  try simp only [go_sem, simprocAttr]
  clear hK K
  refine awl_seq ?_
  refine awl_regS [(some 5, (.assign (.const (.int .i64 1048576))), none)] rfl fun K hK => ?_
  try simp only [go_sem, simprocAttr, h1, h2]
  repeat' (refine And.intro (by first | exact f1.1 | assumption) ?_)
  refine hK _ _ ⟨_, _, Wk.keep [0] rfl, awl_live' [1, 2, 5] fun ρ hL => ?_⟩
  try simp only [go_sem, simprocAttr, h1, h2] at hL
  try clear h1 h2
  obtain ⟨h1, h2, h5⟩ := hL
  try simp only [go_sem, simprocAttr]
  clear hK K
  refine awl_seq ?_
  refine awl_regS [(some 9, (.load 56 (.tmp 2)), none), (some 10, (.move (.tmp 5)), none), (some 11, (.call ⟨(.value (.func 29)), #[(.tmp 9), (.tmp 10)], #[56, 3]⟩), none), (some 5, (.assign (.tmp 11)), none)] rfl fun K hK => ?_
  try simp only [go_sem, simprocAttr, h1, h2, h5]
  repeat' (refine And.intro (by first | exact f1.1 | assumption) ?_)
  refine opS_call_ro rfl (sat_laws_szCore c 1048576 hs ⟨by decide, by decide⟩) ?ha ?hv ?hh ?_
  case ha => simp only [go_sem, simprocAttr, h1, h2, h5]; first | done | rfl
  case hv => first | rfl | (simp only [go_sem]; done)
  case hh => first | rfl | (simp only [go_sem]; done)
  try simp only [go_sem, simprocAttr, h1, h2, h5]
  repeat' (refine And.intro (by first | exact f1.1 | assumption) ?_)
  refine hK _ _ ⟨_, _, Wk.keep [0] rfl, awl_live' [1, 2, 5] fun ρ hL => ?_⟩
  try simp only [go_sem, simprocAttr, h1, h2, h5] at hL
  try clear h1 h2 h5
  obtain ⟨h1, h2, h5⟩ := hL
  try simp only [go_sem, simprocAttr]
  clear hK K
  refine awl_seq ?_
  refine awl_seq ?_
  refine awl_regS [(some 12, (.move (.tmp 5)), none), (some 13, (.binOp .lss 3 (.tmp 12) (.const (.int .i64 0)) 3), none)] rfl fun K hK => ?_
  try simp only [go_sem, simprocAttr, h1, h2, h5]
  repeat' (refine And.intro (by first | exact f1.1 | assumption) ?_)
  refine hK _ _ ⟨_, _, Wk.keep [0] rfl, awl_live' [1, 2, 13] fun ρ hL => ?_⟩
  try simp only [go_sem, simprocAttr, h1, h2, h5] at hL
  try clear h1 h2 h5
  obtain ⟨h1, h2, h13⟩ := hL
  try simp only [go_sem, simprocAttr]
  clear hK K
  refine awl_cond h13 (fun c1 => ?_) (fun c1 => ?_)
  ·
    try simp only [cnd] at c1
    refine awl_seq ?_
    refine awl_regS [(some 4, (.assign (.const (.bool true))), none)] rfl fun K hK => ?_
    try simp only [go_sem, simprocAttr, h1, h2, h13]
    repeat' (refine And.intro (by first | exact f1.1 | assumption) ?_)
    refine hK _ _ ⟨_, _, Wk.keep [] rfl, awl_live' [4] fun ρ hL => ?_⟩
    try simp only [go_sem, simprocAttr, h1, h2, h13] at hL
    try clear h1 h2 h13
    have h4 := hL
    clear hL
    try simp only [go_sem, simprocAttr]
    clear hK K
    refine awl_ret ?_
    refine ret0 (by simp only [go_sem, simprocAttr, h4]; exact rfl) ?_
    try simp only [go_sem, simprocAttr]
    all_goals (rfl)
  ·
    try simp only [cnd] at c1
    have f1 := szC_ok (l := 1048576) ⟨by decide, by decide⟩ c1
    refine awl_skip ?_
    refine awl_seq ?_
    refine awl_regS [(some 14, (.load 56 (.tmp 2)), none), (some 15, (.call ⟨(.value (.func 31)), #[(.tmp 14)], #[56]⟩), none), (some 16, (.move (.tmp 1)), none), (some 17, (.call ⟨(.value (.func 45)), #[(.tmp 15), (.tmp 16)], #[61, 3]⟩), none), (some 6, (.assign (.tmp 17)), none)] rfl fun K hK => ?_
    try simp only [go_sem, simprocAttr, h1, h2, h13]
    repeat' (refine And.intro (by first | exact f1.1 | assumption) ?_)
    refine opS_call_ro rfl (sat_laws_toCore ?_ ?hp0) ?ha ?hv ?hh ?_
    case ha => simp only [go_sem, simprocAttr, h1, h2, h13]; first | done | rfl
    case hp0 => first | exact f1.1 | assumption
    case hv => first | rfl | (simp only [go_sem]; done)
    case hh => first | rfl | (simp only [go_sem]; done)
    try simp only [go_sem, simprocAttr, h1, h2, h13]
    repeat' (refine And.intro (by first | exact f1.1 | assumption) ?_)
    refine opS_call_ro rfl (sat_spec_Ready ?_ ?_ ?hp0) ?ha ?hv ?hh ?_
    case ha => simp only [go_sem, simprocAttr, h1, h2, h13]; first | done | rfl
    case hp0 => first | exact f1.1 | assumption
    case hv => first | rfl | (simp only [go_sem]; done)
    case hh => first | rfl | (simp only [go_sem]; done)
    try simp only [go_sem, simprocAttr, h1, h2, h13]
    repeat' (refine And.intro (by first | exact f1.1 | assumption) ?_)
    refine hK _ _ ⟨_, _, Wk.keep [0] rfl, awl_live' [1, 2, 6] fun ρ hL => ?_⟩
    try simp only [go_sem, simprocAttr, h1, h2, h13] at hL
    try clear h1 h2 h13
    obtain ⟨h1, h2, h6⟩ := hL
    try simp only [go_sem, simprocAttr]
    clear hK K
    refine awl_seq ?_
    refine awl_regS [(some 18, (.load 56 (.tmp 2)), none), (some 19, (.call ⟨(.value (.func 31)), #[(.tmp 18)], #[56]⟩), none), (some 7, (.alloc 61), none), (none, (.store 61 (.tmp 7) (.tmp 19)), none)] rfl fun K hK => ?_
    try simp only [go_sem, simprocAttr, h1, h2, h6]
    repeat' (refine And.intro (by first | exact f1.1 | assumption) ?_)
    refine opS_call_ro rfl (sat_laws_toCore ?_ ?hp0) ?ha ?hv ?hh ?_
    case ha => simp only [go_sem, simprocAttr, h1, h2, h6]; first | done | rfl
    case hp0 => first | exact f1.1 | assumption
    case hv => first | rfl | (simp only [go_sem]; done)
    case hh => first | rfl | (simp only [go_sem]; done)
    try simp only [go_sem, simprocAttr, h1, h2, h6]
    repeat' (refine And.intro (by first | exact f1.1 | assumption) ?_)
    refine hK _ _ ⟨_, _, Wk.keep [0, 6, 1, 2, 3, 4, 5] rfl, awl_live' [1, 2, 6, 7] fun ρ hL => ?_⟩
    try simp only [go_sem, simprocAttr, h1, h2, h6] at hL
    try clear h1 h2 h6
    obtain ⟨h1, h2, h6, h7⟩ := hL
    try simp only [go_sem, simprocAttr]
    clear hK K
    refine awl_seq ?_
    refine awl_regS [(some 20, (.load 61 (.tmp 7)), none), (some 21, (.move (.tmp 1)), none), (some 22, (.call ⟨(.value (.func 46)), #[(.tmp 20), (.tmp 21)], #[61, 3]⟩), none), (some 8, (.assign (.tmp 22)), none)] rfl fun K hK => ?_
    try simp only [go_sem, simprocAttr, h1, h2, h6, h7]
    repeat' (refine And.intro (by first | exact f1.1 | assumption) ?_)
    refine opS_call_ro rfl (sat_impl_Ready ?_ ?_ ?hp0) ?ha ?hv ?hh ?_
    case ha => simp only [go_sem, simprocAttr, h1, h2, h6, h7]; first | done | rfl
    case hp0 => first | exact f1.1 | assumption
    case hv => first | rfl | (simp only [go_sem]; done)
    case hh => first | rfl | (simp only [go_sem]; done)
    try simp only [go_sem, simprocAttr, h1, h2, h6, h7]
    repeat' (refine And.intro (by first | exact f1.1 | assumption) ?_)
    refine hK _ _ ⟨_, _, Wk.keep [0, 1, 2, 3, 4, 5, 6] rfl, awl_live' [2, 6, 7, 8] fun ρ hL => ?_⟩
    try simp only [go_sem, simprocAttr, h1, h2, h6, h7] at hL
    try clear h1 h2 h6 h7
    obtain ⟨h2, h6, h7, h8⟩ := hL
    try simp only [go_sem, simprocAttr]
    clear hK K
    refine awl_seq ?_
    refine awl_seq ?_
    refine awl_regS [(some 23, (.move (.tmp 8)), none), (some 24, (.move (.tmp 6)), none), (some 25, (.binOp .neq 4 (.tmp 23) (.tmp 24) 4), none)] rfl fun K hK => ?_
    try simp only [go_sem, simprocAttr, h2, h6, h7, h8]
    repeat' (refine And.intro (by first | exact f1.1 | assumption) ?_)
    refine hK _ _ ⟨_, _, Wk.keep [0, 1, 2, 3, 4, 5, 6] rfl, awl_live' [2, 7, 25] fun ρ hL => ?_⟩
    try simp only [go_sem, simprocAttr, h2, h6, h7, h8] at hL
    try clear h2 h6 h7 h8
    obtain ⟨h2, h7, h25⟩ := hL
    try simp only [go_sem, simprocAttr]
    clear hK K
    refine awl_cond h25 (fun c2 => ?_) (fun c2 => ?_)
    ·
      try simp only [cnd] at c2
      first | (simp at c2; done) | (simp at c2; omega) | omega
    ·
      try simp only [cnd] at c2
      refine awl_skip ?_
      refine awl_seq ?_
      refine awl_seq ?_
      refine awl_regD mixed [(some 26, (.load 61 (.tmp 7)), none), (some 27, (.load 56 (.tmp 2)), none), (some 28, (.call ⟨(.value (.func 31)), #[(.tmp 27)], #[56]⟩), none), (some 29, (.call ⟨(.value (.func 33)), #[(.tmp 26), (.tmp 28)], #[61, 61]⟩), none), (some 30, (.unOp .not 4 (.tmp 29)), none)] rfl fun K hK => ?_
      try simp only [go_sem, simprocAttr, h2, h7, h25]
      repeat' (refine And.intro (by first | omega | (exact ⟨[0, 0, 2, 7, 15], by kernel_rfl⟩) | kernel_rfl) ?_)
      refine dS_call_ro rfl (sat_laws_toCore ?_ ?hp0) ?ha ?hv ?hh ?_
      case ha => simp only [go_sem, simprocAttr, h2, h7, h25]; first | done | rfl
      case hp0 => first | exact f1.1 | assumption
      case hv => first | rfl | (simp only [go_sem]; done)
      case hh => first | rfl | (simp only [go_sem]; done)
      try simp only [go_sem, simprocAttr, h2, h7, h25]
      repeat' (refine And.intro (by first | omega | (exact ⟨[0, 0, 2, 7, 15], by kernel_rfl⟩) | kernel_rfl) ?_)
      refine dS_call_ro rfl (sat_laws_eqCore ?_ ?_ ?hp0) ?ha ?hv ?hh ?_
      case ha => simp only [go_sem, simprocAttr, h2, h7, h25]; first | done | rfl
      case hp0 => first | exact f1.1 | assumption
      case hv => first | rfl | (simp only [go_sem]; done)
      case hh => first | rfl | (simp only [go_sem]; done)
      try simp only [go_sem, simprocAttr, h2, h7, h25]
      repeat' (refine And.intro (by first | omega | (exact ⟨[0, 0, 2, 7, 15], by kernel_rfl⟩) | kernel_rfl) ?_)
      refine hK _ _ ⟨_, _, Wk.keep [] rfl, awl_live' [30] fun ρ hL => ?_⟩
      try simp only [go_sem, simprocAttr, h2, h7, h25] at hL
      try clear h2 h7 h25
      have h30 := hL
      clear hL
      try simp only [go_sem, simprocAttr]
      clear hK K
      refine awl_cond h30 (fun c3 => ?_) (fun c3 => ?_)
      ·
        try simp only [cnd] at c3
        first | (simp at c3; done) | (simp at c3; omega) | omega
      ·
        try simp only [cnd] at c3
        refine awl_skip ?_
        refine awl_seq ?_
        refine awl_regS [(some 4, (.assign (.const (.bool true))), none)] rfl fun K hK => ?_
        try simp only [go_sem, simprocAttr, h30]
        repeat' (refine And.intro (by first | exact f1.1 | assumption) ?_)
        refine hK _ _ ⟨_, _, Wk.keep [] rfl, awl_live' [4] fun ρ hL => ?_⟩
        try simp only [go_sem, simprocAttr, h30] at hL
        try clear h30
        have h4 := hL
        clear hL
        try simp only [go_sem, simprocAttr]
        clear hK K
        refine awl_ret ?_
        refine ret0 (by simp only [go_sem, simprocAttr, h4]; exact rfl) ?_
        try simp only [go_sem, simprocAttr]
        all_goals (rfl)
end Go.Proofs.Ytgddflnhibhacaa.AM
