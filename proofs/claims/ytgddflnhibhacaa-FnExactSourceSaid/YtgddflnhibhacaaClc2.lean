/- The law Source. No conditions but those each theorem bears. -/
import Derived.Test.YtgddflnhibhacaaFa
import Derived.Test.YtgddflnhibhacaaCa13
import Derived.Test.YtgddflnhibhacaaCa14
set_option linter.unusedSimpArgs false
set_option linter.unusedVariables false
namespace Go.Proofs.Ytgddflnhibhacaa.AM
open Go

set_option maxHeartbeats 8000000 in
set_option maxRecDepth 100000 in
theorem sat_laws_FnExactSource (c : Cor) (i : Int) (r : Int) (hs : c.sm) : Sat Try.prog 6 [.agg c.cells, .int .i64 i, .int .i64 r] [] (.bool true) [] := by
  refine sat_mk [.tmp 6] 0 35 Try.call6 Try.func6 Try.ntmps6 rfl rfl rfl rfl rfl ?_
  refine awl_live' [0, 1, 2] fun ρ hL => ?_
  try simp only [go_sem, simprocAttr] at hL
  obtain ⟨h0, h1, h2⟩ := hL
  refine awl_seq ?_
  refine awl_regS [(some 3, (.box 56 (.tmp 0)), none), (some 6, (.assign (.const (.bool false))), none)] rfl fun K hK => ?_
  try simp only [go_sem, simprocAttr, h0, h1, h2]
  repeat' (refine And.intro (by first | exact f1.1 | assumption) ?_)
  refine hK _ _ ⟨_, _, Wk.keep [0] rfl, awl_live' [1, 2, 3] fun ρ hL => ?_⟩
  try simp only [go_sem, simprocAttr, h0, h1, h2] at hL
  try clear h0 h1 h2
  obtain ⟨h1, h2, h3⟩ := hL
  try simp only [go_sem, simprocAttr]
  clear hK K
  refine awl_seq ?_
  refine awl_regS [(some 7, (.assign (.const (.int .i64 1048576))), none)] rfl fun K hK => ?_
  try simp only [go_sem, simprocAttr, h1, h2, h3]
  repeat' (refine And.intro (by first | exact f1.1 | assumption) ?_)
  refine hK _ _ ⟨_, _, Wk.keep [0] rfl, awl_live' [1, 2, 3, 7] fun ρ hL => ?_⟩
  try simp only [go_sem, simprocAttr, h1, h2, h3] at hL
  try clear h1 h2 h3
  obtain ⟨h1, h2, h3, h7⟩ := hL
  try simp only [go_sem, simprocAttr]
  clear hK K
  refine awl_seq ?_
  refine awl_regS [(some 11, (.load 56 (.tmp 3)), none), (some 12, (.move (.tmp 7)), none), (some 13, (.call ⟨(.value (.func 29)), #[(.tmp 11), (.tmp 12)], #[56, 3]⟩), none), (some 7, (.assign (.tmp 13)), none)] rfl fun K hK => ?_
  try simp only [go_sem, simprocAttr, h1, h2, h3, h7]
  repeat' (refine And.intro (by first | exact f1.1 | assumption) ?_)
  refine opS_call_ro rfl (sat_laws_szCore c 1048576 hs ⟨by decide, by decide⟩) ?ha ?hv ?hh ?_
  case ha => simp only [go_sem, simprocAttr, h1, h2, h3, h7]; first | done | rfl
  case hv => first | rfl | (simp only [go_sem]; done)
  case hh => first | rfl | (simp only [go_sem]; done)
  try simp only [go_sem, simprocAttr, h1, h2, h3, h7]
  repeat' (refine And.intro (by first | exact f1.1 | assumption) ?_)
  refine hK _ _ ⟨_, _, Wk.keep [0] rfl, awl_live' [1, 2, 3, 7] fun ρ hL => ?_⟩
  try simp only [go_sem, simprocAttr, h1, h2, h3, h7] at hL
  try clear h1 h2 h3 h7
  obtain ⟨h1, h2, h3, h7⟩ := hL
  try simp only [go_sem, simprocAttr]
  clear hK K
  refine awl_seq ?_
  refine awl_seq ?_
  refine awl_regS [(some 14, (.move (.tmp 7)), none), (some 15, (.binOp .lss 3 (.tmp 14) (.const (.int .i64 0)) 3), none)] rfl fun K hK => ?_
  try simp only [go_sem, simprocAttr, h1, h2, h3, h7]
  repeat' (refine And.intro (by first | exact f1.1 | assumption) ?_)
  refine hK _ _ ⟨_, _, Wk.keep [0] rfl, awl_live' [1, 2, 3, 15] fun ρ hL => ?_⟩
  try simp only [go_sem, simprocAttr, h1, h2, h3, h7] at hL
  try clear h1 h2 h3 h7
  obtain ⟨h1, h2, h3, h15⟩ := hL
  try simp only [go_sem, simprocAttr]
  clear hK K
  refine awl_cond h15 (fun c1 => ?_) (fun c1 => ?_)
  ·
    try simp only [cnd] at c1
    refine awl_seq ?_
    refine awl_regS [(some 6, (.assign (.const (.bool true))), none)] rfl fun K hK => ?_
    try simp only [go_sem, simprocAttr, h1, h2, h3, h15]
    repeat' (refine And.intro (by first | exact f1.1 | assumption) ?_)
    refine hK _ _ ⟨_, _, Wk.keep [] rfl, awl_live' [6] fun ρ hL => ?_⟩
    try simp only [go_sem, simprocAttr, h1, h2, h3, h15] at hL
    try clear h1 h2 h3 h15
    have h6 := hL
    clear hL
    try simp only [go_sem, simprocAttr]
    clear hK K
    refine awl_ret ?_
    refine ret0 (by simp only [go_sem, simprocAttr, h6]; exact rfl) ?_
    try simp only [go_sem, simprocAttr]
    all_goals (rfl)
  ·
    try simp only [cnd] at c1
    have f1 := szC_ok (l := 1048576) ⟨by decide, by decide⟩ c1
    refine awl_skip ?_
    refine awl_seq ?_
    refine awl_regS [(some 16, (.load 56 (.tmp 3)), none), (some 17, (.call ⟨(.value (.func 31)), #[(.tmp 16)], #[56]⟩), none), (some 18, (.move (.tmp 1)), none), (some 19, (.move (.tmp 2)), none), (some 20, (.call ⟨(.value (.func 30)), #[(.tmp 17), (.tmp 18), (.tmp 19)], #[61, 3, 3]⟩), none), (some 8, (.assign (.tmp 20)), none)] rfl fun K hK => ?_
    try simp only [go_sem, simprocAttr, h1, h2, h3, h15]
    repeat' (refine And.intro (by first | exact f1.1 | assumption) ?_)
    refine opS_call_ro rfl (sat_laws_toCore ?_ ?hp0) ?ha ?hv ?hh ?_
    case ha => simp only [go_sem, simprocAttr, h1, h2, h3, h15]; first | done | rfl
    case hp0 => first | exact f1.1 | assumption
    case hv => first | rfl | (simp only [go_sem]; done)
    case hh => first | rfl | (simp only [go_sem]; done)
    try simp only [go_sem, simprocAttr, h1, h2, h3, h15]
    repeat' (refine And.intro (by first | exact f1.1 | assumption) ?_)
    refine opS_call_ro rfl (sat_spec_Source ?_ ?_ ?_ ?hp0) ?ha ?hv ?hh ?_
    case ha => simp only [go_sem, simprocAttr, h1, h2, h3, h15]; first | done | rfl
    case hp0 => first | exact f1.1 | assumption
    case hv => first | rfl | (simp only [go_sem]; done)
    case hh => first | rfl | (simp only [go_sem]; done)
    try simp only [go_sem, simprocAttr, h1, h2, h3, h15]
    repeat' (refine And.intro (by first | exact f1.1 | assumption) ?_)
    refine hK _ _ ⟨_, _, Wk.keep [0] rfl, awl_live' [1, 2, 3, 8] fun ρ hL => ?_⟩
    try simp only [go_sem, simprocAttr, h1, h2, h3, h15] at hL
    try clear h1 h2 h3 h15
    obtain ⟨h1, h2, h3, h8⟩ := hL
    try simp only [go_sem, simprocAttr]
    clear hK K
    refine awl_seq ?_
    refine awl_regS [(some 21, (.load 56 (.tmp 3)), none), (some 22, (.call ⟨(.value (.func 31)), #[(.tmp 21)], #[56]⟩), none), (some 9, (.alloc 61), none), (none, (.store 61 (.tmp 9) (.tmp 22)), none)] rfl fun K hK => ?_
    try simp only [go_sem, simprocAttr, h1, h2, h3, h8]
    repeat' (refine And.intro (by first | exact f1.1 | assumption) ?_)
    refine opS_call_ro rfl (sat_laws_toCore ?_ ?hp0) ?ha ?hv ?hh ?_
    case ha => simp only [go_sem, simprocAttr, h1, h2, h3, h8]; first | done | rfl
    case hp0 => first | exact f1.1 | assumption
    case hv => first | rfl | (simp only [go_sem]; done)
    case hh => first | rfl | (simp only [go_sem]; done)
    try simp only [go_sem, simprocAttr, h1, h2, h3, h8]
    repeat' (refine And.intro (by first | exact f1.1 | assumption) ?_)
    refine hK _ _ ⟨_, _, Wk.keep [0, 6, 1, 2, 3, 4, 5] rfl, awl_live' [1, 2, 3, 8, 9] fun ρ hL => ?_⟩
    try simp only [go_sem, simprocAttr, h1, h2, h3, h8] at hL
    try clear h1 h2 h3 h8
    obtain ⟨h1, h2, h3, h8, h9⟩ := hL
    try simp only [go_sem, simprocAttr]
    clear hK K
    refine awl_seq ?_
    refine awl_regS [(some 23, (.load 61 (.tmp 9)), none), (some 24, (.move (.tmp 1)), none), (some 25, (.move (.tmp 2)), none), (some 26, (.call ⟨(.value (.func 32)), #[(.tmp 23), (.tmp 24), (.tmp 25)], #[61, 3, 3]⟩), none), (some 10, (.assign (.tmp 26)), none)] rfl fun K hK => ?_
    try simp only [go_sem, simprocAttr, h1, h2, h3, h8, h9]
    repeat' (refine And.intro (by first | exact f1.1 | assumption) ?_)
    refine opS_call_ro rfl (sat_impl_Source ?_ ?_ ?_ ?hp0) ?ha ?hv ?hh ?_
    case ha => simp only [go_sem, simprocAttr, h1, h2, h3, h8, h9]; first | done | rfl
    case hp0 => first | exact f1.1 | assumption
    case hv => first | rfl | (simp only [go_sem]; done)
    case hh => first | rfl | (simp only [go_sem]; done)
    try simp only [go_sem, simprocAttr, h1, h2, h3, h8, h9]
    repeat' (refine And.intro (by first | exact f1.1 | assumption) ?_)
    refine hK _ _ ⟨_, _, Wk.keep [0, 1, 2, 3, 4, 5, 6] rfl, awl_live' [3, 8, 9, 10] fun ρ hL => ?_⟩
    try simp only [go_sem, simprocAttr, h1, h2, h3, h8, h9] at hL
    try clear h1 h2 h3 h8 h9
    obtain ⟨h3, h8, h9, h10⟩ := hL
    try simp only [go_sem, simprocAttr]
    clear hK K
    refine awl_seq ?_
    refine awl_seq ?_
    refine awl_regS [(some 27, (.move (.tmp 10)), none), (some 28, (.move (.tmp 8)), none), (some 29, (.binOp .neq 3 (.tmp 27) (.tmp 28) 3), none)] rfl fun K hK => ?_
    try simp only [go_sem, simprocAttr, h3, h8, h9, h10]
    repeat' (refine And.intro (by first | exact f1.1 | assumption) ?_)
    refine hK _ _ ⟨_, _, Wk.keep [0, 1, 2, 3, 4, 5, 6] rfl, awl_live' [3, 9, 29] fun ρ hL => ?_⟩
    try simp only [go_sem, simprocAttr, h3, h8, h9, h10] at hL
    try clear h3 h8 h9 h10
    obtain ⟨h3, h9, h29⟩ := hL
    try simp only [go_sem, simprocAttr]
    clear hK K
    refine awl_cond h29 (fun c2 => ?_) (fun c2 => ?_)
    ·
      try simp only [cnd] at c2
      first | (simp at c2; done) | (simp at c2; omega) | omega
    ·
      try simp only [cnd] at c2
      refine awl_skip ?_
      refine awl_seq ?_
      refine awl_seq ?_
      refine awl_regD mixed [(some 30, (.load 61 (.tmp 9)), none), (some 31, (.load 56 (.tmp 3)), none), (some 32, (.call ⟨(.value (.func 31)), #[(.tmp 31)], #[56]⟩), none), (some 33, (.call ⟨(.value (.func 33)), #[(.tmp 30), (.tmp 32)], #[61, 61]⟩), none), (some 34, (.unOp .not 4 (.tmp 33)), none)] rfl fun K hK => ?_
      try simp only [go_sem, simprocAttr, h3, h9, h29]
      repeat' (refine And.intro (by first | omega | (exact ⟨[0, 0, 2, 7, 15], by kernel_rfl⟩) | kernel_rfl) ?_)
      refine dS_call_ro rfl (sat_laws_toCore ?_ ?hp0) ?ha ?hv ?hh ?_
      case ha => simp only [go_sem, simprocAttr, h3, h9, h29]; first | done | rfl
      case hp0 => first | exact f1.1 | assumption
      case hv => first | rfl | (simp only [go_sem]; done)
      case hh => first | rfl | (simp only [go_sem]; done)
      try simp only [go_sem, simprocAttr, h3, h9, h29]
      repeat' (refine And.intro (by first | omega | (exact ⟨[0, 0, 2, 7, 15], by kernel_rfl⟩) | kernel_rfl) ?_)
      refine dS_call_ro rfl (sat_laws_eqCore ?_ ?_ ?hp0) ?ha ?hv ?hh ?_
      case ha => simp only [go_sem, simprocAttr, h3, h9, h29]; first | done | rfl
      case hp0 => first | exact f1.1 | assumption
      case hv => first | rfl | (simp only [go_sem]; done)
      case hh => first | rfl | (simp only [go_sem]; done)
      try simp only [go_sem, simprocAttr, h3, h9, h29]
      repeat' (refine And.intro (by first | omega | (exact ⟨[0, 0, 2, 7, 15], by kernel_rfl⟩) | kernel_rfl) ?_)
      refine hK _ _ ⟨_, _, Wk.keep [] rfl, awl_live' [34] fun ρ hL => ?_⟩
      try simp only [go_sem, simprocAttr, h3, h9, h29] at hL
      try clear h3 h9 h29
      have h34 := hL
      clear hL
      try simp only [go_sem, simprocAttr]
      clear hK K
      refine awl_cond h34 (fun c3 => ?_) (fun c3 => ?_)
      ·
        try simp only [cnd] at c3
        first | (simp at c3; done) | (simp at c3; omega) | omega
      ·
        try simp only [cnd] at c3
        refine awl_skip ?_
        refine awl_seq ?_
        refine awl_regS [(some 6, (.assign (.const (.bool true))), none)] rfl fun K hK => ?_
        try simp only [go_sem, simprocAttr, h34]
        repeat' (refine And.intro (by first | exact f1.1 | assumption) ?_)
        refine hK _ _ ⟨_, _, Wk.keep [] rfl, awl_live' [6] fun ρ hL => ?_⟩
        try simp only [go_sem, simprocAttr, h34] at hL
        try clear h34
        have h6 := hL
        clear hL
        try simp only [go_sem, simprocAttr]
        clear hK K
        refine awl_ret ?_
        refine ret0 (by simp only [go_sem, simprocAttr, h6]; exact rfl) ?_
        try simp only [go_sem, simprocAttr]
        all_goals (rfl)
end Go.Proofs.Ytgddflnhibhacaa.AM
