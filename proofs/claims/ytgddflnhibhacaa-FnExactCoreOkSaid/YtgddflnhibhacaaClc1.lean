/- The law CoreOk. No conditions but those each theorem bears. -/
import Derived.Test.YtgddflnhibhacaaFa
import Derived.Test.YtgddflnhibhacaaCa13
import Derived.Test.YtgddflnhibhacaaCa14
set_option linter.unusedSimpArgs false
set_option linter.unusedVariables false
namespace Go.Proofs.Ytgddflnhibhacaa.AM
open Go

set_option maxHeartbeats 8000000 in
set_option maxRecDepth 100000 in
theorem sat_laws_FnExactCoreOk (c : Cor) (hs : c.sm) : Sat Try.prog 8 [.agg c.cells] [] (.bool true) [] := by
  refine sat_mk [.tmp 2] 0 27 Try.call8 Try.func8 Try.ntmps8 rfl rfl rfl rfl rfl ?_
  refine awl_live' [0] fun ρ hL => ?_
  try simp only [go_sem, simprocAttr] at hL
  have h0 := hL
  clear hL
  refine awl_seq ?_
  refine awl_regS [(some 1, (.box 56 (.tmp 0)), none), (some 2, (.assign (.const (.bool false))), none)] rfl fun K hK => ?_
  try simp only [go_sem, simprocAttr, h0]
  repeat' (refine And.intro (by first | exact f1.1 | assumption) ?_)
  refine hK _ _ ⟨_, _, Wk.keep [0] rfl, awl_live' [1] fun ρ hL => ?_⟩
  try simp only [go_sem, simprocAttr, h0] at hL
  try clear h0
  have h1 := hL
  clear hL
  try simp only [go_sem, simprocAttr]
  clear hK K
  refine awl_seq ?_
  refine awl_regS [(some 3, (.assign (.const (.int .i64 1048576))), none)] rfl fun K hK => ?_
  try simp only [go_sem, simprocAttr, h1]
  repeat' (refine And.intro (by first | exact f1.1 | assumption) ?_)
  refine hK _ _ ⟨_, _, Wk.keep [0] rfl, awl_live' [1, 3] fun ρ hL => ?_⟩
  try simp only [go_sem, simprocAttr, h1] at hL
  try clear h1
  obtain ⟨h1, h3⟩ := hL
  try simp only [go_sem, simprocAttr]
  clear hK K
  refine awl_seq ?_
  refine awl_regS [(some 7, (.load 56 (.tmp 1)), none), (some 8, (.move (.tmp 3)), none), (some 9, (.call ⟨(.value (.func 29)), #[(.tmp 7), (.tmp 8)], #[56, 3]⟩), none), (some 3, (.assign (.tmp 9)), none)] rfl fun K hK => ?_
  try simp only [go_sem, simprocAttr, h1, h3]
  repeat' (refine And.intro (by first | exact f1.1 | assumption) ?_)
  refine opS_call_ro rfl (sat_laws_szCore c 1048576 hs ⟨by decide, by decide⟩) ?ha ?hv ?hh ?_
  case ha => simp only [go_sem, simprocAttr, h1, h3]; first | done | rfl
  case hv => first | rfl | (simp only [go_sem]; done)
  case hh => first | rfl | (simp only [go_sem]; done)
  try simp only [go_sem, simprocAttr, h1, h3]
  repeat' (refine And.intro (by first | exact f1.1 | assumption) ?_)
  refine hK _ _ ⟨_, _, Wk.keep [0] rfl, awl_live' [1, 3] fun ρ hL => ?_⟩
  try simp only [go_sem, simprocAttr, h1, h3] at hL
  try clear h1 h3
  obtain ⟨h1, h3⟩ := hL
  try simp only [go_sem, simprocAttr]
  clear hK K
  refine awl_seq ?_
  refine awl_seq ?_
  refine awl_regS [(some 10, (.move (.tmp 3)), none), (some 11, (.binOp .lss 3 (.tmp 10) (.const (.int .i64 0)) 3), none)] rfl fun K hK => ?_
  try simp only [go_sem, simprocAttr, h1, h3]
  repeat' (refine And.intro (by first | exact f1.1 | assumption) ?_)
  refine hK _ _ ⟨_, _, Wk.keep [0] rfl, awl_live' [1, 11] fun ρ hL => ?_⟩
  try simp only [go_sem, simprocAttr, h1, h3] at hL
  try clear h1 h3
  obtain ⟨h1, h11⟩ := hL
  try simp only [go_sem, simprocAttr]
  clear hK K
  refine awl_cond h11 (fun c1 => ?_) (fun c1 => ?_)
  ·
    try simp only [cnd] at c1
    refine awl_seq ?_
    refine awl_regS [(some 2, (.assign (.const (.bool true))), none)] rfl fun K hK => ?_
    try simp only [go_sem, simprocAttr, h1, h11]
    repeat' (refine And.intro (by first | exact f1.1 | assumption) ?_)
    refine hK _ _ ⟨_, _, Wk.keep [] rfl, awl_live' [2] fun ρ hL => ?_⟩
    try simp only [go_sem, simprocAttr, h1, h11] at hL
    try clear h1 h11
    have h2 := hL
    clear hL
    try simp only [go_sem, simprocAttr]
    clear hK K
    refine awl_ret ?_
    refine ret0 (by simp only [go_sem, simprocAttr, h2]; exact rfl) ?_
    try simp only [go_sem, simprocAttr]
    all_goals (rfl)
  ·
    try simp only [cnd] at c1
    have f1 := szC_ok (l := 1048576) ⟨by decide, by decide⟩ c1
    refine awl_skip ?_
    refine awl_seq ?_
    refine awl_regS [(some 12, (.load 56 (.tmp 1)), none), (some 13, (.call ⟨(.value (.func 31)), #[(.tmp 12)], #[56]⟩), none), (some 14, (.call ⟨(.value (.func 38)), #[(.tmp 13)], #[61]⟩), none), (some 4, (.assign (.tmp 14)), none)] rfl fun K hK => ?_
    try simp only [go_sem, simprocAttr, h1, h11]
    repeat' (refine And.intro (by first | exact f1.1 | assumption) ?_)
    refine opS_call_ro rfl (sat_laws_toCore ?_ ?hp0) ?ha ?hv ?hh ?_
    case ha => simp only [go_sem, simprocAttr, h1, h11]; first | done | rfl
    case hp0 => first | exact f1.1 | assumption
    case hv => first | rfl | (simp only [go_sem]; done)
    case hh => first | rfl | (simp only [go_sem]; done)
    try simp only [go_sem, simprocAttr, h1, h11]
    repeat' (refine And.intro (by first | exact f1.1 | assumption) ?_)
    refine opS_call_ro rfl (sat_spec_CoreOk ?_ ?hp0) ?ha ?hv ?hh ?_
    case ha => simp only [go_sem, simprocAttr, h1, h11]; first | done | rfl
    case hp0 => first | exact f1.1 | assumption
    case hv => first | rfl | (simp only [go_sem]; done)
    case hh => first | rfl | (simp only [go_sem]; done)
    try simp only [go_sem, simprocAttr, h1, h11]
    repeat' (refine And.intro (by first | exact f1.1 | assumption) ?_)
    refine hK _ _ ⟨_, _, Wk.keep [0] rfl, awl_live' [1, 4] fun ρ hL => ?_⟩
    try simp only [go_sem, simprocAttr, h1, h11] at hL
    try clear h1 h11
    obtain ⟨h1, h4⟩ := hL
    try simp only [go_sem, simprocAttr]
    clear hK K
    refine awl_seq ?_
    refine awl_regS [(some 15, (.load 56 (.tmp 1)), none), (some 16, (.call ⟨(.value (.func 31)), #[(.tmp 15)], #[56]⟩), none), (some 5, (.alloc 61), none), (none, (.store 61 (.tmp 5) (.tmp 16)), none)] rfl fun K hK => ?_
    try simp only [go_sem, simprocAttr, h1, h4]
    repeat' (refine And.intro (by first | exact f1.1 | assumption) ?_)
    refine opS_call_ro rfl (sat_laws_toCore ?_ ?hp0) ?ha ?hv ?hh ?_
    case ha => simp only [go_sem, simprocAttr, h1, h4]; first | done | rfl
    case hp0 => first | exact f1.1 | assumption
    case hv => first | rfl | (simp only [go_sem]; done)
    case hh => first | rfl | (simp only [go_sem]; done)
    try simp only [go_sem, simprocAttr, h1, h4]
    repeat' (refine And.intro (by first | exact f1.1 | assumption) ?_)
    refine hK _ _ ⟨_, _, Wk.keep [0, 6, 1, 2, 3, 4, 5] rfl, awl_live' [1, 4, 5] fun ρ hL => ?_⟩
    try simp only [go_sem, simprocAttr, h1, h4] at hL
    try clear h1 h4
    obtain ⟨h1, h4, h5⟩ := hL
    try simp only [go_sem, simprocAttr]
    clear hK K
    refine awl_seq ?_
    refine awl_regS [(some 17, (.load 61 (.tmp 5)), none), (some 18, (.call ⟨(.value (.func 39)), #[(.tmp 17)], #[61]⟩), none), (some 6, (.assign (.tmp 18)), none)] rfl fun K hK => ?_
    try simp only [go_sem, simprocAttr, h1, h4, h5]
    repeat' (refine And.intro (by first | exact f1.1 | assumption) ?_)
    refine opS_call_ro rfl (sat_impl_CoreOk ?_ ?hp0) ?ha ?hv ?hh ?_
    case ha => simp only [go_sem, simprocAttr, h1, h4, h5]; first | done | rfl
    case hp0 => first | exact f1.1 | assumption
    case hv => first | rfl | (simp only [go_sem]; done)
    case hh => first | rfl | (simp only [go_sem]; done)
    try simp only [go_sem, simprocAttr, h1, h4, h5]
    repeat' (refine And.intro (by first | exact f1.1 | assumption) ?_)
    refine hK _ _ ⟨_, _, Wk.keep [0, 1, 2, 3, 4, 5, 6] rfl, awl_live' [1, 4, 5, 6] fun ρ hL => ?_⟩
    try simp only [go_sem, simprocAttr, h1, h4, h5] at hL
    try clear h1 h4 h5
    obtain ⟨h1, h4, h5, h6⟩ := hL
    try simp only [go_sem, simprocAttr]
    clear hK K
    refine awl_seq ?_
    refine awl_seq ?_
    refine awl_regS [(some 19, (.move (.tmp 6)), none), (some 20, (.move (.tmp 4)), none), (some 21, (.binOp .neq 4 (.tmp 19) (.tmp 20) 4), none)] rfl fun K hK => ?_
    try simp only [go_sem, simprocAttr, h1, h4, h5, h6]
    repeat' (refine And.intro (by first | exact f1.1 | assumption) ?_)
    refine hK _ _ ⟨_, _, Wk.keep [0, 1, 2, 3, 4, 5, 6] rfl, awl_live' [1, 5, 21] fun ρ hL => ?_⟩
    try simp only [go_sem, simprocAttr, h1, h4, h5, h6] at hL
    try clear h1 h4 h5 h6
    obtain ⟨h1, h5, h21⟩ := hL
    try simp only [go_sem, simprocAttr]
    clear hK K
    refine awl_cond h21 (fun c2 => ?_) (fun c2 => ?_)
    ·
      try simp only [cnd] at c2
      first | (simp at c2; done) | (simp at c2; omega) | omega
    ·
      try simp only [cnd] at c2
      refine awl_skip ?_
      refine awl_seq ?_
      refine awl_seq ?_
      refine awl_regD mixed [(some 22, (.load 61 (.tmp 5)), none), (some 23, (.load 56 (.tmp 1)), none), (some 24, (.call ⟨(.value (.func 31)), #[(.tmp 23)], #[56]⟩), none), (some 25, (.call ⟨(.value (.func 33)), #[(.tmp 22), (.tmp 24)], #[61, 61]⟩), none), (some 26, (.unOp .not 4 (.tmp 25)), none)] rfl fun K hK => ?_
      try simp only [go_sem, simprocAttr, h1, h5, h21]
      repeat' (refine And.intro (by first | omega | (exact ⟨[0, 0, 2, 7, 15], by kernel_rfl⟩) | kernel_rfl) ?_)
      refine dS_call_ro rfl (sat_laws_toCore ?_ ?hp0) ?ha ?hv ?hh ?_
      case ha => simp only [go_sem, simprocAttr, h1, h5, h21]; first | done | rfl
      case hp0 => first | exact f1.1 | assumption
      case hv => first | rfl | (simp only [go_sem]; done)
      case hh => first | rfl | (simp only [go_sem]; done)
      try simp only [go_sem, simprocAttr, h1, h5, h21]
      repeat' (refine And.intro (by first | omega | (exact ⟨[0, 0, 2, 7, 15], by kernel_rfl⟩) | kernel_rfl) ?_)
      refine dS_call_ro rfl (sat_laws_eqCore ?_ ?_ ?hp0) ?ha ?hv ?hh ?_
      case ha => simp only [go_sem, simprocAttr, h1, h5, h21]; first | done | rfl
      case hp0 => first | exact f1.1 | assumption
      case hv => first | rfl | (simp only [go_sem]; done)
      case hh => first | rfl | (simp only [go_sem]; done)
      try simp only [go_sem, simprocAttr, h1, h5, h21]
      repeat' (refine And.intro (by first | omega | (exact ⟨[0, 0, 2, 7, 15], by kernel_rfl⟩) | kernel_rfl) ?_)
      refine hK _ _ ⟨_, _, Wk.keep [] rfl, awl_live' [26] fun ρ hL => ?_⟩
      try simp only [go_sem, simprocAttr, h1, h5, h21] at hL
      try clear h1 h5 h21
      have h26 := hL
      clear hL
      try simp only [go_sem, simprocAttr]
      clear hK K
      refine awl_cond h26 (fun c3 => ?_) (fun c3 => ?_)
      ·
        try simp only [cnd] at c3
        first | (simp at c3; done) | (simp at c3; omega) | omega
      ·
        try simp only [cnd] at c3
        refine awl_skip ?_
        refine awl_seq ?_
        refine awl_regS [(some 2, (.assign (.const (.bool true))), none)] rfl fun K hK => ?_
        try simp only [go_sem, simprocAttr, h26]
        repeat' (refine And.intro (by first | exact f1.1 | assumption) ?_)
        refine hK _ _ ⟨_, _, Wk.keep [] rfl, awl_live' [2] fun ρ hL => ?_⟩
        try simp only [go_sem, simprocAttr, h26] at hL
        try clear h26
        have h2 := hL
        clear hL
        try simp only [go_sem, simprocAttr]
        clear hK K
        refine awl_ret ?_
        refine ret0 (by simp only [go_sem, simprocAttr, h2]; exact rfl) ?_
        try simp only [go_sem, simprocAttr]
        all_goals (rfl)
end Go.Proofs.Ytgddflnhibhacaa.AM
