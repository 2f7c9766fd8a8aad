/- The law on guesses. No conditions but those each theorem bears. -/
import Derived.Test.YtlkpicpeoimcjaaFa
import Derived.Test.YtlkpicpeoimcjaaCa6
set_option linter.unusedSimpArgs false
set_option linter.unusedVariables false
namespace Go.Proofs.Ytlkpicpeoimcjaa.AM
open Go

set_option maxHeartbeats 8000000 in
set_option maxRecDepth 100000 in
theorem sat_laws_FnExactGuess (xs : List Int) (w : Word)  : Sat Try.prog 5 [.sl xs.length xs.length (ints xs), .agg w.cells] [] (.bool true) [] := by
  refine sat_mk [.tmp 4] 0 31 Try.call5 Try.func5 Try.ntmps5 rfl rfl rfl rfl rfl ?_
  refine awl_live' [0, 1] fun ρ hL => ?_
  try simp only [go_sem, simprocAttr] at hL
  obtain ⟨h0, h1⟩ := hL
  refine awl_seq ?_
  refine awl_regS [(some 3, (.box 31 (.tmp 1)), none), (some 4, (.assign (.const (.bool false))), none)] rfl fun K hK => ?_
  try simp only [go_sem, simprocAttr, h0, h1]
  repeat' (refine And.intro (by first | rfl | omega | (simp; done)) ?_)
  refine hK _ _ ⟨_, _, Wk.keep [0] rfl, awl_live' [0, 3] fun ρ hL => ?_⟩
  try simp only [go_sem, simprocAttr, h0, h1] at hL
  try clear h0 h1
  obtain ⟨h0, h3⟩ := hL
  try simp only [go_sem, simprocAttr]
  clear hK K
  refine awl_seq ?_
  refine awl_seq ?_
  refine awl_regS [(some 8, (.move (.tmp 0)), none), (some 9, (.call ⟨(.builtin .len), #[(.tmp 8)], #[22]⟩), none), (some 10, (.binOp .gtr 3 (.tmp 9) (.const (.int .i64 1048576)) 3), none)] rfl fun K hK => ?_
  try simp only [go_sem, simprocAttr, h0, h3]
  repeat' (refine And.intro (by first | rfl | omega | (simp; done)) ?_)
  refine hK _ _ ⟨_, _, Wk.keep [0] rfl, awl_live' [0, 3, 10] fun ρ hL => ?_⟩
  try simp only [go_sem, simprocAttr, h0, h3] at hL
  try clear h0 h3
  obtain ⟨h0, h3, h10⟩ := hL
  try simp only [go_sem, simprocAttr]
  clear hK K
  refine awl_cond h10 (fun c1 => ?_) (fun c1 => ?_)
  ·
    try simp only [cnd] at c1
    refine awl_seq ?_
    refine awl_regS [(some 4, (.assign (.const (.bool true))), none)] rfl fun K hK => ?_
    try simp only [go_sem, simprocAttr, h0, h3, h10]
    repeat' (refine And.intro (by first | rfl | omega | (simp; done)) ?_)
    refine hK _ _ ⟨_, _, Wk.keep [] rfl, awl_live' [4] fun ρ hL => ?_⟩
    try simp only [go_sem, simprocAttr, h0, h3, h10] at hL
    try clear h0 h3 h10
    have h4 := hL
    clear hL
    try simp only [go_sem, simprocAttr]
    clear hK K
    refine awl_ret ?_
    refine ret0 (by simp only [go_sem, simprocAttr, h4]; exact rfl) ?_
    try simp only [go_sem, simprocAttr]
    all_goals (rfl)
  ·
    try simp only [cnd] at c1
    refine awl_skip ?_
    refine awl_seq ?_
    refine awl_regD mixed [(some 11, (.move (.tmp 0)), none), (some 12, (.call ⟨(.value (.func 26)), #[(.tmp 11)], #[22]⟩), none), (some 13, (.load 31 (.tmp 3)), none), (some 14, (.call ⟨(.value (.func 27)), #[(.tmp 13)], #[31]⟩), none), (some 15, (.call ⟨(.value (.func 25)), #[(.tmp 12), (.tmp 14)], #[22, 42]⟩), none), (some 5, (.alloc 42), none), (none, (.store 42 (.tmp 5) (.tmp 15)), none)] rfl fun K hK => ?_
    try simp only [go_sem, simprocAttr, h0, h3, h10]
    repeat' (refine And.intro (by first | omega | (exact ⟨[0, 1, 0, 7, 15, 0, 63], by kernel_rfl⟩) | kernel_rfl) ?_)
    refine dS_call_ro rfl (sat_laws_toIntS ?_ ?_ ?hp0) ?ha ?hv ?hh ?_
    case ha => simp only [go_sem, simprocAttr, h0, h3, h10]; first | done | rfl
    case hp0 => first | assumption | omega | (simp; done)
    case hv => first | rfl | (simp only [go_sem]; done)
    case hh => first | rfl | (simp only [go_sem]; done)
    try simp only [go_sem, simprocAttr, h0, h3, h10]
    repeat' (refine And.intro (by first | omega | (exact ⟨[0, 1, 0, 7, 15, 0, 63], by kernel_rfl⟩) | kernel_rfl) ?_)
    refine dS_call_ro rfl (sat_laws_toWord ?_) ?ha ?hv ?hh ?_
    case ha => simp only [go_sem, simprocAttr, h0, h3, h10]; first | done | rfl
    case hv => first | rfl | (simp only [go_sem]; done)
    case hh => first | rfl | (simp only [go_sem]; done)
    try simp only [go_sem, simprocAttr, h0, h3, h10]
    repeat' (refine And.intro (by first | omega | (exact ⟨[0, 1, 0, 7, 15, 0, 63], by kernel_rfl⟩) | kernel_rfl) ?_)
    refine dS_call_ro rfl (sat_spec_Guess ?_ ?_ ?hp0) ?ha ?hv ?hh ?_
    case ha => simp only [go_sem, simprocAttr, h0, h3, h10]; first | done | rfl
    case hp0 => first | assumption | omega | (simp; done)
    case hv => first | rfl | (simp only [go_sem]; done)
    case hh => first | rfl | (simp only [go_sem]; done)
    try simp only [go_sem, simprocAttr, h0, h3, h10]
    repeat' (refine And.intro (by first | omega | (exact ⟨[0, 1, 0, 7, 15, 0, 63], by kernel_rfl⟩) | kernel_rfl) ?_)
    refine hK _ _ ⟨_, _, Wk.keep [0, 2] rfl, awl_live' [0, 3, 5] fun ρ hL => ?_⟩
    try simp only [go_sem, simprocAttr, h0, h3, h10] at hL
    try clear h0 h3 h10
    obtain ⟨h0, h3, h5⟩ := hL
    try simp only [go_sem, simprocAttr]
    clear hK K
    refine awl_seq ?_
    refine awl_regS [(some 16, (.move (.tmp 0)), none), (some 17, (.call ⟨(.value (.func 26)), #[(.tmp 16)], #[22]⟩), none), (some 6, (.assign (.tmp 17)), none)] rfl fun K hK => ?_
    try simp only [go_sem, simprocAttr, h0, h3, h5]
    repeat' (refine And.intro (by first | rfl | omega | (simp; done)) ?_)
    refine opS_call_ro rfl (sat_laws_toIntS ?_ ?_ ?hp0) ?ha ?hv ?hh ?_
    case ha => simp only [go_sem, simprocAttr, h0, h3, h5]; first | done | rfl
    case hp0 => first | assumption | omega | (simp; done)
    case hv => first | rfl | (simp only [go_sem]; done)
    case hh => first | rfl | (simp only [go_sem]; done)
    try simp only [go_sem, simprocAttr, h0, h3, h5]
    repeat' (refine And.intro (by first | rfl | omega | (simp; done)) ?_)
    refine hK _ _ ⟨_, _, Wk.keep [0, 1, 2] rfl, awl_live' [0, 3, 5, 6] fun ρ hL => ?_⟩
    try simp only [go_sem, simprocAttr, h0, h3, h5] at hL
    try clear h0 h3 h5
    obtain ⟨h0, h3, h5, h6⟩ := hL
    try simp only [go_sem, simprocAttr]
    clear hK K
    refine awl_seq ?_
    refine awl_regS [(some 18, (.move (.tmp 6)), none), (some 19, (.load 31 (.tmp 3)), none), (some 20, (.call ⟨(.value (.func 27)), #[(.tmp 19)], #[31]⟩), none), (some 21, (.call ⟨(.value (.func 28)), #[(.tmp 18), (.tmp 20)], #[22, 42]⟩), none), (some 7, (.alloc 42), none), (none, (.store 42 (.tmp 7) (.tmp 21)), none)] rfl fun K hK => ?_
    try simp only [go_sem, simprocAttr, h0, h3, h5, h6]
    repeat' (refine And.intro (by first | rfl | omega | (simp; done)) ?_)
    refine opS_call_ro rfl (sat_laws_toWord ?_) ?ha ?hv ?hh ?_
    case ha => simp only [go_sem, simprocAttr, h0, h3, h5, h6]; first | done | rfl
    case hv => first | rfl | (simp only [go_sem]; done)
    case hh => first | rfl | (simp only [go_sem]; done)
    try simp only [go_sem, simprocAttr, h0, h3, h5, h6]
    repeat' (refine And.intro (by first | rfl | omega | (simp; done)) ?_)
    refine opS_call_ro rfl (sat_impl_Guess ?_ ?_ ?hp0) ?ha ?hv ?hh ?_
    case ha => simp only [go_sem, simprocAttr, h0, h3, h5, h6]; first | done | rfl
    case hp0 => first | assumption | omega | (simp; done)
    case hv => first | rfl | (simp only [go_sem]; done)
    case hh => first | rfl | (simp only [go_sem]; done)
    try simp only [go_sem, simprocAttr, h0, h3, h5, h6]
    repeat' (refine And.intro (by first | rfl | omega | (simp; done)) ?_)
    refine hK _ _ ⟨_, _, Wk.keep [1, 2, 3] rfl, awl_live' [0, 5, 6, 7] fun ρ hL => ?_⟩
    try simp only [go_sem, simprocAttr, h0, h3, h5, h6] at hL
    try clear h0 h3 h5 h6
    obtain ⟨h0, h5, h6, h7⟩ := hL
    try simp only [go_sem, simprocAttr]
    clear hK K
    refine awl_seq ?_
    refine awl_seq ?_
    refine awl_regS [(some 22, (.load 42 (.tmp 7)), none), (some 23, (.load 42 (.tmp 5)), none), (some 24, (.call ⟨(.value (.func 29)), #[(.tmp 22), (.tmp 23)], #[42, 42]⟩), none), (some 25, (.unOp .not 4 (.tmp 24)), none)] rfl fun K hK => ?_
    try simp only [go_sem, simprocAttr, h0, h5, h6, h7]
    repeat' (refine And.intro (by first | rfl | omega | (simp; done)) ?_)
    refine opS_call_ro rfl (sat_laws_eqWord ?_ ?_) ?ha ?hv ?hh ?_
    case ha => simp only [go_sem, simprocAttr, h0, h5, h6, h7]; first | done | rfl
    case hv => first | rfl | (simp only [go_sem]; done)
    case hh => first | rfl | (simp only [go_sem]; done)
    try simp only [go_sem, simprocAttr, h0, h5, h6, h7]
    repeat' (refine And.intro (by first | rfl | omega | (simp; done)) ?_)
    refine hK _ _ ⟨_, _, Wk.keep [1] rfl, awl_live' [0, 6, 25] fun ρ hL => ?_⟩
    try simp only [go_sem, simprocAttr, h0, h5, h6, h7] at hL
    try clear h0 h5 h6 h7
    obtain ⟨h0, h6, h25⟩ := hL
    try simp only [go_sem, simprocAttr]
    clear hK K
    refine awl_cond h25 (fun c2 => ?_) (fun c2 => ?_)
    ·
      try simp only [cnd] at c2
      first | (simp at c2; done) | (simp at c2; omega) | omega
    ·
      try simp only [cnd] at c2
      refine awl_skip ?_
      refine awl_seq ?_
      refine awl_seq ?_
      refine awl_regS [(some 26, (.move (.tmp 6)), none), (some 27, (.move (.tmp 0)), none), (some 28, (.call ⟨(.value (.func 26)), #[(.tmp 27)], #[22]⟩), none), (some 29, (.call ⟨(.value (.func 17)), #[(.tmp 26), (.tmp 28)], #[22, 22]⟩), none), (some 30, (.unOp .not 4 (.tmp 29)), none)] rfl fun K hK => ?_
      try simp only [go_sem, simprocAttr, h0, h6, h25]
      repeat' (refine And.intro (by first | rfl | omega | (simp; done)) ?_)
      refine opS_call_ro rfl (sat_laws_toIntS ?_ ?_ ?hp0) ?ha ?hv ?hh ?_
      case ha => simp only [go_sem, simprocAttr, h0, h6, h25]; first | done | rfl
      case hp0 => first | assumption | omega | (simp; done)
      case hv => first | rfl | (simp only [go_sem]; done)
      case hh => first | rfl | (simp only [go_sem]; done)
      try simp only [go_sem, simprocAttr, h0, h6, h25]
      repeat' (refine And.intro (by first | rfl | omega | (simp; done)) ?_)
      refine opS_call_ro rfl (sat_laws_eqIntS ?_ ?_ ?_ ?_ ?hp0) ?ha ?hv ?hh ?_
      case ha => simp only [go_sem, simprocAttr, h0, h6, h25]; first | done | rfl
      case hp0 => first | assumption | omega | (simp; done)
      case hv => first | rfl | (simp only [go_sem]; done)
      case hh => first | rfl | (simp only [go_sem]; done)
      try simp only [go_sem, simprocAttr, h0, h6, h25]
      repeat' (refine And.intro (by first | rfl | omega | (simp; done)) ?_)
      refine hK _ _ ⟨_, _, Wk.keep [] rfl, awl_live' [30] fun ρ hL => ?_⟩
      try simp only [go_sem, simprocAttr, h0, h6, h25] at hL
      try clear h0 h6 h25
      have h30 := hL
      clear hL
      try simp only [go_sem, simprocAttr]
      clear hK K
      refine awl_cond h30 (fun c3 => ?_) (fun c3 => ?_)
      ·
        try simp only [cnd] at c3
        first | (simp at c3; done) | (simp at c3; omega) | omega
      ·
        try simp only [cnd] at c3
        refine awl_skip ?_
        refine awl_seq ?_
        refine awl_regS [(some 4, (.assign (.const (.bool true))), none)] rfl fun K hK => ?_
        try simp only [go_sem, simprocAttr, h30]
        repeat' (refine And.intro (by first | rfl | omega | (simp; done)) ?_)
        refine hK _ _ ⟨_, _, Wk.keep [] rfl, awl_live' [4] fun ρ hL => ?_⟩
        try simp only [go_sem, simprocAttr, h30] at hL
        try clear h30
        have h4 := hL
        clear hL
        try simp only [go_sem, simprocAttr]
        clear hK K
        refine awl_ret ?_
        refine ret0 (by simp only [go_sem, simprocAttr, h4]; exact rfl) ?_
        try simp only [go_sem, simprocAttr]
        all_goals (rfl)
end Go.Proofs.Ytlkpicpeoimcjaa.AM
