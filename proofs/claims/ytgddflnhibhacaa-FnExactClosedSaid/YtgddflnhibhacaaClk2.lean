/- The law Closed. No conditions but those each theorem bears. -/
import Derived.Test.YtgddflnhibhacaaFa
import Derived.Test.YtgddflnhibhacaaCa19
set_option linter.unusedSimpArgs false
set_option linter.unusedVariables false
namespace Go.Proofs.Ytgddflnhibhacaa.AM
open Go

set_option maxHeartbeats 8000000 in
set_option maxRecDepth 100000 in
theorem sat_laws_FnExactClosed (s : Stt) (t : Stt) (hs : s.sm) (ht : t.sm) : Sat Try.prog 5 [.agg s.cells, .agg t.cells] [] (.bool true) [] := by
  refine sat_mk [.tmp 4] 0 45 Try.call5 Try.func5 Try.ntmps5 rfl rfl rfl rfl rfl ?_
  refine awl_live' [0, 1] fun ρ hL => ?_
  try simp only [go_sem, simprocAttr] at hL
  obtain ⟨h0, h1⟩ := hL
  refine awl_seq ?_
  refine awl_regS [(some 2, (.box 36 (.tmp 0)), none), (some 3, (.box 36 (.tmp 1)), none), (some 4, (.assign (.const (.bool false))), none)] rfl fun K hK => ?_
  try simp only [go_sem, simprocAttr, h0, h1]
  repeat' (refine And.intro (by first | exact f1.1 | exact f2.1 | assumption) ?_)
  refine hK _ _ ⟨_, _, Wk.keep [0, 1] rfl, awl_live' [2, 3] fun ρ hL => ?_⟩
  try simp only [go_sem, simprocAttr, h0, h1] at hL
  try clear h0 h1
  obtain ⟨h2, h3⟩ := hL
  try simp only [go_sem, simprocAttr]
  clear hK K
  refine awl_seq ?_
  refine awl_regS [(some 5, (.assign (.const (.int .i64 1048576))), none)] rfl fun K hK => ?_
  try simp only [go_sem, simprocAttr, h2, h3]
  repeat' (refine And.intro (by first | exact f1.1 | exact f2.1 | assumption) ?_)
  refine hK _ _ ⟨_, _, Wk.keep [0, 1] rfl, awl_live' [2, 3, 5] fun ρ hL => ?_⟩
  try simp only [go_sem, simprocAttr, h2, h3] at hL
  try clear h2 h3
  obtain ⟨h2, h3, h5⟩ := hL
  try simp only [go_sem, simprocAttr]
  clear hK K
  refine awl_seq ?_
  refine awl_regS [(some 10, (.load 36 (.tmp 2)), none), (some 11, (.move (.tmp 5)), none), (some 12, (.call ⟨(.value (.func 18)), #[(.tmp 10), (.tmp 11)], #[36, 3]⟩), none), (some 5, (.assign (.tmp 12)), none)] rfl fun K hK => ?_
  try simp only [go_sem, simprocAttr, h2, h3, h5]
  repeat' (refine And.intro (by first | exact f1.1 | exact f2.1 | assumption) ?_)
  refine opS_call_ro rfl (sat_laws_szState s 1048576 hs ⟨by decide, by decide⟩) ?ha ?hv ?hh ?_
  case ha => simp only [go_sem, simprocAttr, h2, h3, h5]; first | done | rfl
  case hv => first | rfl | (simp only [go_sem]; done)
  case hh => first | rfl | (simp only [go_sem]; done)
  try simp only [go_sem, simprocAttr, h2, h3, h5]
  repeat' (refine And.intro (by first | exact f1.1 | exact f2.1 | assumption) ?_)
  refine hK _ _ ⟨_, _, Wk.keep [0, 1] rfl, awl_live' [2, 3, 5] fun ρ hL => ?_⟩
  try simp only [go_sem, simprocAttr, h2, h3, h5] at hL
  try clear h2 h3 h5
  obtain ⟨h2, h3, h5⟩ := hL
  try simp only [go_sem, simprocAttr]
  clear hK K
  refine awl_seq ?_
  refine awl_seq ?_
  refine awl_regS [(some 13, (.move (.tmp 5)), none), (some 14, (.binOp .lss 3 (.tmp 13) (.const (.int .i64 0)) 3), none)] rfl fun K hK => ?_
  try simp only [go_sem, simprocAttr, h2, h3, h5]
  repeat' (refine And.intro (by first | exact f1.1 | exact f2.1 | assumption) ?_)
  refine hK _ _ ⟨_, _, Wk.keep [0, 1] rfl, awl_live' [2, 3, 5, 14] fun ρ hL => ?_⟩
  try simp only [go_sem, simprocAttr, h2, h3, h5] at hL
  try clear h2 h3 h5
  obtain ⟨h2, h3, h5, h14⟩ := hL
  try simp only [go_sem, simprocAttr]
  clear hK K
  refine awl_cond h14 (fun c1 => ?_) (fun c1 => ?_)
  ·
    try simp only [cnd] at c1
    refine awl_seq ?_
    refine awl_regS [(some 4, (.assign (.const (.bool true))), none)] rfl fun K hK => ?_
    try simp only [go_sem, simprocAttr, h2, h3, h5, h14]
    repeat' (refine And.intro (by first | exact f1.1 | exact f2.1 | assumption) ?_)
    refine hK _ _ ⟨_, _, Wk.keep [] rfl, awl_live' [4] fun ρ hL => ?_⟩
    try simp only [go_sem, simprocAttr, h2, h3, h5, h14] at hL
    try clear h2 h3 h5 h14
    have h4 := hL
    clear hL
    try simp only [go_sem, simprocAttr]
    clear hK K
    refine awl_ret ?_
    refine ret0 (by simp only [go_sem, simprocAttr, h4]; exact rfl) ?_
    try simp only [go_sem, simprocAttr]
    all_goals (rfl)
  ·
    try simp only [cnd] at c1
    have f1 := szS_ok (l := 1048576) ⟨by decide, by decide⟩ c1
    refine awl_skip ?_
    refine awl_seq ?_
    refine awl_regS [(some 15, (.load 36 (.tmp 3)), none), (some 16, (.move (.tmp 5)), none), (some 17, (.call ⟨(.value (.func 18)), #[(.tmp 15), (.tmp 16)], #[36, 3]⟩), none), (some 5, (.assign (.tmp 17)), none)] rfl fun K hK => ?_
    try simp only [go_sem, simprocAttr, h2, h3, h5, h14]
    repeat' (refine And.intro (by first | exact f1.1 | exact f2.1 | assumption) ?_)
    refine opS_call_ro rfl (sat_laws_szState t (szS 1048576 s) ht f1.2) ?ha ?hv ?hh ?_
    case ha => simp only [go_sem, simprocAttr, h2, h3, h5, h14]; first | done | rfl
    case hv => first | rfl | (simp only [go_sem]; done)
    case hh => first | rfl | (simp only [go_sem]; done)
    try simp only [go_sem, simprocAttr, h2, h3, h5, h14]
    repeat' (refine And.intro (by first | exact f1.1 | exact f2.1 | assumption) ?_)
    refine hK _ _ ⟨_, _, Wk.keep [0, 1] rfl, awl_live' [2, 3, 5] fun ρ hL => ?_⟩
    try simp only [go_sem, simprocAttr, h2, h3, h5, h14] at hL
    try clear h2 h3 h5 h14
    obtain ⟨h2, h3, h5⟩ := hL
    try simp only [go_sem, simprocAttr]
    clear hK K
    refine awl_seq ?_
    refine awl_seq ?_
    refine awl_regS [(some 18, (.move (.tmp 5)), none), (some 19, (.binOp .lss 3 (.tmp 18) (.const (.int .i64 0)) 3), none)] rfl fun K hK => ?_
    try simp only [go_sem, simprocAttr, h2, h3, h5]
    repeat' (refine And.intro (by first | exact f1.1 | exact f2.1 | assumption) ?_)
    refine hK _ _ ⟨_, _, Wk.keep [0, 1] rfl, awl_live' [2, 3, 19] fun ρ hL => ?_⟩
    try simp only [go_sem, simprocAttr, h2, h3, h5] at hL
    try clear h2 h3 h5
    obtain ⟨h2, h3, h19⟩ := hL
    try simp only [go_sem, simprocAttr]
    clear hK K
    refine awl_cond h19 (fun c2 => ?_) (fun c2 => ?_)
    ·
      try simp only [cnd] at c2
      refine awl_seq ?_
      refine awl_regS [(some 4, (.assign (.const (.bool true))), none)] rfl fun K hK => ?_
      try simp only [go_sem, simprocAttr, h2, h3, h19]
      repeat' (refine And.intro (by first | exact f1.1 | exact f2.1 | assumption) ?_)
      refine hK _ _ ⟨_, _, Wk.keep [] rfl, awl_live' [4] fun ρ hL => ?_⟩
      try simp only [go_sem, simprocAttr, h2, h3, h19] at hL
      try clear h2 h3 h19
      have h4 := hL
      clear hL
      try simp only [go_sem, simprocAttr]
      clear hK K
      refine awl_ret ?_
      refine ret0 (by simp only [go_sem, simprocAttr, h4]; exact rfl) ?_
      try simp only [go_sem, simprocAttr]
      all_goals (rfl)
    ·
      try simp only [cnd] at c2
      have f2 := szS_ok f1.2 c2
      refine awl_skip ?_
      refine awl_seq ?_
      refine awl_regD mixed [(some 20, (.load 36 (.tmp 2)), none), (some 21, (.call ⟨(.value (.func 20)), #[(.tmp 20)], #[36]⟩), none), (some 22, (.load 36 (.tmp 3)), none), (some 23, (.call ⟨(.value (.func 20)), #[(.tmp 22)], #[36]⟩), none), (some 24, (.call ⟨(.value (.func 27)), #[(.tmp 21), (.tmp 23)], #[46, 46]⟩), none), (some 6, (.assign (.tmp 24)), none)] rfl fun K hK => ?_
      try simp only [go_sem, simprocAttr, h2, h3, h19]
      repeat' (refine And.intro (by first | omega | (exact ⟨[0, 1, 0, 7, 15, 31], by kernel_rfl⟩) | kernel_rfl) ?_)
      refine dS_call_ro rfl (sat_laws_toState ?_ ?hp0) ?ha ?hv ?hh ?_
      case ha => simp only [go_sem, simprocAttr, h2, h3, h19]; first | done | rfl
      case hp0 => first | exact f1.1 | exact f2.1 | assumption
      case hv => first | rfl | (simp only [go_sem]; done)
      case hh => first | rfl | (simp only [go_sem]; done)
      try simp only [go_sem, simprocAttr, h2, h3, h19]
      repeat' (refine And.intro (by first | omega | (exact ⟨[0, 1, 0, 7, 15, 31], by kernel_rfl⟩) | kernel_rfl) ?_)
      refine dS_call_ro rfl (sat_laws_toState ?_ ?hp0) ?ha ?hv ?hh ?_
      case ha => simp only [go_sem, simprocAttr, h2, h3, h19]; first | done | rfl
      case hp0 => first | exact f1.1 | exact f2.1 | assumption
      case hv => first | rfl | (simp only [go_sem]; done)
      case hh => first | rfl | (simp only [go_sem]; done)
      try simp only [go_sem, simprocAttr, h2, h3, h19]
      repeat' (refine And.intro (by first | omega | (exact ⟨[0, 1, 0, 7, 15, 31], by kernel_rfl⟩) | kernel_rfl) ?_)
      refine dS_call_ro rfl (sat_spec_Closed ?_ ?_ ?hp0 ?hp1) ?ha ?hv ?hh ?_
      case ha => simp only [go_sem, simprocAttr, h2, h3, h19]; first | done | rfl
      case hp0 => first | exact f1.1 | exact f2.1 | assumption
      case hp1 => first | exact f1.1 | exact f2.1 | assumption
      case hv => first | rfl | (simp only [go_sem]; done)
      case hh => first | rfl | (simp only [go_sem]; done)
      try simp only [go_sem, simprocAttr, h2, h3, h19]
      repeat' (refine And.intro (by first | omega | (exact ⟨[0, 1, 0, 7, 15, 31], by kernel_rfl⟩) | kernel_rfl) ?_)
      refine hK _ _ ⟨_, _, Wk.keep [0, 1] rfl, awl_live' [2, 3, 6] fun ρ hL => ?_⟩
      try simp only [go_sem, simprocAttr, h2, h3, h19] at hL
      try clear h2 h3 h19
      obtain ⟨h2, h3, h6⟩ := hL
      try simp only [go_sem, simprocAttr]
      clear hK K
      refine awl_seq ?_
      refine awl_regS [(some 25, (.load 36 (.tmp 2)), none), (some 26, (.call ⟨(.value (.func 20)), #[(.tmp 25)], #[36]⟩), none), (some 7, (.alloc 46), none), (none, (.store 46 (.tmp 7) (.tmp 26)), none)] rfl fun K hK => ?_
      try simp only [go_sem, simprocAttr, h2, h3, h6]
      repeat' (refine And.intro (by first | exact f1.1 | exact f2.1 | assumption) ?_)
      refine opS_call_ro rfl (sat_laws_toState ?_ ?hp0) ?ha ?hv ?hh ?_
      case ha => simp only [go_sem, simprocAttr, h2, h3, h6]; first | done | rfl
      case hp0 => first | exact f1.1 | exact f2.1 | assumption
      case hv => first | rfl | (simp only [go_sem]; done)
      case hh => first | rfl | (simp only [go_sem]; done)
      try simp only [go_sem, simprocAttr, h2, h3, h6]
      repeat' (refine And.intro (by first | exact f1.1 | exact f2.1 | assumption) ?_)
      refine hK _ _ ⟨_, _, Wk.keep [0, 1, 5, 2, 3, 4] rfl, awl_live' [2, 3, 6, 7] fun ρ hL => ?_⟩
      try simp only [go_sem, simprocAttr, h2, h3, h6] at hL
      try clear h2 h3 h6
      obtain ⟨h2, h3, h6, h7⟩ := hL
      try simp only [go_sem, simprocAttr]
      clear hK K
      refine awl_seq ?_
      refine awl_regS [(some 27, (.load 36 (.tmp 3)), none), (some 28, (.call ⟨(.value (.func 20)), #[(.tmp 27)], #[36]⟩), none), (some 8, (.alloc 46), none), (none, (.store 46 (.tmp 8) (.tmp 28)), none)] rfl fun K hK => ?_
      try simp only [go_sem, simprocAttr, h2, h3, h6, h7]
      repeat' (refine And.intro (by first | exact f1.1 | exact f2.1 | assumption) ?_)
      refine opS_call_ro rfl (sat_laws_toState ?_ ?hp0) ?ha ?hv ?hh ?_
      case ha => simp only [go_sem, simprocAttr, h2, h3, h6, h7]; first | done | rfl
      case hp0 => first | exact f1.1 | exact f2.1 | assumption
      case hv => first | rfl | (simp only [go_sem]; done)
      case hh => first | rfl | (simp only [go_sem]; done)
      try simp only [go_sem, simprocAttr, h2, h3, h6, h7]
      repeat' (refine And.intro (by first | exact f1.1 | exact f2.1 | assumption) ?_)
      refine hK _ _ ⟨_, _, Wk.keep [0, 1, 2, 3, 4, 5, 9, 6, 7, 8] rfl, awl_live' [2, 3, 6, 7, 8] fun ρ hL => ?_⟩
      try simp only [go_sem, simprocAttr, h2, h3, h6, h7] at hL
      try clear h2 h3 h6 h7
      obtain ⟨h2, h3, h6, h7, h8⟩ := hL
      try simp only [go_sem, simprocAttr]
      clear hK K
      refine awl_seq ?_
      refine awl_regS [(some 29, (.load 46 (.tmp 7)), none), (some 30, (.load 46 (.tmp 8)), none), (some 31, (.call ⟨(.value (.func 28)), #[(.tmp 29), (.tmp 30)], #[46, 46]⟩), none), (some 9, (.assign (.tmp 31)), none)] rfl fun K hK => ?_
      try simp only [go_sem, simprocAttr, h2, h3, h6, h7, h8]
      repeat' (refine And.intro (by first | exact f1.1 | exact f2.1 | assumption) ?_)
      refine opS_call_ro rfl (sat_impl_Closed ?_ ?_ ?hp0 ?hp1) ?ha ?hv ?hh ?_
      case ha => simp only [go_sem, simprocAttr, h2, h3, h6, h7, h8]; first | done | rfl
      case hp0 => first | exact f1.1 | exact f2.1 | assumption
      case hp1 => first | exact f1.1 | exact f2.1 | assumption
      case hv => first | rfl | (simp only [go_sem]; done)
      case hh => first | rfl | (simp only [go_sem]; done)
      try simp only [go_sem, simprocAttr, h2, h3, h6, h7, h8]
      repeat' (refine And.intro (by first | exact f1.1 | exact f2.1 | assumption) ?_)
      refine hK _ _ ⟨_, _, Wk.keep [0, 1, 2, 3, 4, 5, 6, 7, 8, 9] rfl, awl_live' [2, 3, 6, 7, 8, 9] fun ρ hL => ?_⟩
      try simp only [go_sem, simprocAttr, h2, h3, h6, h7, h8] at hL
      try clear h2 h3 h6 h7 h8
      obtain ⟨h2, h3, h6, h7, h8, h9⟩ := hL
      try simp only [go_sem, simprocAttr]
      clear hK K
      refine awl_seq ?_
      refine awl_seq ?_
      refine awl_regS [(some 32, (.move (.tmp 9)), none), (some 33, (.move (.tmp 6)), none), (some 34, (.binOp .neq 4 (.tmp 32) (.tmp 33) 4), none)] rfl fun K hK => ?_
      try simp only [go_sem, simprocAttr, h2, h3, h6, h7, h8, h9]
      repeat' (refine And.intro (by first | exact f1.1 | exact f2.1 | assumption) ?_)
      refine hK _ _ ⟨_, _, Wk.keep [0, 1, 2, 3, 4, 5, 6, 7, 8, 9] rfl, awl_live' [2, 3, 7, 8, 34] fun ρ hL => ?_⟩
      try simp only [go_sem, simprocAttr, h2, h3, h6, h7, h8, h9] at hL
      try clear h2 h3 h6 h7 h8 h9
      obtain ⟨h2, h3, h7, h8, h34⟩ := hL
      try simp only [go_sem, simprocAttr]
      clear hK K
      refine awl_cond h34 (fun c3 => ?_) (fun c3 => ?_)
      ·
        try simp only [cnd] at c3
        first | (simp at c3; done) | (simp at c3; omega) | omega
      ·
        try simp only [cnd] at c3
        refine awl_skip ?_
        refine awl_seq ?_
        refine awl_seq ?_
        refine awl_regD mixed [(some 35, (.load 46 (.tmp 7)), none), (some 36, (.load 36 (.tmp 2)), none), (some 37, (.call ⟨(.value (.func 20)), #[(.tmp 36)], #[36]⟩), none), (some 38, (.call ⟨(.value (.func 23)), #[(.tmp 35), (.tmp 37)], #[46, 46]⟩), none), (some 39, (.unOp .not 4 (.tmp 38)), none)] rfl fun K hK => ?_
        try simp only [go_sem, simprocAttr, h2, h3, h7, h8, h34]
        repeat' (refine And.intro (by first | omega | (exact ⟨[0, 0, 2, 7, 15], by kernel_rfl⟩) | kernel_rfl) ?_)
        refine dS_call_ro rfl (sat_laws_toState ?_ ?hp0) ?ha ?hv ?hh ?_
        case ha => simp only [go_sem, simprocAttr, h2, h3, h7, h8, h34]; first | done | rfl
        case hp0 => first | exact f1.1 | exact f2.1 | assumption
        case hv => first | rfl | (simp only [go_sem]; done)
        case hh => first | rfl | (simp only [go_sem]; done)
        try simp only [go_sem, simprocAttr, h2, h3, h7, h8, h34]
        repeat' (refine And.intro (by first | omega | (exact ⟨[0, 0, 2, 7, 15], by kernel_rfl⟩) | kernel_rfl) ?_)
        refine dS_call_ro rfl (sat_laws_eqState ?_ ?_ ?hp0) ?ha ?hv ?hh ?_
        case ha => simp only [go_sem, simprocAttr, h2, h3, h7, h8, h34]; first | done | rfl
        case hp0 => first | exact f1.1 | exact f2.1 | assumption
        case hv => first | rfl | (simp only [go_sem]; done)
        case hh => first | rfl | (simp only [go_sem]; done)
        try simp only [go_sem, simprocAttr, h2, h3, h7, h8, h34]
        repeat' (refine And.intro (by first | omega | (exact ⟨[0, 0, 2, 7, 15], by kernel_rfl⟩) | kernel_rfl) ?_)
        refine hK _ _ ⟨_, _, Wk.keep [1, 6, 7, 8, 9] rfl, awl_live' [3, 8, 39] fun ρ hL => ?_⟩
        try simp only [go_sem, simprocAttr, h2, h3, h7, h8, h34] at hL
        try clear h2 h3 h7 h8 h34
        obtain ⟨h3, h8, h39⟩ := hL
        try simp only [go_sem, simprocAttr]
        clear hK K
        refine awl_cond h39 (fun c4 => ?_) (fun c4 => ?_)
        ·
          try simp only [cnd] at c4
          first | (simp at c4; done) | (simp at c4; omega) | omega
        ·
          try simp only [cnd] at c4
          refine awl_skip ?_
          refine awl_seq ?_
          refine awl_seq ?_
          refine awl_regD mixed [(some 40, (.load 46 (.tmp 8)), none), (some 41, (.load 36 (.tmp 3)), none), (some 42, (.call ⟨(.value (.func 20)), #[(.tmp 41)], #[36]⟩), none), (some 43, (.call ⟨(.value (.func 23)), #[(.tmp 40), (.tmp 42)], #[46, 46]⟩), none), (some 44, (.unOp .not 4 (.tmp 43)), none)] rfl fun K hK => ?_
          try simp only [go_sem, simprocAttr, h3, h8, h39]
          repeat' (refine And.intro (by first | omega | (exact ⟨[0, 0, 2, 7, 15], by kernel_rfl⟩) | kernel_rfl) ?_)
          refine dS_call_ro rfl (sat_laws_toState ?_ ?hp0) ?ha ?hv ?hh ?_
          case ha => simp only [go_sem, simprocAttr, h3, h8, h39]; first | done | rfl
          case hp0 => first | exact f1.1 | exact f2.1 | assumption
          case hv => first | rfl | (simp only [go_sem]; done)
          case hh => first | rfl | (simp only [go_sem]; done)
          try simp only [go_sem, simprocAttr, h3, h8, h39]
          repeat' (refine And.intro (by first | omega | (exact ⟨[0, 0, 2, 7, 15], by kernel_rfl⟩) | kernel_rfl) ?_)
          refine dS_call_ro rfl (sat_laws_eqState ?_ ?_ ?hp0) ?ha ?hv ?hh ?_
          case ha => simp only [go_sem, simprocAttr, h3, h8, h39]; first | done | rfl
          case hp0 => first | exact f1.1 | exact f2.1 | assumption
          case hv => first | rfl | (simp only [go_sem]; done)
          case hh => first | rfl | (simp only [go_sem]; done)
          try simp only [go_sem, simprocAttr, h3, h8, h39]
          repeat' (refine And.intro (by first | omega | (exact ⟨[0, 0, 2, 7, 15], by kernel_rfl⟩) | kernel_rfl) ?_)
          refine hK _ _ ⟨_, _, Wk.keep [] rfl, awl_live' [44] fun ρ hL => ?_⟩
          try simp only [go_sem, simprocAttr, h3, h8, h39] at hL
          try clear h3 h8 h39
          have h44 := hL
          clear hL
          try simp only [go_sem, simprocAttr]
          clear hK K
          refine awl_cond h44 (fun c5 => ?_) (fun c5 => ?_)
          ·
            try simp only [cnd] at c5
            first | (simp at c5; done) | (simp at c5; omega) | omega
          ·
            try simp only [cnd] at c5
            refine awl_skip ?_
            refine awl_seq ?_
            refine awl_regS [(some 4, (.assign (.const (.bool true))), none)] rfl fun K hK => ?_
            try simp only [go_sem, simprocAttr, h44]
            repeat' (refine And.intro (by first | exact f1.1 | exact f2.1 | assumption) ?_)
            refine hK _ _ ⟨_, _, Wk.keep [] rfl, awl_live' [4] fun ρ hL => ?_⟩
            try simp only [go_sem, simprocAttr, h44] at hL
            try clear h44
            have h4 := hL
            clear hL
            try simp only [go_sem, simprocAttr]
            clear hK K
            refine awl_ret ?_
            refine ret0 (by simp only [go_sem, simprocAttr, h4]; exact rfl) ?_
            try simp only [go_sem, simprocAttr]
            all_goals (rfl)
end Go.Proofs.Ytgddflnhibhacaa.AM
