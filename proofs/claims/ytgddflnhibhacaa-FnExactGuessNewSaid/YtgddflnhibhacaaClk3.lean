/- The law GuessNew. No conditions but those each theorem bears. -/
import Derived.Test.YtgddflnhibhacaaFa
import Derived.Test.YtgddflnhibhacaaCa26
set_option linter.unusedSimpArgs false
set_option linter.unusedVariables false
namespace Go.Proofs.Ytgddflnhibhacaa.AM
open Go

set_option maxHeartbeats 8000000 in
set_option maxRecDepth 100000 in
theorem sat_laws_FnExactGuessNew   : Sat Try.prog 3 [] [] (.bool true) [] := by
  refine sat_mk [.tmp 0] 0 36 Try.call3 Try.func3 Try.ntmps3 rfl rfl rfl rfl rfl ?_
  refine awl_live' [] fun ρ hL => ?_
  clear hL 
  refine awl_seq ?_
  refine awl_regS [(some 0, (.assign (.const (.bool false))), none)] rfl fun K hK => ?_
  try simp only [go_sem, simprocAttr, gl48]
  repeat' (refine And.intro (by first | rfl | omega | (simp; done)) ?_)
  refine hK _ _ ⟨_, _, Wk.keep [] rfl, awl_live' [] fun ρ hL => ?_⟩
  clear hL 
  try simp only [go_sem, simprocAttr, gl48]
  clear hK K
  refine awl_seq ?_
  refine awl_regS [(some 6, (.call ⟨(.value (.func 13)), #[], #[]⟩), none), (some 1, (.assign (.tmp 6)), none)] rfl fun K hK => ?_
  try simp only [go_sem, simprocAttr, gl48]
  repeat' (refine And.intro (by first | rfl | omega | (simp; done)) ?_)
  refine opS_call_ro rfl (sat_spec_GuessNew) ?ha ?hv ?hh ?_
  case ha => simp only [go_sem, simprocAttr, gl48]; first | done | rfl
  case hv => first | rfl | (simp only [go_sem]; done)
  case hh => first | rfl | (simp only [go_sem]; done)
  try simp only [go_sem, simprocAttr, gl48]
  repeat' (refine And.intro (by first | rfl | omega | (simp; done)) ?_)
  refine hK _ _ ⟨_, _, Wk.keep [0] rfl, awl_live' [1] fun ρ hL => ?_⟩
  try simp only [go_sem, simprocAttr, gl48] at hL
  have h1 := hL
  clear hL
  try simp only [go_sem, simprocAttr, gl48]
  clear hK K
  refine awl_seq ?_
  refine awl_regS [(some 7, (.call ⟨(.value (.func 14)), #[], #[]⟩), none), (some 2, (.assign (.tmp 7)), none)] rfl fun K hK => ?_
  try simp only [go_sem, simprocAttr, h1, gl48]
  repeat' (refine And.intro (by first | rfl | omega | (simp; done)) ?_)
  refine opS_call_ro rfl (sat_impl_GuessNew) ?ha ?hv ?hh ?_
  case ha => simp only [go_sem, simprocAttr, h1, gl48]; first | done | rfl
  case hv => first | rfl | (simp only [go_sem]; done)
  case hh => first | rfl | (simp only [go_sem]; done)
  try simp only [go_sem, simprocAttr, h1, gl48]
  repeat' (refine And.intro (by first | rfl | omega | (simp; done)) ?_)
  refine hK _ _ ⟨_, _, Wk.keep [0, 1] rfl, awl_live' [1, 2] fun ρ hL => ?_⟩
  try simp only [go_sem, simprocAttr, h1, gl48] at hL
  try clear h1
  obtain ⟨h1, h2⟩ := hL
  try simp only [go_sem, simprocAttr, gl48]
  clear hK K
  refine awl_seq ?_
  refine awl_seq ?_
  refine awl_regS [(some 8, (.move (.tmp 2)), none), (some 9, (.move (.tmp 1)), none), (some 10, (.call ⟨(.value (.func 15)), #[(.tmp 8), (.tmp 9)], #[22, 22]⟩), none), (some 11, (.unOp .not 4 (.tmp 10)), none)] rfl fun K hK => ?_
  try simp only [go_sem, simprocAttr, h1, h2, gl48]
  repeat' (refine And.intro (by first | rfl | omega | (simp; done)) ?_)
  refine opS_call_ro rfl (sat_laws_eqIntS guessNew guessNew 48 48 (by decide)) ?ha ?hv ?hh ?_
  case ha => simp only [go_sem, simprocAttr, h1, h2, gl48]; first | done | rfl
  case hv => first | rfl | (simp only [go_sem]; done)
  case hh => first | rfl | (simp only [go_sem]; done)
  try simp only [go_sem, simprocAttr, h1, h2, gl48]
  repeat' (refine And.intro (by first | rfl | omega | (simp; done)) ?_)
  refine hK _ _ ⟨_, _, Wk.keep [0, 1] rfl, awl_live' [1, 2, 11] fun ρ hL => ?_⟩
  try simp only [go_sem, simprocAttr, h1, h2, gl48] at hL
  try clear h1 h2
  obtain ⟨h1, h2, h11⟩ := hL
  try simp only [go_sem, simprocAttr, gl48]
  clear hK K
  refine awl_cond h11 (fun c1 => ?_) (fun c1 => ?_)
  ·
    try simp only [cnd] at c1
    first | done | (simp at c1; done) | (simp at c1; omega) | omega
  ·
    try simp only [cnd] at c1
    refine awl_skip ?_
    refine awl_seq ?_
    refine awl_regS [(some 3, (.assign (.const (.int .i64 1))), none)] rfl fun K hK => ?_
    try simp only [go_sem, simprocAttr, h1, h2, h11, gl48]
    repeat' (refine And.intro (by first | rfl | omega | (simp; done)) ?_)
    refine hK _ _ ⟨_, _, Wk.keep [0, 1] rfl, awl_live' [1, 2, 3] fun ρ hL => ?_⟩
    try simp only [go_sem, simprocAttr, h1, h2, h11, gl48] at hL
    try clear h1 h2 h11
    obtain ⟨h1, h2, h3⟩ := hL
    try simp only [go_sem, simprocAttr, gl48]
    clear hK K
    refine awl_seq ?_
    refine awl_regS [(some 12, (.move (.tmp 2)), none), (some 13, (.move (.tmp 3)), none), (some 14, (.call ⟨(.value (.func 16)), #[(.tmp 12), (.tmp 13)], #[22, 3]⟩), none), (some 3, (.assign (.tmp 14)), none)] rfl fun K hK => ?_
    try simp only [go_sem, simprocAttr, h1, h2, h3, gl48]
    repeat' (refine And.intro (by first | rfl | omega | (simp; done)) ?_)
    refine opS_call_in [1] rfl (sat_laws_markIntS guessNew 1 0 (by decide) (by decide)) ?ha ?hb ?hv ?hh (by decide) rfl ?_
    case ha => simp only [go_sem, simprocAttr, h1, h2, h3, gl48]; first | done | rfl
    case hb => simp only [go_sem, simprocAttr, h1, h2, h3, gl48]; first | done | rfl
    case hv => first | rfl | (simp only [go_sem]; done)
    case hh => first | rfl | (simp only [go_sem]; done)
    try simp only [go_sem, simprocAttr, h1, h2, h3, gl48]
    repeat' (refine And.intro (by first | rfl | omega | (simp; done)) ?_)
    refine hK _ _ ⟨_, _, Wk.keep [0, 1] rfl, awl_live' [1, 2, 3] fun ρ hL => ?_⟩
    try simp only [go_sem, simprocAttr, h1, h2, h3, gl48] at hL
    try clear h1 h2 h3
    obtain ⟨h1, h2, h3⟩ := hL
    try simp only [go_sem, simprocAttr, gl48]
    clear hK K
    refine awl_seq ?_
    refine awl_regS [(some 4, (.assign (.const (.int .i64 1))), none)] rfl fun K hK => ?_
    try simp only [go_sem, simprocAttr, h1, h2, h3, gl48]
    repeat' (refine And.intro (by first | rfl | omega | (simp; done)) ?_)
    refine hK _ _ ⟨_, _, Wk.keep [0, 1] rfl, awl_live' [1, 2, 3, 4] fun ρ hL => ?_⟩
    try simp only [go_sem, simprocAttr, h1, h2, h3, gl48] at hL
    try clear h1 h2 h3
    obtain ⟨h1, h2, h3, h4⟩ := hL
    try simp only [go_sem, simprocAttr, gl48]
    clear hK K
    refine awl_seq ?_
    refine awl_regS [(some 15, (.move (.tmp 2)), none), (some 16, (.move (.tmp 4)), none), (some 17, (.call ⟨(.value (.func 17)), #[(.tmp 15), (.tmp 16)], #[22, 3]⟩), none), (some 4, (.assign (.tmp 17)), none)] rfl fun K hK => ?_
    try simp only [go_sem, simprocAttr, h1, h2, h3, h4, gl48]
    repeat' (refine And.intro (by first | rfl | omega | (simp; done)) ?_)
    refine opS_call_ro rfl (sat_laws_heldIntS 48 1 48 (by decide) (by decide)) ?ha ?hv ?hh ?_
    case ha => simp only [go_sem, simprocAttr, h1, h2, h3, h4, gl48]; first | done | rfl
    case hv => first | rfl | (simp only [go_sem]; done)
    case hh => first | rfl | (simp only [go_sem]; done)
    try simp only [go_sem, simprocAttr, h1, h2, h3, h4, gl48]
    repeat' (refine And.intro (by first | rfl | omega | (simp; done)) ?_)
    refine hK _ _ ⟨_, _, Wk.keep [0, 1] rfl, awl_live' [1, 2, 3, 4] fun ρ hL => ?_⟩
    try simp only [go_sem, simprocAttr, h1, h2, h3, h4, gl48] at hL
    try clear h1 h2 h3 h4
    obtain ⟨h1, h2, h3, h4⟩ := hL
    try simp only [go_sem, simprocAttr, gl48]
    clear hK K
    refine awl_seq ?_
    refine awl_seq ?_
    refine awl_regS [(some 18, (.move (.tmp 4)), none), (some 19, (.binOp .lss 3 (.tmp 18) (.const (.int .i64 0)) 3), none)] rfl fun K hK => ?_
    try simp only [go_sem, simprocAttr, h1, h2, h3, h4, gl48]
    repeat' (refine And.intro (by first | rfl | omega | (simp; done)) ?_)
    refine hK _ _ ⟨_, _, Wk.keep [0, 1] rfl, awl_live' [1, 2, 3, 4, 19] fun ρ hL => ?_⟩
    try simp only [go_sem, simprocAttr, h1, h2, h3, h4, gl48] at hL
    try clear h1 h2 h3 h4
    obtain ⟨h1, h2, h3, h4, h19⟩ := hL
    try simp only [go_sem, simprocAttr, gl48]
    clear hK K
    refine awl_cond h19 (fun c2 => ?_) (fun c2 => ?_)
    ·
      try simp only [cnd] at c2
      first | done | (simp at c2; done) | (simp at c2; omega) | omega
    ·
      try simp only [cnd] at c2
      refine awl_skip ?_
      refine awl_seq ?_
      refine awl_seq ?_
      refine awl_regS [(some 20, (.move (.tmp 4)), none), (some 21, (.move (.tmp 3)), none), (some 22, (.binOp .neq 3 (.tmp 20) (.tmp 21) 3), none)] rfl fun K hK => ?_
      try simp only [go_sem, simprocAttr, h1, h2, h3, h4, h19, gl48]
      repeat' (refine And.intro (by first | rfl | omega | (simp; done)) ?_)
      refine hK _ _ ⟨_, _, Wk.keep [0, 1] rfl, awl_live' [1, 2, 3, 22] fun ρ hL => ?_⟩
      try simp only [go_sem, simprocAttr, h1, h2, h3, h4, h19, gl48] at hL
      try clear h1 h2 h3 h4 h19
      obtain ⟨h1, h2, h3, h22⟩ := hL
      try simp only [go_sem, simprocAttr, gl48]
      clear hK K
      refine awl_cond h22 (fun c3 => ?_) (fun c3 => ?_)
      ·
        try simp only [cnd] at c3
        first | done | (simp at c3; done) | (simp at c3; omega) | omega
      ·
        try simp only [cnd] at c3
        refine awl_skip ?_
        refine awl_seq ?_
        refine awl_regS [(some 23, (.call ⟨(.value (.func 14)), #[], #[]⟩), none), (some 5, (.assign (.tmp 23)), none)] rfl fun K hK => ?_
        try simp only [go_sem, simprocAttr, h1, h2, h3, h22, gl48]
        repeat' (refine And.intro (by first | rfl | omega | (simp; done)) ?_)
        refine opS_call_ro rfl (sat_impl_GuessNew) ?ha ?hv ?hh ?_
        case ha => simp only [go_sem, simprocAttr, h1, h2, h3, h22, gl48]; first | done | rfl
        case hv => first | rfl | (simp only [go_sem]; done)
        case hh => first | rfl | (simp only [go_sem]; done)
        try simp only [go_sem, simprocAttr, h1, h2, h3, h22, gl48]
        repeat' (refine And.intro (by first | rfl | omega | (simp; done)) ?_)
        refine hK _ _ ⟨_, _, Wk.keep [0, 1, 2] rfl, awl_live' [1, 2, 3, 5] fun ρ hL => ?_⟩
        try simp only [go_sem, simprocAttr, h1, h2, h3, h22, gl48] at hL
        try clear h1 h2 h3 h22
        obtain ⟨h1, h2, h3, h5⟩ := hL
        try simp only [go_sem, simprocAttr, gl48]
        clear hK K
        refine awl_seq ?_
        refine awl_seq ?_
        refine awl_regS [(some 24, (.move (.tmp 5)), none), (some 25, (.move (.tmp 1)), none), (some 26, (.call ⟨(.value (.func 15)), #[(.tmp 24), (.tmp 25)], #[22, 22]⟩), none), (some 27, (.unOp .not 4 (.tmp 26)), none)] rfl fun K hK => ?_
        try simp only [go_sem, simprocAttr, h1, h2, h3, h5, gl48]
        repeat' (refine And.intro (by first | rfl | omega | (simp; done)) ?_)
        refine opS_call_ro rfl (sat_laws_eqIntS guessNew guessNew 48 48 (by decide)) ?ha ?hv ?hh ?_
        case ha => simp only [go_sem, simprocAttr, h1, h2, h3, h5, gl48]; first | done | rfl
        case hv => first | rfl | (simp only [go_sem]; done)
        case hh => first | rfl | (simp only [go_sem]; done)
        try simp only [go_sem, simprocAttr, h1, h2, h3, h5, gl48]
        repeat' (refine And.intro (by first | rfl | omega | (simp; done)) ?_)
        refine hK _ _ ⟨_, _, Wk.keep [1] rfl, awl_live' [2, 3, 27] fun ρ hL => ?_⟩
        try simp only [go_sem, simprocAttr, h1, h2, h3, h5, gl48] at hL
        try clear h1 h2 h3 h5
        obtain ⟨h2, h3, h27⟩ := hL
        try simp only [go_sem, simprocAttr, gl48]
        clear hK K
        refine awl_cond h27 (fun c4 => ?_) (fun c4 => ?_)
        ·
          try simp only [cnd] at c4
          first | done | (simp at c4; done) | (simp at c4; omega) | omega
        ·
          try simp only [cnd] at c4
          refine awl_skip ?_
          refine awl_seq ?_
          refine awl_regS [(some 4, (.assign (.const (.int .i64 1))), none)] rfl fun K hK => ?_
          try simp only [go_sem, simprocAttr, h2, h3, h27, gl48]
          repeat' (refine And.intro (by first | rfl | omega | (simp; done)) ?_)
          refine hK _ _ ⟨_, _, Wk.keep [0] rfl, awl_live' [2, 3, 4] fun ρ hL => ?_⟩
          try simp only [go_sem, simprocAttr, h2, h3, h27, gl48] at hL
          try clear h2 h3 h27
          obtain ⟨h2, h3, h4⟩ := hL
          try simp only [go_sem, simprocAttr, gl48]
          clear hK K
          refine awl_seq ?_
          refine awl_regS [(some 28, (.move (.tmp 2)), none), (some 29, (.move (.tmp 4)), none), (some 30, (.call ⟨(.value (.func 17)), #[(.tmp 28), (.tmp 29)], #[22, 3]⟩), none), (some 4, (.assign (.tmp 30)), none)] rfl fun K hK => ?_
          try simp only [go_sem, simprocAttr, h2, h3, h4, gl48]
          repeat' (refine And.intro (by first | rfl | omega | (simp; done)) ?_)
          refine opS_call_ro rfl (sat_laws_heldIntS 48 1 48 (by decide) (by decide)) ?ha ?hv ?hh ?_
          case ha => simp only [go_sem, simprocAttr, h2, h3, h4, gl48]; first | done | rfl
          case hv => first | rfl | (simp only [go_sem]; done)
          case hh => first | rfl | (simp only [go_sem]; done)
          try simp only [go_sem, simprocAttr, h2, h3, h4, gl48]
          repeat' (refine And.intro (by first | rfl | omega | (simp; done)) ?_)
          refine hK _ _ ⟨_, _, Wk.keep [] rfl, awl_live' [3, 4] fun ρ hL => ?_⟩
          try simp only [go_sem, simprocAttr, h2, h3, h4, gl48] at hL
          try clear h2 h3 h4
          obtain ⟨h3, h4⟩ := hL
          try simp only [go_sem, simprocAttr, gl48]
          clear hK K
          refine awl_seq ?_
          refine awl_seq ?_
          refine awl_regS [(some 31, (.move (.tmp 4)), none), (some 32, (.binOp .lss 3 (.tmp 31) (.const (.int .i64 0)) 3), none)] rfl fun K hK => ?_
          try simp only [go_sem, simprocAttr, h3, h4, gl48]
          repeat' (refine And.intro (by first | rfl | omega | (simp; done)) ?_)
          refine hK _ _ ⟨_, _, Wk.keep [] rfl, awl_live' [3, 4, 32] fun ρ hL => ?_⟩
          try simp only [go_sem, simprocAttr, h3, h4, gl48] at hL
          try clear h3 h4
          obtain ⟨h3, h4, h32⟩ := hL
          try simp only [go_sem, simprocAttr, gl48]
          clear hK K
          refine awl_cond h32 (fun c5 => ?_) (fun c5 => ?_)
          ·
            try simp only [cnd] at c5
            first | done | (simp at c5; done) | (simp at c5; omega) | omega
          ·
            try simp only [cnd] at c5
            refine awl_skip ?_
            refine awl_seq ?_
            refine awl_seq ?_
            refine awl_regS [(some 33, (.move (.tmp 4)), none), (some 34, (.move (.tmp 3)), none), (some 35, (.binOp .neq 3 (.tmp 33) (.tmp 34) 3), none)] rfl fun K hK => ?_
            try simp only [go_sem, simprocAttr, h3, h4, h32, gl48]
            repeat' (refine And.intro (by first | rfl | omega | (simp; done)) ?_)
            refine hK _ _ ⟨_, _, Wk.keep [] rfl, awl_live' [35] fun ρ hL => ?_⟩
            try simp only [go_sem, simprocAttr, h3, h4, h32, gl48] at hL
            try clear h3 h4 h32
            have h35 := hL
            clear hL
            try simp only [go_sem, simprocAttr, gl48]
            clear hK K
            refine awl_cond h35 (fun c6 => ?_) (fun c6 => ?_)
            ·
              try simp only [cnd] at c6
              first | done | (simp at c6; done) | (simp at c6; omega) | omega
            ·
              try simp only [cnd] at c6
              refine awl_skip ?_
              refine awl_seq ?_
              refine awl_regS [(some 0, (.assign (.const (.bool true))), none)] rfl fun K hK => ?_
              try simp only [go_sem, simprocAttr, h35, gl48]
              repeat' (refine And.intro (by first | rfl | omega | (simp; done)) ?_)
              refine hK _ _ ⟨_, _, Wk.keep [] rfl, awl_live' [0] fun ρ hL => ?_⟩
              try simp only [go_sem, simprocAttr, h35, gl48] at hL
              try clear h35
              have h0 := hL
              clear hL
              try simp only [go_sem, simprocAttr, gl48]
              clear hK K
              refine awl_ret ?_
              refine ret0 (by simp only [go_sem, simprocAttr, h0, gl48]; exact rfl) ?_
              try simp only [go_sem, simprocAttr]
              all_goals (rfl)
end Go.Proofs.Ytgddflnhibhacaa.AM
