/- The law Value. No conditions but those each theorem bears. -/
import Derived.Test.YtgddflnhibhacaaFa
import Derived.Test.YtgddflnhibhacaaCa13
import Derived.Test.YtgddflnhibhacaaCa14
set_option linter.unusedSimpArgs false
set_option linter.unusedVariables false
namespace Go.Proofs.Ytgddflnhibhacaa.AM
open Go

set_option maxHeartbeats 8000000 in
set_option maxRecDepth 100000 in
theorem sat_laws_FnExactValue (c : Cor) (i : Int) (r : Int) (hs : c.sm) : Sat Try.prog 10 [.agg c.cells, .int .i64 i, .int .i64 r] [] (.bool true) [] := by
  refine sat_mk [.tmp 6] 0 49 Try.call10 Try.func10 Try.ntmps10 rfl rfl rfl rfl rfl ?_
  refine awl_live' [0, 1, 2] fun ρ hL => ?_
  try simp only [go_sem, simprocAttr] at hL
  obtain ⟨h0, h1, h2⟩ := hL
  refine awl_seq ?_
  refine awl_regS [(some 3, (.box 56 (.tmp 0)), none), (some 6, (.assign (.const (.bool false))), none)] rfl fun K hK => ?_
  try simp only [go_sem, simprocAttr, h0, h1, h2]
  repeat' (refine And.intro (by first | exact f1.1 | assumption) ?_)
  refine hK _ _ ⟨_, _, Wk.keep [0] rfl, awl_live' [1, 2, 3] fun ρ hL => ?_⟩
  try simp only [go_sem, simprocAttr, h0, h1, h2] at hL
  try clear h0 h1 h2
  obtain ⟨h1, h2, h3⟩ := hL
  try simp only [go_sem, simprocAttr]
  clear hK K
  refine awl_seq ?_
  refine awl_regS [(some 7, (.assign (.const (.int .i64 1048576))), none)] rfl fun K hK => ?_
  try simp only [go_sem, simprocAttr, h1, h2, h3]
  repeat' (refine And.intro (by first | exact f1.1 | assumption) ?_)
  refine hK _ _ ⟨_, _, Wk.keep [0] rfl, awl_live' [1, 2, 3, 7] fun ρ hL => ?_⟩
  try simp only [go_sem, simprocAttr, h1, h2, h3] at hL
  try clear h1 h2 h3
  obtain ⟨h1, h2, h3, h7⟩ := hL
  try simp only [go_sem, simprocAttr]
  clear hK K
  refine awl_seq ?_
  refine awl_regS [(some 13, (.load 56 (.tmp 3)), none), (some 14, (.move (.tmp 7)), none), (some 15, (.call ⟨(.value (.func 29)), #[(.tmp 13), (.tmp 14)], #[56, 3]⟩), none), (some 7, (.assign (.tmp 15)), none)] rfl fun K hK => ?_
  try simp only [go_sem, simprocAttr, h1, h2, h3, h7]
  repeat' (refine And.intro (by first | exact f1.1 | assumption) ?_)
  refine opS_call_ro rfl (sat_laws_szCore c 1048576 hs ⟨by decide, by decide⟩) ?ha ?hv ?hh ?_
  case ha => simp only [go_sem, simprocAttr, h1, h2, h3, h7]; first | done | rfl
  case hv => first | rfl | (simp only [go_sem]; done)
  case hh => first | rfl | (simp only [go_sem]; done)
  try simp only [go_sem, simprocAttr, h1, h2, h3, h7]
  repeat' (refine And.intro (by first | exact f1.1 | assumption) ?_)
  refine hK _ _ ⟨_, _, Wk.keep [0] rfl, awl_live' [1, 2, 3, 7] fun ρ hL => ?_⟩
  try simp only [go_sem, simprocAttr, h1, h2, h3, h7] at hL
  try clear h1 h2 h3 h7
  obtain ⟨h1, h2, h3, h7⟩ := hL
  try simp only [go_sem, simprocAttr]
  clear hK K
  refine awl_seq ?_
  refine awl_seq ?_
  refine awl_regS [(some 16, (.move (.tmp 7)), none), (some 17, (.binOp .lss 3 (.tmp 16) (.const (.int .i64 0)) 3), none)] rfl fun K hK => ?_
  try simp only [go_sem, simprocAttr, h1, h2, h3, h7]
  repeat' (refine And.intro (by first | exact f1.1 | assumption) ?_)
  refine hK _ _ ⟨_, _, Wk.keep [0] rfl, awl_live' [1, 2, 3, 17] fun ρ hL => ?_⟩
  try simp only [go_sem, simprocAttr, h1, h2, h3, h7] at hL
  try clear h1 h2 h3 h7
  obtain ⟨h1, h2, h3, h17⟩ := hL
  try simp only [go_sem, simprocAttr]
  clear hK K
  refine awl_cond h17 (fun c1 => ?_) (fun c1 => ?_)
  ·
    try simp only [cnd] at c1
    refine awl_seq ?_
    refine awl_regS [(some 6, (.assign (.const (.bool true))), none)] rfl fun K hK => ?_
    try simp only [go_sem, simprocAttr, h1, h2, h3, h17]
    repeat' (refine And.intro (by first | exact f1.1 | assumption) ?_)
    refine hK _ _ ⟨_, _, Wk.keep [] rfl, awl_live' [6] fun ρ hL => ?_⟩
    try simp only [go_sem, simprocAttr, h1, h2, h3, h17] at hL
    try clear h1 h2 h3 h17
    have h6 := hL
    clear hL
    try simp only [go_sem, simprocAttr]
    clear hK K
    refine awl_ret ?_
    refine ret0 (by simp only [go_sem, simprocAttr, h6]; exact rfl) ?_
    try simp only [go_sem, simprocAttr]
    all_goals (rfl)
  ·
    try simp only [cnd] at c1
    have f1 := szC_ok (l := 1048576) ⟨by decide, by decide⟩ c1
    refine awl_skip ?_
    refine awl_seq ?_
    refine awl_regS [(some 19, (.load 56 (.tmp 3)), none), (some 20, (.call ⟨(.value (.func 31)), #[(.tmp 19)], #[56]⟩), none), (some 21, (.move (.tmp 1)), none), (some 22, (.move (.tmp 2)), none), (some 23, (.call ⟨(.value (.func 43)), #[(.tmp 20), (.tmp 21), (.tmp 22)], #[61, 3, 3]⟩), none), (some 18, (.move (.tmp 23)), none), (some 24, (.extract (.tmp 18) 0), none), (some 25, (.extract (.tmp 18) 1), none), (some 8, (.alloc 42), none), (none, (.store 42 (.tmp 8) (.tmp 24)), none), (some 9, (.assign (.tmp 25)), none)] rfl fun K hK => ?_
    try simp only [go_sem, simprocAttr, h1, h2, h3, h17]
    repeat' (refine And.intro (by first | exact f1.1 | assumption) ?_)
    refine opS_call_ro rfl (sat_laws_toCore ?_ ?hp0) ?ha ?hv ?hh ?_
    case ha => simp only [go_sem, simprocAttr, h1, h2, h3, h17]; first | done | rfl
    case hp0 => first | exact f1.1 | assumption
    case hv => first | rfl | (simp only [go_sem]; done)
    case hh => first | rfl | (simp only [go_sem]; done)
    try simp only [go_sem, simprocAttr, h1, h2, h3, h17]
    repeat' (refine And.intro (by first | exact f1.1 | assumption) ?_)
    refine opS_call_ro rfl (sat_spec_Value ?_ ?_ ?_ ?hp0) ?ha ?hv ?hh ?_
    case ha => simp only [go_sem, simprocAttr, h1, h2, h3, h17]; first | done | rfl
    case hp0 => first | exact f1.1 | assumption
    case hv => first | rfl | (simp only [go_sem]; done)
    case hh => first | rfl | (simp only [go_sem]; done)
    try simp only [go_sem, simprocAttr, h1, h2, h3, h17]
    repeat' (refine And.intro (by first | exact f1.1 | assumption) ?_)
    refine hK _ _ ⟨_, _, Wk.keep [0, 6] rfl, awl_live' [1, 2, 3, 8, 9] fun ρ hL => ?_⟩
    try simp only [go_sem, simprocAttr, h1, h2, h3, h17] at hL
    try clear h1 h2 h3 h17
    obtain ⟨h1, h2, h3, h8, h9⟩ := hL
    try simp only [go_sem, simprocAttr]
    clear hK K
    refine awl_seq ?_
    refine awl_regS [(some 26, (.load 56 (.tmp 3)), none), (some 27, (.call ⟨(.value (.func 31)), #[(.tmp 26)], #[56]⟩), none), (some 10, (.alloc 61), none), (none, (.store 61 (.tmp 10) (.tmp 27)), none)] rfl fun K hK => ?_
    try simp only [go_sem, simprocAttr, h1, h2, h3, h8, h9]
    repeat' (refine And.intro (by first | exact f1.1 | assumption) ?_)
    refine opS_call_ro rfl (sat_laws_toCore ?_ ?hp0) ?ha ?hv ?hh ?_
    case ha => simp only [go_sem, simprocAttr, h1, h2, h3, h8, h9]; first | done | rfl
    case hp0 => first | exact f1.1 | assumption
    case hv => first | rfl | (simp only [go_sem]; done)
    case hh => first | rfl | (simp only [go_sem]; done)
    try simp only [go_sem, simprocAttr, h1, h2, h3, h8, h9]
    repeat' (refine And.intro (by first | exact f1.1 | assumption) ?_)
    refine hK _ _ ⟨_, _, Wk.keep [0, 1, 7, 2, 3, 4, 5, 6] rfl, awl_live' [1, 2, 3, 8, 9, 10] fun ρ hL => ?_⟩
    try simp only [go_sem, simprocAttr, h1, h2, h3, h8, h9] at hL
    try clear h1 h2 h3 h8 h9
    obtain ⟨h1, h2, h3, h8, h9, h10⟩ := hL
    try simp only [go_sem, simprocAttr]
    clear hK K
    refine awl_seq ?_
    refine awl_regS [(some 29, (.load 61 (.tmp 10)), none), (some 30, (.move (.tmp 1)), none), (some 31, (.move (.tmp 2)), none), (some 32, (.call ⟨(.value (.func 44)), #[(.tmp 29), (.tmp 30), (.tmp 31)], #[61, 3, 3]⟩), none), (some 28, (.move (.tmp 32)), none), (some 33, (.extract (.tmp 28) 0), none), (some 34, (.extract (.tmp 28) 1), none), (some 11, (.alloc 42), none), (none, (.store 42 (.tmp 11) (.tmp 33)), none), (some 12, (.assign (.tmp 34)), none)] rfl fun K hK => ?_
    try simp only [go_sem, simprocAttr, h1, h2, h3, h8, h9, h10]
    repeat' (refine And.intro (by first | exact f1.1 | assumption) ?_)
    refine opS_call_ro rfl (sat_impl_Value ?_ ?_ ?_ ?hp0) ?ha ?hv ?hh ?_
    case ha => simp only [go_sem, simprocAttr, h1, h2, h3, h8, h9, h10]; first | done | rfl
    case hp0 => first | exact f1.1 | assumption
    case hv => first | rfl | (simp only [go_sem]; done)
    case hh => first | rfl | (simp only [go_sem]; done)
    try simp only [go_sem, simprocAttr, h1, h2, h3, h8, h9, h10]
    repeat' (refine And.intro (by first | exact f1.1 | assumption) ?_)
    refine hK _ _ ⟨_, _, Wk.keep [0, 1, 2, 3, 4, 5, 6, 7, 8] rfl, awl_live' [3, 8, 9, 10, 11, 12] fun ρ hL => ?_⟩
    try simp only [go_sem, simprocAttr, h1, h2, h3, h8, h9, h10] at hL
    try clear h1 h2 h3 h8 h9 h10
    obtain ⟨h3, h8, h9, h10, h11, h12⟩ := hL
    try simp only [go_sem, simprocAttr]
    clear hK K
    refine awl_seq ?_
    refine awl_seq ?_
    refine awl_regS [(some 35, (.load 42 (.tmp 11)), none), (some 36, (.load 42 (.tmp 8)), none), (some 37, (.call ⟨(.value (.func 37)), #[(.tmp 35), (.tmp 36)], #[42, 42]⟩), none), (some 38, (.unOp .not 4 (.tmp 37)), none), (some 39, (.move (.tmp 38)), none), (some 40, (.move (.tmp 12)), some (39, false)), (some 41, (.move (.tmp 9)), some (39, false)), (some 42, (.binOp .neq 4 (.tmp 40) (.tmp 41) 4), some (39, false)), (some 43, (.pick (.tmp 39) (.const (.bool true)) (.tmp 42)), none)] rfl fun K hK => ?_
    try simp only [go_sem, simprocAttr, h3, h8, h9, h10, h11, h12]
    repeat' (refine And.intro (by first | exact f1.1 | assumption) ?_)
    refine opS_call_ro rfl (sat_laws_eqWord ?_ ?_) ?ha ?hv ?hh ?_
    case ha => simp only [go_sem, simprocAttr, h3, h8, h9, h10, h11, h12]; first | done | rfl
    case hv => first | rfl | (simp only [go_sem]; done)
    case hh => first | rfl | (simp only [go_sem]; done)
    try simp only [go_sem, simprocAttr, h3, h8, h9, h10, h11, h12]
    repeat' (refine And.intro (by first | exact f1.1 | assumption) ?_)
    refine awpS_live [3, 9, 10, 12, 39] fun ρ hL => ?_
    try simp only [go_sem, simprocAttr, h3, h8, h9, h10, h11, h12] at hL
    try clear h3 h8 h9 h10 h11 h12
    obtain ⟨h3, h9, h10, h12, h39⟩ := hL
    refine grp_orN (tc := 39) (tv := 42) (td := 43) (v := ?v1) 3 rfl [3, 10] h39 rfl (fun hb K1 hK1 => ?run) (fun hb => ?skip) (fun ρ hP hL => ?_)
    case skip =>
      exact awpS_skip (want := false) (b := _) (by rw [hb]; rfl) _ [] ρ h39 (fun _ _ => rfl) (by simp) rfl
    case run =>
      simp only [List.take_succ_cons, List.take_zero]
      rw [hb] at h39
      try simp only [go_sem, simprocAttr, h3, h9, h10, h12, h39]
      repeat' (refine And.intro (by first | exact f1.1 | assumption) ?_)
      exact hK1 _ (by simp only [go_sem, simprocAttr, h3, h9, h10, h12, h39]) (by simp only [go_sem, simprocAttr, h3, h9, h10, h12, h39]; exact rfl) (by simp only [go_sem, simprocAttr, h3, h9, h10, h12, h39])
    simp only [List.drop_succ_cons, List.drop_zero]
    try simp only [go_sem, simprocAttr, h3, h9, h10, h12, h39] at hL
    try clear h3 h9 h10 h12 h39
    obtain ⟨h3, h10⟩ := hL
    have h43 := hP
    clear hP
    try simp only [go_sem, simprocAttr, h3, h10, h43]
    repeat' (refine And.intro (by first | exact f1.1 | assumption) ?_)
    refine hK _ _ ⟨_, _, Wk.keep [0, 2, 3, 4, 5, 6, 7] rfl, awl_live' [3, 10, 43] fun ρ hL => ?_⟩
    try simp only [go_sem, simprocAttr, h3, h10, h43] at hL
    try clear h3 h10 h43
    obtain ⟨h3, h10, h43⟩ := hL
    try simp only [go_sem, simprocAttr]
    clear hK K
    refine awl_cond h43 (fun c2 => ?_) (fun c2 => ?_)
    ·
      try simp only [cnd] at c2
      first | (simp at c2; done) | (simp at c2; omega) | omega
    ·
      try simp only [cnd] at c2
      refine awl_skip ?_
      refine awl_seq ?_
      refine awl_seq ?_
      refine awl_regD mixed [(some 44, (.load 61 (.tmp 10)), none), (some 45, (.load 56 (.tmp 3)), none), (some 46, (.call ⟨(.value (.func 31)), #[(.tmp 45)], #[56]⟩), none), (some 47, (.call ⟨(.value (.func 33)), #[(.tmp 44), (.tmp 46)], #[61, 61]⟩), none), (some 48, (.unOp .not 4 (.tmp 47)), none)] rfl fun K hK => ?_
      try simp only [go_sem, simprocAttr, h3, h10, h43]
      repeat' (refine And.intro (by first | omega | (exact ⟨[0, 0, 2, 7, 15], by kernel_rfl⟩) | kernel_rfl) ?_)
      refine dS_call_ro rfl (sat_laws_toCore ?_ ?hp0) ?ha ?hv ?hh ?_
      case ha => simp only [go_sem, simprocAttr, h3, h10, h43]; first | done | rfl
      case hp0 => first | exact f1.1 | assumption
      case hv => first | rfl | (simp only [go_sem]; done)
      case hh => first | rfl | (simp only [go_sem]; done)
      try simp only [go_sem, simprocAttr, h3, h10, h43]
      repeat' (refine And.intro (by first | omega | (exact ⟨[0, 0, 2, 7, 15], by kernel_rfl⟩) | kernel_rfl) ?_)
      refine dS_call_ro rfl (sat_laws_eqCore ?_ ?_ ?hp0) ?ha ?hv ?hh ?_
      case ha => simp only [go_sem, simprocAttr, h3, h10, h43]; first | done | rfl
      case hp0 => first | exact f1.1 | assumption
      case hv => first | rfl | (simp only [go_sem]; done)
      case hh => first | rfl | (simp only [go_sem]; done)
      try simp only [go_sem, simprocAttr, h3, h10, h43]
      repeat' (refine And.intro (by first | omega | (exact ⟨[0, 0, 2, 7, 15], by kernel_rfl⟩) | kernel_rfl) ?_)
      refine hK _ _ ⟨_, _, Wk.keep [] rfl, awl_live' [48] fun ρ hL => ?_⟩
      try simp only [go_sem, simprocAttr, h3, h10, h43] at hL
      try clear h3 h10 h43
      have h48 := hL
      clear hL
      try simp only [go_sem, simprocAttr]
      clear hK K
      refine awl_cond h48 (fun c3 => ?_) (fun c3 => ?_)
      ·
        try simp only [cnd] at c3
        first | (simp at c3; done) | (simp at c3; omega) | omega
      ·
        try simp only [cnd] at c3
        refine awl_skip ?_
        refine awl_seq ?_
        refine awl_regS [(some 6, (.assign (.const (.bool true))), none)] rfl fun K hK => ?_
        try simp only [go_sem, simprocAttr, h48]
        repeat' (refine And.intro (by first | exact f1.1 | assumption) ?_)
        refine hK _ _ ⟨_, _, Wk.keep [] rfl, awl_live' [6] fun ρ hL => ?_⟩
        try simp only [go_sem, simprocAttr, h48] at hL
        try clear h48
        have h6 := hL
        clear hL
        try simp only [go_sem, simprocAttr]
        clear hK K
        refine awl_ret ?_
        refine ret0 (by simp only [go_sem, simprocAttr, h6]; exact rfl) ?_
        try simp only [go_sem, simprocAttr]
        all_goals (rfl)
end Go.Proofs.Ytgddflnhibhacaa.AM
