/- The law Found. No conditions but those each theorem bears. -/
import Derived.Test.YtgddflnhibhacaaFa
import Derived.Test.YtgddflnhibhacaaCa13
import Derived.Test.YtgddflnhibhacaaCa15
set_option linter.unusedSimpArgs false
set_option linter.unusedVariables false
namespace Go.Proofs.Ytgddflnhibhacaa.AM
open Go

set_option maxHeartbeats 8000000 in
set_option maxRecDepth 100000 in
theorem sat_laws_FnExactFound (c : Cor) (i : Int) (by_ : Word) (a : Int) (hs : c.sm) : Sat Try.prog 7 [.agg c.cells, .int .i64 i, .agg by_.cells, .int .i64 a] [] (.bool true) [] := by
  refine sat_mk [.tmp 8] 0 55 Try.call7 Try.func7 Try.ntmps7 rfl rfl rfl rfl rfl ?_
  refine awl_live' [0, 1, 2, 3] fun ρ hL => ?_
  try simp only [go_sem, simprocAttr] at hL
  obtain ⟨h0, h1, h2, h3⟩ := hL
  refine awl_seq ?_
  refine awl_regS [(some 4, (.box 56 (.tmp 0)), none), (some 6, (.box 31 (.tmp 2)), none), (some 8, (.assign (.const (.bool false))), none)] rfl fun K hK => ?_
  try simp only [go_sem, simprocAttr, h0, h1, h2, h3]
  repeat' (refine And.intro (by first | exact f1.1 | assumption) ?_)
  refine hK _ _ ⟨_, _, Wk.keep [0, 1] rfl, awl_live' [1, 3, 4, 6] fun ρ hL => ?_⟩
  try simp only [go_sem, simprocAttr, h0, h1, h2, h3] at hL
  try clear h0 h1 h2 h3
  obtain ⟨h1, h3, h4, h6⟩ := hL
  try simp only [go_sem, simprocAttr]
  clear hK K
  refine awl_seq ?_
  refine awl_regS [(some 9, (.assign (.const (.int .i64 1048576))), none)] rfl fun K hK => ?_
  try simp only [go_sem, simprocAttr, h1, h3, h4, h6]
  repeat' (refine And.intro (by first | exact f1.1 | assumption) ?_)
  refine hK _ _ ⟨_, _, Wk.keep [0, 1] rfl, awl_live' [1, 3, 4, 6, 9] fun ρ hL => ?_⟩
  try simp only [go_sem, simprocAttr, h1, h3, h4, h6] at hL
  try clear h1 h3 h4 h6
  obtain ⟨h1, h3, h4, h6, h9⟩ := hL
  try simp only [go_sem, simprocAttr]
  clear hK K
  refine awl_seq ?_
  refine awl_regS [(some 15, (.load 56 (.tmp 4)), none), (some 16, (.move (.tmp 9)), none), (some 17, (.call ⟨(.value (.func 29)), #[(.tmp 15), (.tmp 16)], #[56, 3]⟩), none), (some 9, (.assign (.tmp 17)), none)] rfl fun K hK => ?_
  try simp only [go_sem, simprocAttr, h1, h3, h4, h6, h9]
  repeat' (refine And.intro (by first | exact f1.1 | assumption) ?_)
  refine opS_call_ro rfl (sat_laws_szCore c 1048576 hs ⟨by decide, by decide⟩) ?ha ?hv ?hh ?_
  case ha => simp only [go_sem, simprocAttr, h1, h3, h4, h6, h9]; first | done | rfl
  case hv => first | rfl | (simp only [go_sem]; done)
  case hh => first | rfl | (simp only [go_sem]; done)
  try simp only [go_sem, simprocAttr, h1, h3, h4, h6, h9]
  repeat' (refine And.intro (by first | exact f1.1 | assumption) ?_)
  refine hK _ _ ⟨_, _, Wk.keep [0, 1] rfl, awl_live' [1, 3, 4, 6, 9] fun ρ hL => ?_⟩
  try simp only [go_sem, simprocAttr, h1, h3, h4, h6, h9] at hL
  try clear h1 h3 h4 h6 h9
  obtain ⟨h1, h3, h4, h6, h9⟩ := hL
  try simp only [go_sem, simprocAttr]
  clear hK K
  refine awl_seq ?_
  refine awl_seq ?_
  refine awl_regS [(some 18, (.move (.tmp 9)), none), (some 19, (.binOp .lss 3 (.tmp 18) (.const (.int .i64 0)) 3), none)] rfl fun K hK => ?_
  try simp only [go_sem, simprocAttr, h1, h3, h4, h6, h9]
  repeat' (refine And.intro (by first | exact f1.1 | assumption) ?_)
  refine hK _ _ ⟨_, _, Wk.keep [0, 1] rfl, awl_live' [1, 3, 4, 6, 19] fun ρ hL => ?_⟩
  try simp only [go_sem, simprocAttr, h1, h3, h4, h6, h9] at hL
  try clear h1 h3 h4 h6 h9
  obtain ⟨h1, h3, h4, h6, h19⟩ := hL
  try simp only [go_sem, simprocAttr]
  clear hK K
  refine awl_cond h19 (fun c1 => ?_) (fun c1 => ?_)
  ·
    try simp only [cnd] at c1
    refine awl_seq ?_
    refine awl_regS [(some 8, (.assign (.const (.bool true))), none)] rfl fun K hK => ?_
    try simp only [go_sem, simprocAttr, h1, h3, h4, h6, h19]
    repeat' (refine And.intro (by first | exact f1.1 | assumption) ?_)
    refine hK _ _ ⟨_, _, Wk.keep [] rfl, awl_live' [8] fun ρ hL => ?_⟩
    try simp only [go_sem, simprocAttr, h1, h3, h4, h6, h19] at hL
    try clear h1 h3 h4 h6 h19
    have h8 := hL
    clear hL
    try simp only [go_sem, simprocAttr]
    clear hK K
    refine awl_ret ?_
    refine ret0 (by simp only [go_sem, simprocAttr, h8]; exact rfl) ?_
    try simp only [go_sem, simprocAttr]
    all_goals (rfl)
  ·
    try simp only [cnd] at c1
    have f1 := szC_ok (l := 1048576) ⟨by decide, by decide⟩ c1
    refine awl_skip ?_
    refine awl_seq ?_
    refine awl_regD mixed [(some 21, (.load 56 (.tmp 4)), none), (some 22, (.call ⟨(.value (.func 31)), #[(.tmp 21)], #[56]⟩), none), (some 23, (.move (.tmp 1)), none), (some 24, (.load 31 (.tmp 6)), none), (some 25, (.call ⟨(.value (.func 35)), #[(.tmp 24)], #[31]⟩), none), (some 26, (.move (.tmp 3)), none), (some 27, (.call ⟨(.value (.func 34)), #[(.tmp 22), (.tmp 23), (.tmp 25), (.tmp 26)], #[61, 3, 42, 3]⟩), none), (some 20, (.move (.tmp 27)), none), (some 28, (.extract (.tmp 20) 0), none), (some 29, (.extract (.tmp 20) 1), none), (some 10, (.alloc 42), none), (none, (.store 42 (.tmp 10) (.tmp 28)), none), (some 11, (.assign (.tmp 29)), none)] rfl fun K hK => ?_
    try simp only [go_sem, simprocAttr, h1, h3, h4, h6, h19]
    repeat' (refine And.intro (by first | omega | (exact ⟨[0, 1, 0, 0, 11, 0, 63, 127, 255, 255, 0, 1535, 4095], by kernel_rfl⟩) | kernel_rfl) ?_)
    refine dS_call_ro rfl (sat_laws_toCore ?_ ?hp0) ?ha ?hv ?hh ?_
    case ha => simp only [go_sem, simprocAttr, h1, h3, h4, h6, h19]; first | done | rfl
    case hp0 => first | exact f1.1 | assumption
    case hv => first | rfl | (simp only [go_sem]; done)
    case hh => first | rfl | (simp only [go_sem]; done)
    try simp only [go_sem, simprocAttr, h1, h3, h4, h6, h19]
    repeat' (refine And.intro (by first | omega | (exact ⟨[0, 1, 0, 0, 11, 0, 63, 127, 255, 255, 0, 1535, 4095], by kernel_rfl⟩) | kernel_rfl) ?_)
    refine dS_call_ro rfl (sat_laws_toWord ?_) ?ha ?hv ?hh ?_
    case ha => simp only [go_sem, simprocAttr, h1, h3, h4, h6, h19]; first | done | rfl
    case hv => first | rfl | (simp only [go_sem]; done)
    case hh => first | rfl | (simp only [go_sem]; done)
    try simp only [go_sem, simprocAttr, h1, h3, h4, h6, h19]
    repeat' (refine And.intro (by first | omega | (exact ⟨[0, 1, 0, 0, 11, 0, 63, 127, 255, 255, 0, 1535, 4095], by kernel_rfl⟩) | kernel_rfl) ?_)
    refine dS_call_ro rfl (sat_spec_Found ?_ ?_ ?_ ?_ ?hp0) ?ha ?hv ?hh ?_
    case ha => simp only [go_sem, simprocAttr, h1, h3, h4, h6, h19]; first | done | rfl
    case hp0 => first | exact f1.1 | assumption
    case hv => first | rfl | (simp only [go_sem]; done)
    case hh => first | rfl | (simp only [go_sem]; done)
    try simp only [go_sem, simprocAttr, h1, h3, h4, h6, h19]
    repeat' (refine And.intro (by first | omega | (exact ⟨[0, 1, 0, 0, 11, 0, 63, 127, 255, 255, 0, 1535, 4095], by kernel_rfl⟩) | kernel_rfl) ?_)
    refine hK _ _ ⟨_, _, Wk.keep [0, 1, 7] rfl, awl_live' [1, 3, 4, 6, 10, 11] fun ρ hL => ?_⟩
    try simp only [go_sem, simprocAttr, h1, h3, h4, h6, h19] at hL
    try clear h1 h3 h4 h6 h19
    obtain ⟨h1, h3, h4, h6, h10, h11⟩ := hL
    try simp only [go_sem, simprocAttr]
    clear hK K
    refine awl_seq ?_
    refine awl_regS [(some 30, (.load 56 (.tmp 4)), none), (some 31, (.call ⟨(.value (.func 31)), #[(.tmp 30)], #[56]⟩), none), (some 12, (.alloc 61), none), (none, (.store 61 (.tmp 12) (.tmp 31)), none)] rfl fun K hK => ?_
    try simp only [go_sem, simprocAttr, h1, h3, h4, h6, h10, h11]
    repeat' (refine And.intro (by first | exact f1.1 | assumption) ?_)
    refine opS_call_ro rfl (sat_laws_toCore ?_ ?hp0) ?ha ?hv ?hh ?_
    case ha => simp only [go_sem, simprocAttr, h1, h3, h4, h6, h10, h11]; first | done | rfl
    case hp0 => first | exact f1.1 | assumption
    case hv => first | rfl | (simp only [go_sem]; done)
    case hh => first | rfl | (simp only [go_sem]; done)
    try simp only [go_sem, simprocAttr, h1, h3, h4, h6, h10, h11]
    repeat' (refine And.intro (by first | exact f1.1 | assumption) ?_)
    refine hK _ _ ⟨_, _, Wk.keep [0, 1, 2, 8, 3, 4, 5, 6, 7] rfl, awl_live' [1, 3, 4, 6, 10, 11, 12] fun ρ hL => ?_⟩
    try simp only [go_sem, simprocAttr, h1, h3, h4, h6, h10, h11] at hL
    try clear h1 h3 h4 h6 h10 h11
    obtain ⟨h1, h3, h4, h6, h10, h11, h12⟩ := hL
    try simp only [go_sem, simprocAttr]
    clear hK K
    refine awl_seq ?_
    refine awl_regD mixed [(some 33, (.load 61 (.tmp 12)), none), (some 34, (.move (.tmp 1)), none), (some 35, (.load 31 (.tmp 6)), none), (some 36, (.call ⟨(.value (.func 35)), #[(.tmp 35)], #[31]⟩), none), (some 37, (.move (.tmp 3)), none), (some 38, (.call ⟨(.value (.func 36)), #[(.tmp 33), (.tmp 34), (.tmp 36), (.tmp 37)], #[61, 3, 42, 3]⟩), none), (some 32, (.move (.tmp 38)), none), (some 39, (.extract (.tmp 32) 0), none), (some 40, (.extract (.tmp 32) 1), none), (some 13, (.alloc 42), none), (none, (.store 42 (.tmp 13) (.tmp 39)), none), (some 14, (.assign (.tmp 40)), none)] rfl fun K hK => ?_
    try simp only [go_sem, simprocAttr, h1, h3, h4, h6, h10, h11, h12]
    repeat' (refine And.intro (by first | omega | (exact ⟨[0, 0, 0, 4, 0, 31, 63, 127, 127, 0, 767, 2047], by kernel_rfl⟩) | kernel_rfl) ?_)
    refine dS_call_ro rfl (sat_laws_toWord ?_) ?ha ?hv ?hh ?_
    case ha => simp only [go_sem, simprocAttr, h1, h3, h4, h6, h10, h11, h12]; first | done | rfl
    case hv => first | rfl | (simp only [go_sem]; done)
    case hh => first | rfl | (simp only [go_sem]; done)
    try simp only [go_sem, simprocAttr, h1, h3, h4, h6, h10, h11, h12]
    repeat' (refine And.intro (by first | omega | (exact ⟨[0, 0, 0, 4, 0, 31, 63, 127, 127, 0, 767, 2047], by kernel_rfl⟩) | kernel_rfl) ?_)
    refine dS_call_ro rfl (sat_impl_Found ?_ ?_ ?_ ?_ ?hp0) ?ha ?hv ?hh ?_
    case ha => simp only [go_sem, simprocAttr, h1, h3, h4, h6, h10, h11, h12]; first | done | rfl
    case hp0 => first | exact f1.1 | assumption
    case hv => first | rfl | (simp only [go_sem]; done)
    case hh => first | rfl | (simp only [go_sem]; done)
    try simp only [go_sem, simprocAttr, h1, h3, h4, h6, h10, h11, h12]
    repeat' (refine And.intro (by first | omega | (exact ⟨[0, 0, 0, 4, 0, 31, 63, 127, 127, 0, 767, 2047], by kernel_rfl⟩) | kernel_rfl) ?_)
    refine hK _ _ ⟨_, _, Wk.keep [0, 2, 3, 4, 5, 6, 7, 8, 9] rfl, awl_live' [4, 10, 11, 12, 13, 14] fun ρ hL => ?_⟩
    try simp only [go_sem, simprocAttr, h1, h3, h4, h6, h10, h11, h12] at hL
    try clear h1 h3 h4 h6 h10 h11 h12
    obtain ⟨h4, h10, h11, h12, h13, h14⟩ := hL
    try simp only [go_sem, simprocAttr]
    clear hK K
    refine awl_seq ?_
    refine awl_seq ?_
    refine awl_regS [(some 41, (.load 42 (.tmp 13)), none), (some 42, (.load 42 (.tmp 10)), none), (some 43, (.call ⟨(.value (.func 37)), #[(.tmp 41), (.tmp 42)], #[42, 42]⟩), none), (some 44, (.unOp .not 4 (.tmp 43)), none), (some 45, (.move (.tmp 44)), none), (some 46, (.move (.tmp 14)), some (45, false)), (some 47, (.move (.tmp 11)), some (45, false)), (some 48, (.binOp .neq 3 (.tmp 46) (.tmp 47) 3), some (45, false)), (some 49, (.pick (.tmp 45) (.const (.bool true)) (.tmp 48)), none)] rfl fun K hK => ?_
    try simp only [go_sem, simprocAttr, h4, h10, h11, h12, h13, h14]
    repeat' (refine And.intro (by first | exact f1.1 | assumption) ?_)
    refine opS_call_ro rfl (sat_laws_eqWord ?_ ?_) ?ha ?hv ?hh ?_
    case ha => simp only [go_sem, simprocAttr, h4, h10, h11, h12, h13, h14]; first | done | rfl
    case hv => first | rfl | (simp only [go_sem]; done)
    case hh => first | rfl | (simp only [go_sem]; done)
    try simp only [go_sem, simprocAttr, h4, h10, h11, h12, h13, h14]
    repeat' (refine And.intro (by first | exact f1.1 | assumption) ?_)
    refine awpS_live [4, 11, 12, 14, 45] fun ρ hL => ?_
    try simp only [go_sem, simprocAttr, h4, h10, h11, h12, h13, h14] at hL
    try clear h4 h10 h11 h12 h13 h14
    obtain ⟨h4, h11, h12, h14, h45⟩ := hL
    refine grp_orN (tc := 45) (tv := 48) (td := 49) (v := ?v1) 3 rfl [4, 12] h45 rfl (fun hb K1 hK1 => ?run) (fun hb => ?skip) (fun ρ hP hL => ?_)
    case skip =>
      exact awpS_skip (want := false) (b := _) (by rw [hb]; rfl) _ [] ρ h45 (fun _ _ => rfl) (by simp) rfl
    case run =>
      simp only [List.take_succ_cons, List.take_zero]
      rw [hb] at h45
      try simp only [go_sem, simprocAttr, h4, h11, h12, h14, h45]
      repeat' (refine And.intro (by first | exact f1.1 | assumption) ?_)
      exact hK1 _ (by simp only [go_sem, simprocAttr, h4, h11, h12, h14, h45]) (by simp only [go_sem, simprocAttr, h4, h11, h12, h14, h45]; exact rfl) (by simp only [go_sem, simprocAttr, h4, h11, h12, h14, h45])
    simp only [List.drop_succ_cons, List.drop_zero]
    try simp only [go_sem, simprocAttr, h4, h11, h12, h14, h45] at hL
    try clear h4 h11 h12 h14 h45
    obtain ⟨h4, h12⟩ := hL
    have h49 := hP
    clear hP
    try simp only [go_sem, simprocAttr, h4, h12, h49]
    repeat' (refine And.intro (by first | exact f1.1 | assumption) ?_)
    refine hK _ _ ⟨_, _, Wk.keep [0, 2, 3, 4, 5, 6, 7] rfl, awl_live' [4, 12, 49] fun ρ hL => ?_⟩
    try simp only [go_sem, simprocAttr, h4, h12, h49] at hL
    try clear h4 h12 h49
    obtain ⟨h4, h12, h49⟩ := hL
    try simp only [go_sem, simprocAttr]
    clear hK K
    refine awl_cond h49 (fun c2 => ?_) (fun c2 => ?_)
    ·
      try simp only [cnd] at c2
      first | (simp at c2; done) | (simp at c2; omega) | omega
    ·
      try simp only [cnd] at c2
      refine awl_skip ?_
      refine awl_seq ?_
      refine awl_seq ?_
      refine awl_regD mixed [(some 50, (.load 61 (.tmp 12)), none), (some 51, (.load 56 (.tmp 4)), none), (some 52, (.call ⟨(.value (.func 31)), #[(.tmp 51)], #[56]⟩), none), (some 53, (.call ⟨(.value (.func 33)), #[(.tmp 50), (.tmp 52)], #[61, 61]⟩), none), (some 54, (.unOp .not 4 (.tmp 53)), none)] rfl fun K hK => ?_
      try simp only [go_sem, simprocAttr, h4, h12, h49]
      repeat' (refine And.intro (by first | omega | (exact ⟨[0, 0, 2, 7, 15], by kernel_rfl⟩) | kernel_rfl) ?_)
      refine dS_call_ro rfl (sat_laws_toCore ?_ ?hp0) ?ha ?hv ?hh ?_
      case ha => simp only [go_sem, simprocAttr, h4, h12, h49]; first | done | rfl
      case hp0 => first | exact f1.1 | assumption
      case hv => first | rfl | (simp only [go_sem]; done)
      case hh => first | rfl | (simp only [go_sem]; done)
      try simp only [go_sem, simprocAttr, h4, h12, h49]
      repeat' (refine And.intro (by first | omega | (exact ⟨[0, 0, 2, 7, 15], by kernel_rfl⟩) | kernel_rfl) ?_)
      refine dS_call_ro rfl (sat_laws_eqCore ?_ ?_ ?hp0) ?ha ?hv ?hh ?_
      case ha => simp only [go_sem, simprocAttr, h4, h12, h49]; first | done | rfl
      case hp0 => first | exact f1.1 | assumption
      case hv => first | rfl | (simp only [go_sem]; done)
      case hh => first | rfl | (simp only [go_sem]; done)
      try simp only [go_sem, simprocAttr, h4, h12, h49]
      repeat' (refine And.intro (by first | omega | (exact ⟨[0, 0, 2, 7, 15], by kernel_rfl⟩) | kernel_rfl) ?_)
      refine hK _ _ ⟨_, _, Wk.keep [] rfl, awl_live' [54] fun ρ hL => ?_⟩
      try simp only [go_sem, simprocAttr, h4, h12, h49] at hL
      try clear h4 h12 h49
      have h54 := hL
      clear hL
      try simp only [go_sem, simprocAttr]
      clear hK K
      refine awl_cond h54 (fun c3 => ?_) (fun c3 => ?_)
      ·
        try simp only [cnd] at c3
        first | (simp at c3; done) | (simp at c3; omega) | omega
      ·
        try simp only [cnd] at c3
        refine awl_skip ?_
        refine awl_seq ?_
        refine awl_regS [(some 8, (.assign (.const (.bool true))), none)] rfl fun K hK => ?_
        try simp only [go_sem, simprocAttr, h54]
        repeat' (refine And.intro (by first | exact f1.1 | assumption) ?_)
        refine hK _ _ ⟨_, _, Wk.keep [] rfl, awl_live' [8] fun ρ hL => ?_⟩
        try simp only [go_sem, simprocAttr, h54] at hL
        try clear h54
        have h8 := hL
        clear hL
        try simp only [go_sem, simprocAttr]
        clear hK K
        refine awl_ret ?_
        refine ret0 (by simp only [go_sem, simprocAttr, h8]; exact rfl) ?_
        try simp only [go_sem, simprocAttr]
        all_goals (rfl)
end Go.Proofs.Ytgddflnhibhacaa.AM
