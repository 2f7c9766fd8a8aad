/- The law on what is learnt. No conditions but those each theorem bears. -/
import Derived.Test.YtcjjopfmeipidaaFa
import Derived.Test.YtcjjopfmeipidaaSp2
import Derived.Test.YtcjjopfmeipidaaCa3
set_option linter.unusedSimpArgs false
set_option linter.unusedVariables false
namespace Go.Proofs.Ytcjjopfmeipidaa.AM
open Go

set_option maxHeartbeats 8000000 in
set_option maxRecDepth 100000 in
theorem sat_laws_FnExactLearn (xs : List Int) (w : Word) (v : Word) (c : Nat)  : Sat Try.prog 5 [.sl xs.length c (ints xs), .agg w.cells, .agg v.cells] [] (.bool true) [] := by
  refine sat_mk [.tmp 6] 0 82 Try.call5 Try.func5 Try.ntmps5 rfl rfl rfl rfl rfl ?_
  refine awl_live' [0, 1, 2] fun ρ hL => ?_
  try simp only [go_sem, simprocAttr, learn_len] at hL
  obtain ⟨h0, h1, h2⟩ := hL
  refine awl_seq ?_
  refine awl_regS [(some 4, (.box 31 (.tmp 1)), none), (some 5, (.box 31 (.tmp 2)), none), (some 6, (.assign (.const (.bool false))), none)] rfl fun K hK => ?_
  try simp only [go_sem, simprocAttr, h0, h1, h2, learn_len]
  repeat' (refine And.intro (by first | rfl | omega | (simp; done)) ?_)
  refine hK _ _ (awl_live' [0, 4, 5] fun ρ hL => ?_)
  try simp only [go_sem, simprocAttr, h0, h1, h2, learn_len] at hL
  clear h0 h1 h2
  obtain ⟨h0, h4, h5⟩ := hL
  clear hK K
  refine awl_seq ?_
  refine awl_seq ?_
  refine awl_regS [(some 14, (.move (.tmp 0)), none), (some 15, (.call ⟨(.builtin .len), #[(.tmp 14)], #[24]⟩), none), (some 16, (.binOp .gtr 3 (.tmp 15) (.const (.int .i64 1048576)) 3), none)] rfl fun K hK => ?_
  try simp only [go_sem, simprocAttr, h0, h4, h5, learn_len]
  repeat' (refine And.intro (by first | rfl | omega | (simp; done)) ?_)
  refine hK _ _ (awl_live' [0, 4, 5, 16] fun ρ hL => ?_)
  try simp only [go_sem, simprocAttr, h0, h4, h5, learn_len] at hL
  clear h0 h4 h5
  obtain ⟨h0, h4, h5, h16⟩ := hL
  clear hK K
  refine awl_cond h16 (fun c1 => ?_) (fun c1 => ?_)
  ·
    try simp only [cnd] at c1
    refine awl_seq ?_
    refine awl_regS [(some 6, (.assign (.const (.bool true))), none)] rfl fun K hK => ?_
    try simp only [go_sem, simprocAttr, h0, h4, h5, h16, learn_len]
    repeat' (refine And.intro (by first | rfl | omega | (simp; done)) ?_)
    refine hK _ _ (awl_live' [6] fun ρ hL => ?_)
    try simp only [go_sem, simprocAttr, h0, h4, h5, h16, learn_len] at hL
    clear h0 h4 h5 h16
    have h6 := hL
    clear hL
    clear hK K
    refine awl_ret ?_
    refine ret0 (by simp only [go_sem, simprocAttr, h6, learn_len]; exact rfl) ?_
    try simp only [go_sem, simprocAttr]
    all_goals (rfl)
  ·
    try simp only [cnd] at c1
    refine awl_skip ?_
    refine awl_seq ?_
    refine awl_regD mixed [(some 17, (.move (.tmp 0)), none), (some 18, (.call ⟨(.value (.func 12)), #[(.tmp 17)], #[24]⟩), none), (some 19, (.load 31 (.tmp 4)), none), (some 20, (.call ⟨(.value (.func 16)), #[(.tmp 19)], #[31]⟩), none), (some 21, (.load 31 (.tmp 5)), none), (some 22, (.call ⟨(.value (.func 16)), #[(.tmp 21)], #[31]⟩), none), (some 23, (.call ⟨(.value (.func 15)), #[(.tmp 18), (.tmp 20), (.tmp 22)], #[24, 35, 35]⟩), none), (some 7, (.assign (.tmp 23)), none)] rfl fun K hK => ?_
    try simp only [go_sem, simprocAttr, h0, h4, h5, h16, learn_len]
    repeat' (refine And.intro (by first | omega | kernel_rfl) ?_)
    refine dS_call_ro rfl (sat_laws_toIntS ?_ ?_ ?hp0) ?ha ?hv ?hh ?_
    case ha => simp only [go_sem, simprocAttr, h0, h4, h5, h16, learn_len]; first | done | rfl
    case hp0 => first | assumption | omega | (simp; done)
    case hv => first | rfl | (simp only [go_sem]; done)
    case hh => first | rfl | (simp only [go_sem]; done)
    try simp only [go_sem, simprocAttr, h0, h4, h5, h16, learn_len]
    repeat' (refine And.intro (by first | omega | kernel_rfl) ?_)
    refine dS_call_ro rfl (sat_laws_toWord ?_) ?ha ?hv ?hh ?_
    case ha => simp only [go_sem, simprocAttr, h0, h4, h5, h16, learn_len]; first | done | rfl
    case hv => first | rfl | (simp only [go_sem]; done)
    case hh => first | rfl | (simp only [go_sem]; done)
    try simp only [go_sem, simprocAttr, h0, h4, h5, h16, learn_len]
    repeat' (refine And.intro (by first | omega | kernel_rfl) ?_)
    refine dS_call_ro rfl (sat_laws_toWord ?_) ?ha ?hv ?hh ?_
    case ha => simp only [go_sem, simprocAttr, h0, h4, h5, h16, learn_len]; first | done | rfl
    case hv => first | rfl | (simp only [go_sem]; done)
    case hh => first | rfl | (simp only [go_sem]; done)
    try simp only [go_sem, simprocAttr, h0, h4, h5, h16, learn_len]
    repeat' (refine And.intro (by first | omega | kernel_rfl) ?_)
    refine dS_call_ro rfl (sat_spec_Learn ?_ ?_ ?_ ?_ ?hp0) ?ha ?hv ?hh ?_
    case ha => simp only [go_sem, simprocAttr, h0, h4, h5, h16, learn_len]; first | done | rfl
    case hp0 => first | assumption | omega | (simp; done)
    case hv => first | rfl | (simp only [go_sem]; done)
    case hh => first | rfl | (simp only [go_sem]; done)
    try simp only [go_sem, simprocAttr, h0, h4, h5, h16, learn_len]
    repeat' (refine And.intro (by first | omega | kernel_rfl) ?_)
    refine hK _ _ (awl_live' [0, 4, 5, 7] fun ρ hL => ?_)
    try simp only [go_sem, simprocAttr, h0, h4, h5, h16, learn_len] at hL
    clear h0 h4 h5 h16
    obtain ⟨h0, h4, h5, h7⟩ := hL
    clear hK K
    refine awl_seq ?_
    refine awl_regS [(some 24, (.move (.tmp 0)), none), (some 25, (.call ⟨(.value (.func 12)), #[(.tmp 24)], #[24]⟩), none), (some 8, (.assign (.tmp 25)), none)] rfl fun K hK => ?_
    try simp only [go_sem, simprocAttr, h0, h4, h5, h7, learn_len]
    repeat' (refine And.intro (by first | rfl | omega | (simp; done)) ?_)
    refine opS_call_ro rfl (sat_laws_toIntS ?_ ?_ ?hp0) ?ha ?hv ?hh ?_
    case ha => simp only [go_sem, simprocAttr, h0, h4, h5, h7, learn_len]; first | done | rfl
    case hp0 => first | assumption | omega | (simp; done)
    case hv => first | rfl | (simp only [go_sem]; done)
    case hh => first | rfl | (simp only [go_sem]; done)
    try simp only [go_sem, simprocAttr, h0, h4, h5, h7, learn_len]
    repeat' (refine And.intro (by first | rfl | omega | (simp; done)) ?_)
    refine hK _ _ (awl_live' [0, 4, 5, 7, 8] fun ρ hL => ?_)
    try simp only [go_sem, simprocAttr, h0, h4, h5, h7, learn_len] at hL
    clear h0 h4 h5 h7
    obtain ⟨h0, h4, h5, h7, h8⟩ := hL
    clear hK K
    refine awl_seq ?_
    refine awl_regD mixed [(some 26, (.move (.tmp 8)), none), (some 27, (.load 31 (.tmp 4)), none), (some 28, (.call ⟨(.value (.func 16)), #[(.tmp 27)], #[31]⟩), none), (some 29, (.load 31 (.tmp 5)), none), (some 30, (.call ⟨(.value (.func 16)), #[(.tmp 29)], #[31]⟩), none), (some 31, (.call ⟨(.value (.func 17)), #[(.tmp 26), (.tmp 28), (.tmp 30)], #[24, 35, 35]⟩), none), (some 9, (.assign (.tmp 31)), none)] rfl fun K hK => ?_
    try simp only [go_sem, simprocAttr, h0, h4, h5, h7, h8, learn_len]
    repeat' (refine And.intro (by first | omega | kernel_rfl) ?_)
    refine dS_call_ro rfl (sat_laws_toWord ?_) ?ha ?hv ?hh ?_
    case ha => simp only [go_sem, simprocAttr, h0, h4, h5, h7, h8, learn_len]; first | done | rfl
    case hv => first | rfl | (simp only [go_sem]; done)
    case hh => first | rfl | (simp only [go_sem]; done)
    try simp only [go_sem, simprocAttr, h0, h4, h5, h7, h8, learn_len]
    repeat' (refine And.intro (by first | omega | kernel_rfl) ?_)
    refine dS_call_ro rfl (sat_laws_toWord ?_) ?ha ?hv ?hh ?_
    case ha => simp only [go_sem, simprocAttr, h0, h4, h5, h7, h8, learn_len]; first | done | rfl
    case hv => first | rfl | (simp only [go_sem]; done)
    case hh => first | rfl | (simp only [go_sem]; done)
    try simp only [go_sem, simprocAttr, h0, h4, h5, h7, h8, learn_len]
    repeat' (refine And.intro (by first | omega | kernel_rfl) ?_)
    refine dS_call_ro rfl (sat_impl_Learn ?_ ?_ ?_ ?_ ?hp0) ?ha ?hv ?hh ?_
    case ha => simp only [go_sem, simprocAttr, h0, h4, h5, h7, h8, learn_len]; first | done | rfl
    case hp0 => first | assumption | omega | (simp; done)
    case hv => first | rfl | (simp only [go_sem]; done)
    case hh => first | rfl | (simp only [go_sem]; done)
    try simp only [go_sem, simprocAttr, h0, h4, h5, h7, h8, learn_len]
    repeat' (refine And.intro (by first | omega | kernel_rfl) ?_)
    refine hK _ _ (awl_live' [0, 4, 5, 7, 8, 9] fun ρ hL => ?_)
    try simp only [go_sem, simprocAttr, h0, h4, h5, h7, h8, learn_len] at hL
    clear h0 h4 h5 h7 h8
    obtain ⟨h0, h4, h5, h7, h8, h9⟩ := hL
    clear hK K
    refine awl_seq ?_
    refine awl_seq ?_
    refine awl_regS [(some 32, (.move (.tmp 9)), none), (some 33, (.move (.tmp 7)), none), (some 34, (.call ⟨(.value (.func 14)), #[(.tmp 32), (.tmp 33)], #[24, 24]⟩), none), (some 35, (.unOp .not 4 (.tmp 34)), none)] rfl fun K hK => ?_
    try simp only [go_sem, simprocAttr, h0, h4, h5, h7, h8, h9, learn_len]
    repeat' (refine And.intro (by first | rfl | omega | (simp; done)) ?_)
    refine opS_call_ro rfl (sat_laws_eqIntS (learn xs w v) (learn xs w v) ?_ ?_ ?hp0) ?ha ?hv ?hh ?_
    case ha => simp only [go_sem, simprocAttr, h0, h4, h5, h7, h8, h9, learn_len, learn_len]; first | done | rfl
    case hp0 => first | (simp only [learn_len]; omega) | omega
    case hv => first | rfl | (simp only [go_sem]; done)
    case hh => first | rfl | (simp only [go_sem]; done)
    try simp only [go_sem, simprocAttr, h0, h4, h5, h7, h8, h9, learn_len]
    repeat' (refine And.intro (by first | rfl | omega | (simp; done)) ?_)
    refine hK _ _ (awl_live' [0, 4, 5, 7, 8, 9, 35] fun ρ hL => ?_)
    try simp only [go_sem, simprocAttr, h0, h4, h5, h7, h8, h9, learn_len] at hL
    clear h0 h4 h5 h7 h8 h9
    obtain ⟨h0, h4, h5, h7, h8, h9, h35⟩ := hL
    clear hK K
    refine awl_cond h35 (fun c2 => ?_) (fun c2 => ?_)
    ·
      try simp only [cnd] at c2
      simp at c2
    ·
      try simp only [cnd] at c2
      refine awl_skip ?_
      refine awl_seq ?_
      refine awl_seq ?_
      refine awl_regS [(some 36, (.move (.tmp 8)), none), (some 37, (.move (.tmp 0)), none), (some 38, (.call ⟨(.value (.func 12)), #[(.tmp 37)], #[24]⟩), none), (some 39, (.call ⟨(.value (.func 14)), #[(.tmp 36), (.tmp 38)], #[24, 24]⟩), none), (some 40, (.unOp .not 4 (.tmp 39)), none)] rfl fun K hK => ?_
      try simp only [go_sem, simprocAttr, h0, h4, h5, h7, h8, h9, h35, learn_len]
      repeat' (refine And.intro (by first | rfl | omega | (simp; done)) ?_)
      refine opS_call_ro rfl (sat_laws_toIntS ?_ ?_ ?hp0) ?ha ?hv ?hh ?_
      case ha => simp only [go_sem, simprocAttr, h0, h4, h5, h7, h8, h9, h35, learn_len]; first | done | rfl
      case hp0 => first | assumption | omega | (simp; done)
      case hv => first | rfl | (simp only [go_sem]; done)
      case hh => first | rfl | (simp only [go_sem]; done)
      try simp only [go_sem, simprocAttr, h0, h4, h5, h7, h8, h9, h35, learn_len]
      repeat' (refine And.intro (by first | rfl | omega | (simp; done)) ?_)
      refine opS_call_ro rfl (sat_laws_eqIntS ?_ ?_ ?_ ?_ ?hp0) ?ha ?hv ?hh ?_
      case ha => simp only [go_sem, simprocAttr, h0, h4, h5, h7, h8, h9, h35, learn_len]; first | done | rfl
      case hp0 => first | assumption | omega | (simp; done)
      case hv => first | rfl | (simp only [go_sem]; done)
      case hh => first | rfl | (simp only [go_sem]; done)
      try simp only [go_sem, simprocAttr, h0, h4, h5, h7, h8, h9, h35, learn_len]
      repeat' (refine And.intro (by first | rfl | omega | (simp; done)) ?_)
      refine hK _ _ (awl_live' [0, 4, 5, 7, 8, 9, 40] fun ρ hL => ?_)
      try simp only [go_sem, simprocAttr, h0, h4, h5, h7, h8, h9, h35, learn_len] at hL
      clear h0 h4 h5 h7 h8 h9 h35
      obtain ⟨h0, h4, h5, h7, h8, h9, h40⟩ := hL
      clear hK K
      refine awl_cond h40 (fun c3 => ?_) (fun c3 => ?_)
      ·
        try simp only [cnd] at c3
        simp at c3
      ·
        try simp only [cnd] at c3
        refine awl_skip ?_
        refine awl_seq ?_
        refine awl_regS [(some 10, (.assign (.const (.int .i64 1))), none)] rfl fun K hK => ?_
        try simp only [go_sem, simprocAttr, h0, h4, h5, h7, h8, h9, h40, learn_len]
        repeat' (refine And.intro (by first | rfl | omega | (simp; done)) ?_)
        refine hK _ _ (awl_live' [0, 4, 5, 7, 8, 9, 10] fun ρ hL => ?_)
        try simp only [go_sem, simprocAttr, h0, h4, h5, h7, h8, h9, h40, learn_len] at hL
        clear h0 h4 h5 h7 h8 h9 h40
        obtain ⟨h0, h4, h5, h7, h8, h9, h10⟩ := hL
        clear hK K
        refine awl_seq ?_
        refine awl_regS [(some 41, (.move (.tmp 8)), none), (some 42, (.move (.tmp 10)), none), (some 43, (.call ⟨(.value (.func 18)), #[(.tmp 41), (.tmp 42)], #[24, 3]⟩), none), (some 10, (.assign (.tmp 43)), none)] rfl fun K hK => ?_
        try simp only [go_sem, simprocAttr, h0, h4, h5, h7, h8, h9, h10, learn_len]
        repeat' (refine And.intro (by first | rfl | omega | (simp; done)) ?_)
        refine opS_call_in [4] rfl (sat_laws_markIntS xs ?_ ?_ ?hp0 ?hp1) ?ha ?hb ?hv ?hh (by decide) rfl ?_
        case ha => simp only [go_sem, simprocAttr, h0, h4, h5, h7, h8, h9, h10, learn_len, learn_len]; first | done | rfl
        case hb => simp only [go_sem, simprocAttr, h0, h4, h5, h7, h8, h9, h10, learn_len, learn_len]; first | done | rfl
        case hp0 => first | (simp only [learn_len]; omega) | omega
        case hp1 => first | (simp only [learn_len]; omega) | omega
        case hv => first | rfl | (simp only [go_sem]; done)
        case hh => first | rfl | (simp only [go_sem]; done)
        try simp only [go_sem, simprocAttr, h0, h4, h5, h7, h8, h9, h10, learn_len]
        repeat' (refine And.intro (by first | rfl | omega | (simp; done)) ?_)
        refine hK _ _ (awl_live' [0, 4, 5, 7, 9, 10] fun ρ hL => ?_)
        try simp only [go_sem, simprocAttr, h0, h4, h5, h7, h8, h9, h10, learn_len] at hL
        clear h0 h4 h5 h7 h8 h9 h10
        obtain ⟨h0, h4, h5, h7, h9, h10⟩ := hL
        clear hK K
        refine awl_seq ?_
        refine awl_seq ?_
        refine awl_regS [(some 44, (.move (.tmp 10)), none), (some 45, (.binOp .lss 3 (.tmp 44) (.const (.int .i64 0)) 3), none), (some 46, (.move (.tmp 45)), none), (some 47, (.move (.tmp 9)), some (46, false)), (some 48, (.move (.tmp 7)), some (46, false)), (some 49, (.call ⟨(.value (.func 14)), #[(.tmp 47), (.tmp 48)], #[24, 24]⟩), some (46, false)), (some 50, (.unOp .not 4 (.tmp 49)), some (46, false)), (some 51, (.pick (.tmp 46) (.const (.bool true)) (.tmp 50)), none)] rfl fun K hK => ?_
        try simp only [go_sem, simprocAttr, h0, h4, h5, h7, h9, h10, learn_len]
        repeat' (refine And.intro (by first | rfl | omega | (simp; done)) ?_)
        refine awpS_live [0, 4, 5, 7, 9, 46] fun ρ hL => ?_
        try simp only [go_sem, simprocAttr, h0, h4, h5, h7, h9, h10, learn_len] at hL
        clear h0 h4 h5 h7 h9 h10
        obtain ⟨h0, h4, h5, h7, h9, h46⟩ := hL
        refine grp_or (l := [(some 47, (.move (.tmp 9)), some (46, false)), (some 48, (.move (.tmp 7)), some (46, false)), (some 49, (.call ⟨(.value (.func 14)), #[(.tmp 47), (.tmp 48)], #[24, 24]⟩), some (46, false)), (some 50, (.unOp .not 4 (.tmp 49)), some (46, false))]) (rest := []) (tc := 46) (tv := 50) (td := 51) (v := ?v) [0, 4, 5, 7, 9] h46 rfl (fun hb K1 hK1 => ?run) (fun hb => ?skip) (fun ρ hP hL => ?_)
        case skip =>
          exact awpS_skip (want := false) (b := _) (by rw [hb]; rfl) _ [] ρ h46 (fun _ _ => rfl) (by simp) rfl
        case run =>
          rw [hb] at h46
          try simp only [go_sem, simprocAttr, h0, h4, h5, h7, h9, h46, learn_len]
          repeat' (refine And.intro (by first | rfl | omega | (simp; done)) ?_)
          refine opS_call_ro rfl (sat_laws_eqIntS (learn xs w v) (learn xs w v) ?_ ?_ ?hp0) ?ha ?hv ?hh ?_
          case ha => simp only [go_sem, simprocAttr, h0, h4, h5, h7, h9, h46, learn_len, learn_len]; first | done | rfl
          case hp0 => first | (simp only [learn_len]; omega) | omega
          case hv => first | rfl | (simp only [go_sem]; done)
          case hh => first | rfl | (simp only [go_sem]; done)
          try simp only [go_sem, simprocAttr, h0, h4, h5, h7, h9, h46, learn_len]
          repeat' (refine And.intro (by first | rfl | omega | (simp; done)) ?_)
          exact hK1 _ (by simp only [go_sem, simprocAttr, h0, h4, h5, h7, h9, h46, learn_len]) (by simp only [go_sem, simprocAttr, h0, h4, h5, h7, h9, h46, learn_len]; exact rfl) (by simp only [go_sem, simprocAttr, h0, h4, h5, h7, h9, h46, learn_len])
        try simp only [go_sem, simprocAttr, h0, h4, h5, h7, h9, h46, learn_len] at hL
        clear h0 h4 h5 h7 h9 h46
        obtain ⟨h0, h4, h5, h7, h9⟩ := hL
        have h51 := hP
        clear hP
        try simp only [go_sem, simprocAttr, h0, h4, h5, h7, h9, h51, learn_len]
        repeat' (refine And.intro (by first | rfl | omega | (simp; done)) ?_)
        refine hK _ _ (awl_live' [0, 4, 5, 7, 9, 51] fun ρ hL => ?_)
        try simp only [go_sem, simprocAttr, h0, h4, h5, h7, h9, h51, learn_len] at hL
        clear h0 h4 h5 h7 h9 h51
        obtain ⟨h0, h4, h5, h7, h9, h51⟩ := hL
        clear hK K
        refine awl_cond h51 (fun c4 => ?_) (fun c4 => ?_)
        ·
          try simp only [cnd] at c4
          first | (simp at c4; done) | (simp at c4; omega)
        ·
          try simp only [cnd] at c4
          refine awl_skip ?_
          refine awl_seq ?_
          refine awl_regS [(some 11, (.assign (.const (.int .i64 1))), none)] rfl fun K hK => ?_
          try simp only [go_sem, simprocAttr, h0, h4, h5, h7, h9, h51, learn_len]
          repeat' (refine And.intro (by first | rfl | omega | (simp; done)) ?_)
          refine hK _ _ (awl_live' [0, 4, 5, 7, 9, 11] fun ρ hL => ?_)
          try simp only [go_sem, simprocAttr, h0, h4, h5, h7, h9, h51, learn_len] at hL
          clear h0 h4 h5 h7 h9 h51
          obtain ⟨h0, h4, h5, h7, h9, h11⟩ := hL
          clear hK K
          refine awl_seq ?_
          refine awl_regS [(some 52, (.move (.tmp 9)), none), (some 53, (.move (.tmp 11)), none), (some 54, (.call ⟨(.value (.func 18)), #[(.tmp 52), (.tmp 53)], #[24, 3]⟩), none), (some 11, (.assign (.tmp 54)), none)] rfl fun K hK => ?_
          try simp only [go_sem, simprocAttr, h0, h4, h5, h7, h9, h11, learn_len]
          repeat' (refine And.intro (by first | rfl | omega | (simp; done)) ?_)
          refine opS_call_in [5] rfl (sat_laws_markIntS (learn xs w v) ?_ ?_ ?hp0 ?hp1) ?ha ?hb ?hv ?hh (by decide) rfl ?_
          case ha => simp only [go_sem, simprocAttr, h0, h4, h5, h7, h9, h11, learn_len, learn_len]; first | done | rfl
          case hb => simp only [go_sem, simprocAttr, h0, h4, h5, h7, h9, h11, learn_len, learn_len]; first | done | rfl
          case hp0 => first | (simp only [learn_len]; omega) | omega
          case hp1 => first | (simp only [learn_len]; omega) | omega
          case hv => first | rfl | (simp only [go_sem]; done)
          case hh => first | rfl | (simp only [go_sem]; done)
          try simp only [go_sem, simprocAttr, h0, h4, h5, h7, h9, h11, learn_len]
          repeat' (refine And.intro (by first | rfl | omega | (simp; done)) ?_)
          refine hK _ _ (awl_live' [0, 4, 5, 7, 9, 11] fun ρ hL => ?_)
          try simp only [go_sem, simprocAttr, h0, h4, h5, h7, h9, h11, learn_len] at hL
          clear h0 h4 h5 h7 h9 h11
          obtain ⟨h0, h4, h5, h7, h9, h11⟩ := hL
          clear hK K
          refine awl_seq ?_
          refine awl_regS [(some 12, (.assign (.const (.int .i64 1))), none)] rfl fun K hK => ?_
          try simp only [go_sem, simprocAttr, h0, h4, h5, h7, h9, h11, learn_len]
          repeat' (refine And.intro (by first | rfl | omega | (simp; done)) ?_)
          refine hK _ _ (awl_live' [0, 4, 5, 7, 9, 11, 12] fun ρ hL => ?_)
          try simp only [go_sem, simprocAttr, h0, h4, h5, h7, h9, h11, learn_len] at hL
          clear h0 h4 h5 h7 h9 h11
          obtain ⟨h0, h4, h5, h7, h9, h11, h12⟩ := hL
          clear hK K
          refine awl_seq ?_
          refine awl_regS [(some 55, (.move (.tmp 9)), none), (some 56, (.move (.tmp 12)), none), (some 57, (.call ⟨(.value (.func 19)), #[(.tmp 55), (.tmp 56)], #[24, 3]⟩), none), (some 12, (.assign (.tmp 57)), none)] rfl fun K hK => ?_
          try simp only [go_sem, simprocAttr, h0, h4, h5, h7, h9, h11, h12, learn_len]
          repeat' (refine And.intro (by first | rfl | omega | (simp; done)) ?_)
          refine opS_call_ro rfl (sat_laws_heldIntS xs.length ?_ ?_ ?hp0 ?hp1) ?ha ?hv ?hh ?_
          case ha => simp only [go_sem, simprocAttr, h0, h4, h5, h7, h9, h11, h12, learn_len, learn_len]; first | done | rfl
          case hp0 => first | assumption | omega | (simp; done)
          case hp1 => first | assumption | omega | (simp; done)
          case hv => first | rfl | (simp only [go_sem]; done)
          case hh => first | rfl | (simp only [go_sem]; done)
          try simp only [go_sem, simprocAttr, h0, h4, h5, h7, h9, h11, h12, learn_len]
          repeat' (refine And.intro (by first | rfl | omega | (simp; done)) ?_)
          refine hK _ _ (awl_live' [0, 4, 5, 7, 9, 11, 12] fun ρ hL => ?_)
          try simp only [go_sem, simprocAttr, h0, h4, h5, h7, h9, h11, h12, learn_len] at hL
          clear h0 h4 h5 h7 h9 h11 h12
          obtain ⟨h0, h4, h5, h7, h9, h11, h12⟩ := hL
          clear hK K
          refine awl_seq ?_
          refine awl_seq ?_
          refine awl_regS [(some 58, (.move (.tmp 12)), none), (some 59, (.binOp .lss 3 (.tmp 58) (.const (.int .i64 0)) 3), none)] rfl fun K hK => ?_
          try simp only [go_sem, simprocAttr, h0, h4, h5, h7, h9, h11, h12, learn_len]
          repeat' (refine And.intro (by first | rfl | omega | (simp; done)) ?_)
          refine hK _ _ (awl_live' [0, 4, 5, 7, 9, 11, 12, 59] fun ρ hL => ?_)
          try simp only [go_sem, simprocAttr, h0, h4, h5, h7, h9, h11, h12, learn_len] at hL
          clear h0 h4 h5 h7 h9 h11 h12
          obtain ⟨h0, h4, h5, h7, h9, h11, h12, h59⟩ := hL
          clear hK K
          refine awl_cond h59 (fun c5 => ?_) (fun c5 => ?_)
          ·
            try simp only [cnd] at c5
            omega
          ·
            try simp only [cnd] at c5
            refine awl_skip ?_
            refine awl_seq ?_
            refine awl_seq ?_
            refine awl_regS [(some 60, (.move (.tmp 12)), none), (some 61, (.move (.tmp 11)), none), (some 62, (.binOp .neq 3 (.tmp 60) (.tmp 61) 3), none)] rfl fun K hK => ?_
            try simp only [go_sem, simprocAttr, h0, h4, h5, h7, h9, h11, h12, h59, learn_len]
            repeat' (refine And.intro (by first | rfl | omega | (simp; done)) ?_)
            refine hK _ _ (awl_live' [0, 4, 5, 7, 9, 11, 62] fun ρ hL => ?_)
            try simp only [go_sem, simprocAttr, h0, h4, h5, h7, h9, h11, h12, h59, learn_len] at hL
            clear h0 h4 h5 h7 h9 h11 h12 h59
            obtain ⟨h0, h4, h5, h7, h9, h11, h62⟩ := hL
            clear hK K
            refine awl_cond h62 (fun c6 => ?_) (fun c6 => ?_)
            ·
              try simp only [cnd] at c6
              simp at c6
            ·
              try simp only [cnd] at c6
              refine awl_skip ?_
              refine awl_seq ?_
              refine awl_regD mixed [(some 63, (.move (.tmp 0)), none), (some 64, (.call ⟨(.value (.func 12)), #[(.tmp 63)], #[24]⟩), none), (some 65, (.load 31 (.tmp 4)), none), (some 66, (.call ⟨(.value (.func 16)), #[(.tmp 65)], #[31]⟩), none), (some 67, (.load 31 (.tmp 5)), none), (some 68, (.call ⟨(.value (.func 16)), #[(.tmp 67)], #[31]⟩), none), (some 69, (.call ⟨(.value (.func 17)), #[(.tmp 64), (.tmp 66), (.tmp 68)], #[24, 35, 35]⟩), none), (some 13, (.assign (.tmp 69)), none)] rfl fun K hK => ?_
              try simp only [go_sem, simprocAttr, h0, h4, h5, h7, h9, h11, h62, learn_len]
              repeat' (refine And.intro (by first | omega | kernel_rfl) ?_)
              refine dS_call_ro rfl (sat_laws_toIntS ?_ ?_ ?hp0) ?ha ?hv ?hh ?_
              case ha => simp only [go_sem, simprocAttr, h0, h4, h5, h7, h9, h11, h62, learn_len]; first | done | rfl
              case hp0 => first | assumption | omega | (simp; done)
              case hv => first | rfl | (simp only [go_sem]; done)
              case hh => first | rfl | (simp only [go_sem]; done)
              try simp only [go_sem, simprocAttr, h0, h4, h5, h7, h9, h11, h62, learn_len]
              repeat' (refine And.intro (by first | omega | kernel_rfl) ?_)
              refine dS_call_ro rfl (sat_laws_toWord ?_) ?ha ?hv ?hh ?_
              case ha => simp only [go_sem, simprocAttr, h0, h4, h5, h7, h9, h11, h62, learn_len]; first | done | rfl
              case hv => first | rfl | (simp only [go_sem]; done)
              case hh => first | rfl | (simp only [go_sem]; done)
              try simp only [go_sem, simprocAttr, h0, h4, h5, h7, h9, h11, h62, learn_len]
              repeat' (refine And.intro (by first | omega | kernel_rfl) ?_)
              refine dS_call_ro rfl (sat_laws_toWord ?_) ?ha ?hv ?hh ?_
              case ha => simp only [go_sem, simprocAttr, h0, h4, h5, h7, h9, h11, h62, learn_len]; first | done | rfl
              case hv => first | rfl | (simp only [go_sem]; done)
              case hh => first | rfl | (simp only [go_sem]; done)
              try simp only [go_sem, simprocAttr, h0, h4, h5, h7, h9, h11, h62, learn_len]
              repeat' (refine And.intro (by first | omega | kernel_rfl) ?_)
              refine dS_call_ro rfl (sat_impl_Learn ?_ ?_ ?_ ?_ ?hp0) ?ha ?hv ?hh ?_
              case ha => simp only [go_sem, simprocAttr, h0, h4, h5, h7, h9, h11, h62, learn_len]; first | done | rfl
              case hp0 => first | assumption | omega | (simp; done)
              case hv => first | rfl | (simp only [go_sem]; done)
              case hh => first | rfl | (simp only [go_sem]; done)
              try simp only [go_sem, simprocAttr, h0, h4, h5, h7, h9, h11, h62, learn_len]
              repeat' (refine And.intro (by first | omega | kernel_rfl) ?_)
              refine hK _ _ (awl_live' [7, 9, 11, 13] fun ρ hL => ?_)
              try simp only [go_sem, simprocAttr, h0, h4, h5, h7, h9, h11, h62, learn_len] at hL
              clear h0 h4 h5 h7 h9 h11 h62
              obtain ⟨h7, h9, h11, h13⟩ := hL
              clear hK K
              refine awl_seq ?_
              refine awl_seq ?_
              refine awl_regS [(some 70, (.move (.tmp 13)), none), (some 71, (.move (.tmp 7)), none), (some 72, (.call ⟨(.value (.func 14)), #[(.tmp 70), (.tmp 71)], #[24, 24]⟩), none), (some 73, (.unOp .not 4 (.tmp 72)), none)] rfl fun K hK => ?_
              try simp only [go_sem, simprocAttr, h7, h9, h11, h13, learn_len]
              repeat' (refine And.intro (by first | rfl | omega | (simp; done)) ?_)
              refine opS_call_ro rfl (sat_laws_eqIntS (learn xs w v) (learn xs w v) ?_ ?_ ?hp0) ?ha ?hv ?hh ?_
              case ha => simp only [go_sem, simprocAttr, h7, h9, h11, h13, learn_len, learn_len]; first | done | rfl
              case hp0 => first | (simp only [learn_len]; omega) | omega
              case hv => first | rfl | (simp only [go_sem]; done)
              case hh => first | rfl | (simp only [go_sem]; done)
              try simp only [go_sem, simprocAttr, h7, h9, h11, h13, learn_len]
              repeat' (refine And.intro (by first | rfl | omega | (simp; done)) ?_)
              refine hK _ _ (awl_live' [9, 11, 73] fun ρ hL => ?_)
              try simp only [go_sem, simprocAttr, h7, h9, h11, h13, learn_len] at hL
              clear h7 h9 h11 h13
              obtain ⟨h9, h11, h73⟩ := hL
              clear hK K
              refine awl_cond h73 (fun c7 => ?_) (fun c7 => ?_)
              ·
                try simp only [cnd] at c7
                simp at c7
              ·
                try simp only [cnd] at c7
                refine awl_skip ?_
                refine awl_seq ?_
                refine awl_regS [(some 12, (.assign (.const (.int .i64 1))), none)] rfl fun K hK => ?_
                try simp only [go_sem, simprocAttr, h9, h11, h73, learn_len]
                repeat' (refine And.intro (by first | rfl | omega | (simp; done)) ?_)
                refine hK _ _ (awl_live' [9, 11, 12] fun ρ hL => ?_)
                try simp only [go_sem, simprocAttr, h9, h11, h73, learn_len] at hL
                clear h9 h11 h73
                obtain ⟨h9, h11, h12⟩ := hL
                clear hK K
                refine awl_seq ?_
                refine awl_regS [(some 74, (.move (.tmp 9)), none), (some 75, (.move (.tmp 12)), none), (some 76, (.call ⟨(.value (.func 19)), #[(.tmp 74), (.tmp 75)], #[24, 3]⟩), none), (some 12, (.assign (.tmp 76)), none)] rfl fun K hK => ?_
                try simp only [go_sem, simprocAttr, h9, h11, h12, learn_len]
                repeat' (refine And.intro (by first | rfl | omega | (simp; done)) ?_)
                refine opS_call_ro rfl (sat_laws_heldIntS xs.length ?_ ?_ ?hp0 ?hp1) ?ha ?hv ?hh ?_
                case ha => simp only [go_sem, simprocAttr, h9, h11, h12, learn_len, learn_len]; first | done | rfl
                case hp0 => first | assumption | omega | (simp; done)
                case hp1 => first | assumption | omega | (simp; done)
                case hv => first | rfl | (simp only [go_sem]; done)
                case hh => first | rfl | (simp only [go_sem]; done)
                try simp only [go_sem, simprocAttr, h9, h11, h12, learn_len]
                repeat' (refine And.intro (by first | rfl | omega | (simp; done)) ?_)
                refine hK _ _ (awl_live' [11, 12] fun ρ hL => ?_)
                try simp only [go_sem, simprocAttr, h9, h11, h12, learn_len] at hL
                clear h9 h11 h12
                obtain ⟨h11, h12⟩ := hL
                clear hK K
                refine awl_seq ?_
                refine awl_seq ?_
                refine awl_regS [(some 77, (.move (.tmp 12)), none), (some 78, (.binOp .lss 3 (.tmp 77) (.const (.int .i64 0)) 3), none)] rfl fun K hK => ?_
                try simp only [go_sem, simprocAttr, h11, h12, learn_len]
                repeat' (refine And.intro (by first | rfl | omega | (simp; done)) ?_)
                refine hK _ _ (awl_live' [11, 12, 78] fun ρ hL => ?_)
                try simp only [go_sem, simprocAttr, h11, h12, learn_len] at hL
                clear h11 h12
                obtain ⟨h11, h12, h78⟩ := hL
                clear hK K
                refine awl_cond h78 (fun c8 => ?_) (fun c8 => ?_)
                ·
                  try simp only [cnd] at c8
                  omega
                ·
                  try simp only [cnd] at c8
                  refine awl_skip ?_
                  refine awl_seq ?_
                  refine awl_seq ?_
                  refine awl_regS [(some 79, (.move (.tmp 12)), none), (some 80, (.move (.tmp 11)), none), (some 81, (.binOp .neq 3 (.tmp 79) (.tmp 80) 3), none)] rfl fun K hK => ?_
                  try simp only [go_sem, simprocAttr, h11, h12, h78, learn_len]
                  repeat' (refine And.intro (by first | rfl | omega | (simp; done)) ?_)
                  refine hK _ _ (awl_live' [81] fun ρ hL => ?_)
                  try simp only [go_sem, simprocAttr, h11, h12, h78, learn_len] at hL
                  clear h11 h12 h78
                  have h81 := hL
                  clear hL
                  clear hK K
                  refine awl_cond h81 (fun c9 => ?_) (fun c9 => ?_)
                  ·
                    try simp only [cnd] at c9
                    first | (simp at c9; done) | omega
                  ·
                    try simp only [cnd] at c9
                    refine awl_skip ?_
                    refine awl_seq ?_
                    refine awl_regS [(some 6, (.assign (.const (.bool true))), none)] rfl fun K hK => ?_
                    try simp only [go_sem, simprocAttr, h81, learn_len]
                    repeat' (refine And.intro (by first | rfl | omega | (simp; done)) ?_)
                    refine hK _ _ (awl_live' [6] fun ρ hL => ?_)
                    try simp only [go_sem, simprocAttr, h81, learn_len] at hL
                    clear h81
                    have h6 := hL
                    clear hL
                    clear hK K
                    refine awl_ret ?_
                    refine ret0 (by simp only [go_sem, simprocAttr, h6, learn_len]; exact rfl) ?_
                    try simp only [go_sem, simprocAttr]
                    all_goals (rfl)
end Go.Proofs.Ytcjjopfmeipidaa.AM
