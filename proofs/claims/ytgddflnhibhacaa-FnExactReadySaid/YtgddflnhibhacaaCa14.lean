/- Cores in order; where an entry's words come from. No conditions but those each theorem bears. -/
import Derived.Test.YtgddflnhibhacaaFa
import Derived.Test.YtgddflnhibhacaaSp7
import Derived.Test.YtgddflnhibhacaaCa12
set_option linter.unusedSimpArgs false
set_option linter.unusedVariables false
namespace Go.Proofs.Ytgddflnhibhacaa.AM
open Go

set_option maxHeartbeats 8000000 in
set_option maxRecDepth 100000 in
theorem sat_impl_CoreOk (c : Cor) (hf : c.fit) : Sat Try.prog 39 [.agg c.cells] [] (.bool (corOk c)) [] := by
  refine sat_mk [.tmp 2] 0 28 Try.call39 Try.func39 Try.ntmps39 rfl rfl rfl rfl rfl ?_
  refine awl_live' [0] fun ρ hL => ?_
  try simp only [go_sem, simprocAttr] at hL
  have h0 := hL
  clear hL
  refine awl_seq ?_
  refine awl_regS [(some 1, (.box 61 (.tmp 0)), none), (some 2, (.assign (.const (.bool false))), none)] rfl fun K hK => ?_
  try simp only [go_sem, simprocAttr, h0]
  repeat' (refine And.intro (by first | rfl | omega | (simp; done)) ?_)
  refine hK _ _ (.mk (awl_live' [1] fun ρ hL => ?_))
  try simp only [go_sem, simprocAttr, h0] at hL
  try clear h0
  have h1 := hL
  clear hL
  clear hK K
  refine awl_seq ?_
  refine awl_regS [(some 3, (.fieldAddr 61 (.tmp 1) 0), none), (some 4, (.load 46 (.tmp 3)), none), (some 5, (.call ⟨(.value (.func 61)), #[(.tmp 4)], #[46]⟩), none), (some 6, (.move (.tmp 5)), none), (some 7, (.fieldAddr 61 (.tmp 1) 1), some (6, true)), (some 8, (.load 59 (.tmp 7)), some (6, true)), (some 9, (.call ⟨(.builtin .len), #[(.tmp 8)], #[59]⟩), some (6, true)), (some 10, (.binOp .leq 3 (.tmp 9) (.const (.int .i64 6)) 3), some (6, true)), (some 11, (.pick (.tmp 6) (.tmp 10) (.const (.bool false))), none), (some 12, (.move (.tmp 11)), none), (some 13, (.fieldAddr 61 (.tmp 1) 1), some (12, true)), (some 14, (.load 59 (.tmp 13)), some (12, true)), (some 15, (.call ⟨(.value (.func 83)), #[(.tmp 14), (.func 84)], #[59, 107]⟩), some (12, true)), (some 16, (.unOp .not 4 (.tmp 15)), some (12, true)), (some 17, (.pick (.tmp 12) (.tmp 16) (.const (.bool false))), none), (some 18, (.move (.tmp 17)), none), (some 19, (.fieldAddr 61 (.tmp 1) 2), some (18, true)), (some 20, (.load 42 (.tmp 19)), some (18, true)), (some 21, (.call ⟨(.value (.func 86)), #[(.tmp 20)], #[42]⟩), some (18, true)), (some 22, (.pick (.tmp 18) (.tmp 21) (.const (.bool false))), none), (some 23, (.move (.tmp 22)), none), (some 24, (.fieldAddr 61 (.tmp 1) 4), some (23, true)), (some 25, (.load 22 (.tmp 24)), some (23, true)), (some 26, (.call ⟨(.value (.func 87)), #[(.tmp 25)], #[22]⟩), some (23, true)), (some 27, (.pick (.tmp 23) (.tmp 26) (.const (.bool false))), none), (some 2, (.assign (.tmp 27)), none)] rfl fun K hK => ?_
  try simp only [go_sem, simprocAttr, h1]
  repeat' (refine And.intro (by first | rfl | omega | (simp; done)) ?_)
  refine opS_call_ro rfl (sat_impl_StateOk c.s hf.1) ?ha ?hv ?hh ?_
  case ha => simp only [go_sem, simprocAttr, h1]; first | done | rfl
  case hv => first | rfl | (simp only [go_sem]; done)
  case hh => first | rfl | (simp only [go_sem]; done)
  try simp only [go_sem, simprocAttr, h1]
  repeat' (refine And.intro (by first | rfl | omega | (simp; done)) ?_)
  refine awpS_live [1, 6] fun ρ hL => ?_
  try simp only [go_sem, simprocAttr, h1] at hL
  try clear h1
  obtain ⟨h1, h6⟩ := hL
  refine grp_andN (tc := 6) (tv := 10) (td := 11) (v := ?v1) 4 rfl [1] h6 rfl (fun hb K1 hK1 => ?run) (fun hb => ?skip) (fun ρ hP hL => ?_)
  case skip =>
    exact awpS_skip (want := true) (b := _) (by rw [hb]; rfl) _ [] ρ h6 (fun _ _ => rfl) (by simp) rfl
  case run =>
    simp only [List.take_succ_cons, List.take_zero]
    rw [hb] at h6
    try simp only [go_sem, simprocAttr, h1, h6]
    repeat' (refine And.intro (by first | rfl | omega | (simp; done)) ?_)
    exact hK1 _ (by simp only [go_sem, simprocAttr, h1, h6]) (by simp only [go_sem, simprocAttr, h1, h6]; exact rfl) (by simp only [go_sem, simprocAttr, h1, h6])
  simp only [List.drop_succ_cons, List.drop_zero]
  try simp only [go_sem, simprocAttr, h1, h6] at hL
  try clear h1 h6
  have h1 := hL
  clear hL
  have h11 := hP
  clear hP
  try simp only [go_sem, simprocAttr, h1, h11]
  repeat' (refine And.intro (by first | rfl | omega | (simp; done)) ?_)
  refine awpS_live [1, 12] fun ρ hL => ?_
  try simp only [go_sem, simprocAttr, h1, h11] at hL
  try clear h1 h11
  obtain ⟨h1, h12⟩ := hL
  refine grp_andN (tc := 12) (tv := 16) (td := 17) (v := ?v2) 4 rfl [1] h12 rfl (fun hb K1 hK1 => ?run) (fun hb => ?skip) (fun ρ hP hL => ?_)
  case skip =>
    exact awpS_skip (want := true) (b := _) (by rw [hb]; rfl) _ [] ρ h12 (fun _ _ => rfl) (by simp) rfl
  case run =>
    simp only [List.take_succ_cons, List.take_zero]
    rw [hb] at h12
    try simp only [go_sem, simprocAttr, h1, h12]
    repeat' (refine And.intro (by first | rfl | omega | (simp; done)) ?_)
    refine opS_call_ro rfl (sat_slices_ContainsFunc_impl_Entry_impl_Entry c.rob _ [] (fun x => !entOk x) (Nat.le_trans hf.2.1 (by decide)) (fun _ _ _ => rfl) (fun x => sat_impl_CoreOk_1 x)) ?ha ?hv ?hh ?_
    case ha => simp only [go_sem, simprocAttr, h1, h12]; first | done | rfl
    case hv => first | rfl | (simp only [go_sem]; done)
    case hh => first | rfl | (simp only [go_sem]; done)
    try simp only [go_sem, simprocAttr, h1, h12]
    repeat' (refine And.intro (by first | rfl | omega | (simp; done)) ?_)
    exact hK1 _ (by simp only [go_sem, simprocAttr, h1, h12]) (by simp only [go_sem, simprocAttr, h1, h12]; exact rfl) (by simp only [go_sem, simprocAttr, h1, h12])
  simp only [List.drop_succ_cons, List.drop_zero]
  try simp only [go_sem, simprocAttr, h1, h12] at hL
  try clear h1 h12
  have h1 := hL
  clear hL
  have h17 := hP
  clear hP
  try simp only [go_sem, simprocAttr, h1, h17]
  repeat' (refine And.intro (by first | rfl | omega | (simp; done)) ?_)
  refine awpS_live [1, 18] fun ρ hL => ?_
  try simp only [go_sem, simprocAttr, h1, h17] at hL
  try clear h1 h17
  obtain ⟨h1, h18⟩ := hL
  refine grp_andN (tc := 18) (tv := 21) (td := 22) (v := ?v3) 3 rfl [1] h18 rfl (fun hb K1 hK1 => ?run) (fun hb => ?skip) (fun ρ hP hL => ?_)
  case skip =>
    exact awpS_skip (want := true) (b := _) (by rw [hb]; rfl) _ [] ρ h18 (fun _ _ => rfl) (by simp) rfl
  case run =>
    simp only [List.take_succ_cons, List.take_zero]
    rw [hb] at h18
    try simp only [go_sem, simprocAttr, h1, h18]
    repeat' (refine And.intro (by first | rfl | omega | (simp; done)) ?_)
    refine opS_call_ro rfl (sat_impl_WordOk c.next) ?ha ?hv ?hh ?_
    case ha => simp only [go_sem, simprocAttr, h1, h18]; first | done | rfl
    case hv => first | rfl | (simp only [go_sem]; done)
    case hh => first | rfl | (simp only [go_sem]; done)
    try simp only [go_sem, simprocAttr, h1, h18]
    repeat' (refine And.intro (by first | rfl | omega | (simp; done)) ?_)
    exact hK1 _ (by simp only [go_sem, simprocAttr, h1, h18]) (by simp only [go_sem, simprocAttr, h1, h18]; exact rfl) (by simp only [go_sem, simprocAttr, h1, h18])
  simp only [List.drop_succ_cons, List.drop_zero]
  try simp only [go_sem, simprocAttr, h1, h18] at hL
  try clear h1 h18
  have h1 := hL
  clear hL
  have h22 := hP
  clear hP
  try simp only [go_sem, simprocAttr, h1, h22]
  repeat' (refine And.intro (by first | rfl | omega | (simp; done)) ?_)
  refine awpS_live [1, 23] fun ρ hL => ?_
  try simp only [go_sem, simprocAttr, h1, h22] at hL
  try clear h1 h22
  obtain ⟨h1, h23⟩ := hL
  refine grp_andN (tc := 23) (tv := 26) (td := 27) (v := ?v4) 3 rfl [] h23 rfl (fun hb K1 hK1 => ?run) (fun hb => ?skip) (fun ρ hP hL => ?_)
  case skip =>
    exact awpS_skip (want := true) (b := _) (by rw [hb]; rfl) _ [] ρ h23 (fun _ _ => rfl) (by simp) rfl
  case run =>
    simp only [List.take_succ_cons, List.take_zero]
    rw [hb] at h23
    try simp only [go_sem, simprocAttr, h1, h23]
    repeat' (refine And.intro (by first | rfl | omega | (simp; done)) ?_)
    refine opS_call_ro rfl (sat_impl_GuessOk c.guesses c.guesses.length (Nat.le_trans hf.2.2 (by decide))) ?ha ?hv ?hh ?_
    case ha => simp only [go_sem, simprocAttr, h1, h23]; first | done | rfl
    case hv => first | rfl | (simp only [go_sem]; done)
    case hh => first | rfl | (simp only [go_sem]; done)
    try simp only [go_sem, simprocAttr, h1, h23]
    repeat' (refine And.intro (by first | rfl | omega | (simp; done)) ?_)
    exact hK1 _ (by simp only [go_sem, simprocAttr, h1, h23]) (by simp only [go_sem, simprocAttr, h1, h23]; exact rfl) (by simp only [go_sem, simprocAttr, h1, h23])
  simp only [List.drop_succ_cons, List.drop_zero]
  clear hL h1 h23
  have h27 := hP
  clear hP
  try simp only [go_sem, simprocAttr, h27]
  repeat' (refine And.intro (by first | rfl | omega | (simp; done)) ?_)
  refine hK _ _ (.mk (awl_live' [2] fun ρ hL => ?_))
  try simp only [go_sem, simprocAttr, h27] at hL
  try clear h27
  have h2 := hL
  clear hL
  clear hK K
  refine awl_ret ?_
  refine ret0 (by simp only [go_sem, simprocAttr, h2]; exact rfl) ?_
  try simp only [go_sem, simprocAttr]
  all_goals (rw [AV.bool.injEq]; simp only [corOk, List.all_eq_not_any_not]; rw [show (decide ((c.rob.length : Int) ≤ 6)) = decide (c.rob.length ≤ 6) by rw [decide_eq_decide]; omega] <;> ac_rfl)
set_option maxHeartbeats 8000000 in
set_option maxRecDepth 100000 in
theorem sat_spec_CoreOk (c : Cor) (hf : c.fit) : Sat Try.prog 38 [.agg c.cells] [] (.bool (corOk c)) [] := by
  refine sat_mk [.tmp 2] 0 37 Try.call38 Try.func38 Try.ntmps38 rfl rfl rfl rfl rfl ?_
  refine awl_live' [0] fun ρ hL => ?_
  try simp only [go_sem, simprocAttr] at hL
  have h0 := hL
  clear hL
  refine awl_seq ?_
  have hf1 := hf.2.1
  refine awl_regS [(some 1, (.box 61 (.tmp 0)), none), (some 2, (.assign (.const (.bool false))), none)] rfl fun K hK => ?_
  try simp only [go_sem, simprocAttr, h0]
  repeat' (refine And.intro (by first | rfl | omega | (simp; done)) ?_)
  refine hK _ _ (.mk (awl_live' [1] fun ρ hL => ?_))
  try simp only [go_sem, simprocAttr, h0] at hL
  try clear h0
  have h1 := hL
  clear hL
  clear hK K
  refine awl_seq ?_
  refine awl_seq ?_
  refine awl_regS [(some 3, (.assign (.const (.int .i64 0))), none)] rfl fun K hK => ?_
  try simp only [go_sem, simprocAttr, h1]
  repeat' (refine And.intro (by first | rfl | omega | (simp; done)) ?_)
  refine hK _ _ (.mk (awl_live' [1, 3] fun ρ hL => ?_))
  try simp only [go_sem, simprocAttr, h1] at hL
  try clear h1
  obtain ⟨h1, h3⟩ := hL
  clear hK K
  have e1_1 := h1
  refine awl_loopH (fun H0 n σ G => ∃ (i : Nat), n = c.rob.length - i ∧ (i ≤ c.rob.length) ∧ ((c.rob.take i).all entOk = true) ∧ liveE [1] σ ρ ∧ σ 3 = .int .i64 (i : Int) ∧ G = H0) (fun H0 σ G => (c.rob.all entOk = true) ∧ liveE [1] σ ρ ∧ G = H0) ((fun (i : Nat) => c.rob.length - i) 0) ?init1 (fun n ρ G hI => ?round1) (fun ρ G hJ => ?after1)
  case init1 => exact ⟨0, rfl, (Nat.zero_le _), (by simp), liveE_refl _ _, (h3), rfl⟩
  case round1 =>
    obtain ⟨i, hn, i1_0, i1_1, hL, k3, hG⟩ := hI
    subst hG
    try simp only [go_sem, simprocAttr, h1, h3] at hL
    clear h1 h3
    have h1 := hL
    clear hL
    have h3 := k3
    clear k3
    refine awl_seq ?_
    refine awl_seq ?_
    refine awl_regS [(some 4, (.move (.tmp 3)), none), (some 5, (.fieldAddr 61 (.tmp 1) 1), none), (some 6, (.load 59 (.tmp 5)), none), (some 7, (.call ⟨(.builtin .len), #[(.tmp 6)], #[59]⟩), none), (some 8, (.binOp .lss 3 (.tmp 4) (.tmp 7) 3), none)] rfl fun K hK => ?_
    try simp only [go_sem, simprocAttr, h1, h3]
    repeat' (refine And.intro (by first | rfl | omega | (simp; done)) ?_)
    refine hK _ _ (.mk (awl_live' [1, 3, 8] fun ρ hL => ?_))
    try simp only [go_sem, simprocAttr, h1, h3] at hL
    try clear h1 h3
    obtain ⟨h1, h3, h8⟩ := hL
    clear hK K
    refine awl_cond h8 (fun c1 => ?_) (fun c1 => ?_)
    ·
      try simp only [cnd] at c1
      have hi1 : i < c.rob.length := by omega
      refine awl_skip ?_
      refine awl_seq ?_
      refine awl_block fun R1 hw1 hR1 => ?_
      refine awl_seq ?_
      refine awl_regS [(some 11, (.fieldAddr 61 (.tmp 1) 1), none), (some 12, (.load 59 (.tmp 11)), none), (some 13, (.move (.tmp 3)), none), (some 14, (.indexAddr 59 (.tmp 12) (.tmp 13)), none), (some 15, (.load 96 (.tmp 14)), none), (some 16, (.call ⟨(.value (.func 80)), #[(.tmp 15)], #[96]⟩), none), (some 17, (.unOp .not 4 (.tmp 16)), none)] rfl fun K hK => ?_
      try simp only [go_sem, simprocAttr, h1, h3, h8, hi1]
      repeat' (refine And.intro (by first | rfl | omega | (simp; done)) ?_)
      refine opS_call_ro rfl (sat_spec_l12Entry (c.rob.getD i noEnt)) ?ha ?hv ?hh ?_
      case ha => simp only [go_sem, simprocAttr, h1, h3, h8, hi1]; first | done | rfl
      case hv => first | rfl | (simp only [go_sem]; done)
      case hh => first | rfl | (simp only [go_sem]; done)
      try simp only [go_sem, simprocAttr, h1, h3, h8, hi1]
      repeat' (refine And.intro (by first | rfl | omega | (simp; done)) ?_)
      refine hK _ _ (.mk (awl_live' [1, 3, 17] fun ρ hL => ?_))
      try simp only [go_sem, simprocAttr, h1, h3, h8, hi1] at hL
      try clear h1 h3 h8
      obtain ⟨h1, h3, h17⟩ := hL
      clear hK K
      refine awl_cond h17 (fun c2 => ?_) (fun c2 => ?_)
      ·
        try simp only [cnd] at c2
        refine awl_seq ?_
        refine awl_regS [(some 2, (.assign (.const (.bool false))), none)] rfl fun K hK => ?_
        try simp only [go_sem, simprocAttr, h1, h3, h17, hi1]
        repeat' (refine And.intro (by first | rfl | omega | (simp; done)) ?_)
        refine hK _ _ (.mk (awl_live' [2] fun ρ hL => ?_))
        try simp only [go_sem, simprocAttr, h1, h3, h17, hi1] at hL
        try clear h1 h3 h17
        have h2 := hL
        clear hL
        clear hK K
        refine awl_ret ?_
        refine blk_ret ?_
        refine loop_ret ?_
        refine ret0 (by simp only [go_sem, simprocAttr, h2, hi1]; exact rfl) ?_
        try simp only [go_sem, simprocAttr]
        all_goals try clear hR1
        all_goals (rw [corOk, all_false_of (d := noEnt) hi1 (by simpa using c2)]; simp only [Bool.false_and])
      ·
        try simp only [cnd] at c2
        refine awl_skip ?_
        refine awl_nil ?_
        refine blk_normal (hR1 _ _ (.mk ?_))
        have w1 : IntKind.i64.wrap ((i : Int) + 1) = ((i + 1 : Nat) : Int) := by rw [wrap64 (by omega)]; omega
        refine awl_regS [(some 9, (.move (.tmp 3)), none), (some 10, (.binOp .add 3 (.tmp 9) (.const (.int .i64 1)) 3), none), (some 3, (.assign (.tmp 10)), none)] rfl fun K hK => ?_
        try simp only [go_sem, simprocAttr, h1, h3, h17, hi1, w1]
        repeat' (refine And.intro (by first | rfl | omega | (simp; done)) ?_)
        refine hK _ _ (.mk (awl_live' [1, 3] fun ρ hL => ?_))
        try simp only [go_sem, simprocAttr, h1, h3, h17, hi1, w1] at hL
        try clear h1 h3 h17
        obtain ⟨h1, h3⟩ := hL
        clear hK K
        refine awl_nil ?_
        refine loop_again _ ?meas ⟨i + 1, rfl, (by omega), (by exact all_take_succ (d := noEnt) hi1 i1_1 (by simpa using c2)), (by simp only [go_sem, simprocAttr, h1, h3, hi1, e1_1]), (h3), rfl⟩
        case meas => subst hn; omega
    ·
      try simp only [cnd] at c1
      refine awl_exit ?_
      refine loop_break ?_
      exact ⟨(by exact all_of_take (by omega) i1_1), (by simp only [go_sem, simprocAttr, h1, h3, h8, e1_1]), rfl⟩
  case after1 =>
    obtain ⟨j1_0, hL, hG⟩ := hJ
    subst hG
    try simp only [go_sem, simprocAttr, h1, h3] at hL
    clear h1 h3
    have h1 := hL
    clear hL
    refine awl_seq ?_
    refine awl_regS [(some 18, (.fieldAddr 61 (.tmp 1) 0), none), (some 19, (.load 46 (.tmp 18)), none), (some 20, (.call ⟨(.value (.func 59)), #[(.tmp 19)], #[46]⟩), none), (some 21, (.move (.tmp 20)), none), (some 22, (.fieldAddr 61 (.tmp 1) 1), some (21, true)), (some 23, (.load 59 (.tmp 22)), some (21, true)), (some 24, (.call ⟨(.builtin .len), #[(.tmp 23)], #[59]⟩), some (21, true)), (some 25, (.binOp .leq 3 (.tmp 24) (.const (.int .i64 6)) 3), some (21, true)), (some 26, (.pick (.tmp 21) (.tmp 25) (.const (.bool false))), none), (some 27, (.move (.tmp 26)), none), (some 28, (.fieldAddr 61 (.tmp 1) 2), some (27, true)), (some 29, (.load 42 (.tmp 28)), some (27, true)), (some 30, (.call ⟨(.value (.func 81)), #[(.tmp 29)], #[42]⟩), some (27, true)), (some 31, (.pick (.tmp 27) (.tmp 30) (.const (.bool false))), none), (some 32, (.move (.tmp 31)), none), (some 33, (.fieldAddr 61 (.tmp 1) 4), some (32, true)), (some 34, (.load 22 (.tmp 33)), some (32, true)), (some 35, (.call ⟨(.value (.func 82)), #[(.tmp 34)], #[22]⟩), some (32, true)), (some 36, (.pick (.tmp 32) (.tmp 35) (.const (.bool false))), none), (some 2, (.assign (.tmp 36)), none)] rfl fun K hK => ?_
    try simp only [go_sem, simprocAttr, h1]
    repeat' (refine And.intro (by first | rfl | omega | (simp; done)) ?_)
    refine opS_call_ro rfl (sat_spec_StateOk c.s hf.1) ?ha ?hv ?hh ?_
    case ha => simp only [go_sem, simprocAttr, h1]; first | done | rfl
    case hv => first | rfl | (simp only [go_sem]; done)
    case hh => first | rfl | (simp only [go_sem]; done)
    try simp only [go_sem, simprocAttr, h1]
    repeat' (refine And.intro (by first | rfl | omega | (simp; done)) ?_)
    refine awpS_live [1, 21] fun ρ hL => ?_
    try simp only [go_sem, simprocAttr, h1] at hL
    try clear h1
    obtain ⟨h1, h21⟩ := hL
    refine grp_andN (tc := 21) (tv := 25) (td := 26) (v := ?v1) 4 rfl [1] h21 rfl (fun hb K1 hK1 => ?run) (fun hb => ?skip) (fun ρ hP hL => ?_)
    case skip =>
      exact awpS_skip (want := true) (b := _) (by rw [hb]; rfl) _ [] ρ h21 (fun _ _ => rfl) (by simp) rfl
    case run =>
      simp only [List.take_succ_cons, List.take_zero]
      rw [hb] at h21
      try simp only [go_sem, simprocAttr, h1, h21]
      repeat' (refine And.intro (by first | rfl | omega | (simp; done)) ?_)
      exact hK1 _ (by simp only [go_sem, simprocAttr, h1, h21]) (by simp only [go_sem, simprocAttr, h1, h21]; exact rfl) (by simp only [go_sem, simprocAttr, h1, h21])
    simp only [List.drop_succ_cons, List.drop_zero]
    try simp only [go_sem, simprocAttr, h1, h21] at hL
    try clear h1 h21
    have h1 := hL
    clear hL
    have h26 := hP
    clear hP
    try simp only [go_sem, simprocAttr, h1, h26]
    repeat' (refine And.intro (by first | rfl | omega | (simp; done)) ?_)
    refine awpS_live [1, 27] fun ρ hL => ?_
    try simp only [go_sem, simprocAttr, h1, h26] at hL
    try clear h1 h26
    obtain ⟨h1, h27⟩ := hL
    refine grp_andN (tc := 27) (tv := 30) (td := 31) (v := ?v2) 3 rfl [1] h27 rfl (fun hb K1 hK1 => ?run) (fun hb => ?skip) (fun ρ hP hL => ?_)
    case skip =>
      exact awpS_skip (want := true) (b := _) (by rw [hb]; rfl) _ [] ρ h27 (fun _ _ => rfl) (by simp) rfl
    case run =>
      simp only [List.take_succ_cons, List.take_zero]
      rw [hb] at h27
      try simp only [go_sem, simprocAttr, h1, h27]
      repeat' (refine And.intro (by first | rfl | omega | (simp; done)) ?_)
      refine opS_call_ro rfl (sat_spec_WordOk c.next) ?ha ?hv ?hh ?_
      case ha => simp only [go_sem, simprocAttr, h1, h27]; first | done | rfl
      case hv => first | rfl | (simp only [go_sem]; done)
      case hh => first | rfl | (simp only [go_sem]; done)
      try simp only [go_sem, simprocAttr, h1, h27]
      repeat' (refine And.intro (by first | rfl | omega | (simp; done)) ?_)
      exact hK1 _ (by simp only [go_sem, simprocAttr, h1, h27]) (by simp only [go_sem, simprocAttr, h1, h27]; exact rfl) (by simp only [go_sem, simprocAttr, h1, h27])
    simp only [List.drop_succ_cons, List.drop_zero]
    try simp only [go_sem, simprocAttr, h1, h27] at hL
    try clear h1 h27
    have h1 := hL
    clear hL
    have h31 := hP
    clear hP
    try simp only [go_sem, simprocAttr, h1, h31]
    repeat' (refine And.intro (by first | rfl | omega | (simp; done)) ?_)
    refine awpS_live [1, 32] fun ρ hL => ?_
    try simp only [go_sem, simprocAttr, h1, h31] at hL
    try clear h1 h31
    obtain ⟨h1, h32⟩ := hL
    refine grp_andN (tc := 32) (tv := 35) (td := 36) (v := ?v3) 3 rfl [] h32 rfl (fun hb K1 hK1 => ?run) (fun hb => ?skip) (fun ρ hP hL => ?_)
    case skip =>
      exact awpS_skip (want := true) (b := _) (by rw [hb]; rfl) _ [] ρ h32 (fun _ _ => rfl) (by simp) rfl
    case run =>
      simp only [List.take_succ_cons, List.take_zero]
      rw [hb] at h32
      try simp only [go_sem, simprocAttr, h1, h32]
      repeat' (refine And.intro (by first | rfl | omega | (simp; done)) ?_)
      refine opS_call_ro rfl (sat_spec_GuessOk c.guesses c.guesses.length (Nat.le_trans hf.2.2 (by decide))) ?ha ?hv ?hh ?_
      case ha => simp only [go_sem, simprocAttr, h1, h32]; first | done | rfl
      case hv => first | rfl | (simp only [go_sem]; done)
      case hh => first | rfl | (simp only [go_sem]; done)
      try simp only [go_sem, simprocAttr, h1, h32]
      repeat' (refine And.intro (by first | rfl | omega | (simp; done)) ?_)
      exact hK1 _ (by simp only [go_sem, simprocAttr, h1, h32]) (by simp only [go_sem, simprocAttr, h1, h32]; exact rfl) (by simp only [go_sem, simprocAttr, h1, h32])
    simp only [List.drop_succ_cons, List.drop_zero]
    clear hL h1 h32
    have h36 := hP
    clear hP
    try simp only [go_sem, simprocAttr, h36]
    repeat' (refine And.intro (by first | rfl | omega | (simp; done)) ?_)
    refine hK _ _ (.mk (awl_live' [2] fun ρ hL => ?_))
    try simp only [go_sem, simprocAttr, h36] at hL
    try clear h36
    have h2 := hL
    clear hL
    clear hK K
    refine awl_ret ?_
    refine ret0 (by simp only [go_sem, simprocAttr, h2]; exact rfl) ?_
    try simp only [go_sem, simprocAttr]
    all_goals try clear hR1
    all_goals (rw [AV.bool.injEq, corOk, j1_0, Bool.true_and]; rw [show (decide ((c.rob.length : Int) ≤ 6)) = decide (c.rob.length ≤ 6) by rw [decide_eq_decide]; omega] <;> ac_rfl)
set_option maxHeartbeats 8000000 in
set_option maxRecDepth 100000 in
theorem sat_impl_setBy (x : Ent)  : Sat Try.prog 69 [.agg x.cells] [] (.int .i64 (setBy x)) [] := by
  refine sat_mk [.tmp 2] 0 11 Try.call69 Try.func69 Try.ntmps69 rfl rfl rfl rfl rfl ?_
  refine awl_live' [0] fun ρ hL => ?_
  try simp only [go_sem, simprocAttr] at hL
  have h0 := hL
  clear hL
  refine awl_seq ?_
  refine awl_regS [(some 1, (.box 96 (.tmp 0)), none), (some 2, (.assign (.const (.int .i64 0))), none)] rfl fun K hK => ?_
  try simp only [go_sem, simprocAttr, h0]
  repeat' (refine And.intro (by first | rfl | omega | (simp; done)) ?_)
  refine hK _ _ (.mk (awl_live' [1] fun ρ hL => ?_))
  try simp only [go_sem, simprocAttr, h0] at hL
  try clear h0
  have h1 := hL
  clear hL
  clear hK K
  refine awl_seq ?_
  refine awl_seq ?_
  refine awl_regS [(some 3, (.fieldAddr 96 (.tmp 1) 2), none), (some 4, (.load 4 (.tmp 3)), none)] rfl fun K hK => ?_
  try simp only [go_sem, simprocAttr, h1]
  repeat' (refine And.intro (by first | rfl | omega | (simp; done)) ?_)
  refine hK _ _ (.mk (awl_live' [1, 4] fun ρ hL => ?_))
  try simp only [go_sem, simprocAttr, h1] at hL
  try clear h1
  obtain ⟨h1, h4⟩ := hL
  clear hK K
  refine awl_cond h4 (fun c1 => ?_) (fun c1 => ?_)
  ·
    try simp only [cnd] at c1
    refine awl_seq ?_
    refine awl_regS [(some 5, (.fieldAddr 96 (.tmp 1) 3), none), (some 6, (.fieldAddr 92 (.tmp 5) 1), none), (some 7, (.load 3 (.tmp 6)), none), (some 2, (.assign (.tmp 7)), none)] rfl fun K hK => ?_
    try simp only [go_sem, simprocAttr, h1, h4]
    repeat' (refine And.intro (by first | rfl | omega | (simp; done)) ?_)
    refine hK _ _ (.mk (awl_live' [2] fun ρ hL => ?_))
    try simp only [go_sem, simprocAttr, h1, h4] at hL
    try clear h1 h4
    have h2 := hL
    clear hL
    clear hK K
    refine awl_ret ?_
    refine ret0 (by simp only [go_sem, simprocAttr, h2]; exact rfl) ?_
    try simp only [go_sem, simprocAttr]
    all_goals (rw [setBy, if_pos c1])
  ·
    try simp only [cnd] at c1
    refine awl_skip ?_
    refine awl_seq ?_
    refine awl_regS [(some 8, (.fieldAddr 96 (.tmp 1) 1), none), (some 9, (.load 94 (.tmp 8)), none), (some 10, (.call ⟨(.value (.func 116)), #[(.tmp 9)], #[94]⟩), none), (some 2, (.assign (.tmp 10)), none)] rfl fun K hK => ?_
    try simp only [go_sem, simprocAttr, h1, h4]
    repeat' (refine And.intro (by first | rfl | omega | (simp; done)) ?_)
    refine opS_call_ro rfl (sat_impl_Sets ?_) ?ha ?hv ?hh ?_
    case ha => simp only [go_sem, simprocAttr, h1, h4]; first | done | rfl
    case hv => first | rfl | (simp only [go_sem]; done)
    case hh => first | rfl | (simp only [go_sem]; done)
    try simp only [go_sem, simprocAttr, h1, h4]
    repeat' (refine And.intro (by first | rfl | omega | (simp; done)) ?_)
    refine hK _ _ (.mk (awl_live' [2] fun ρ hL => ?_))
    try simp only [go_sem, simprocAttr, h1, h4] at hL
    try clear h1 h4
    have h2 := hL
    clear hL
    clear hK K
    refine awl_ret ?_
    refine ret0 (by simp only [go_sem, simprocAttr, h2]; exact rfl) ?_
    try simp only [go_sem, simprocAttr]
    all_goals (rw [setBy, if_neg (by simpa using c1)])
set_option maxHeartbeats 8000000 in
set_option maxRecDepth 100000 in
theorem sat_spec_Source (c : Cor) (i : Int) (r : Int) (hf : c.fit) : Sat Try.prog 30 [.agg c.cells, .int .i64 i, .int .i64 r] [] (.int .i64 (source c.rob i r)) [] := by
  refine sat_mk [.tmp 6] 0 50 Try.call30 Try.func30 Try.ntmps30 rfl rfl rfl rfl rfl ?_
  refine awl_live' [0, 1, 2] fun ρ hL => ?_
  try simp only [go_sem, simprocAttr] at hL
  obtain ⟨h0, h1, h2⟩ := hL
  refine awl_seq ?_
  have hf1 := hf.2.1
  refine awl_regS [(some 3, (.box 61 (.tmp 0)), none), (some 6, (.assign (.const (.int .i64 0))), none)] rfl fun K hK => ?_
  try simp only [go_sem, simprocAttr, h0, h1, h2]
  repeat' (refine And.intro (by first | rfl | omega | (simp; done)) ?_)
  refine hK _ _ (.mk (awl_live' [1, 2, 3] fun ρ hL => ?_))
  try simp only [go_sem, simprocAttr, h0, h1, h2] at hL
  try clear h0 h1 h2
  obtain ⟨h1, h2, h3⟩ := hL
  clear hK K
  refine awl_seq ?_
  refine awl_seq ?_
  refine awl_regS [(some 9, (.move (.tmp 2)), none), (some 10, (.binOp .lss 3 (.tmp 9) (.const (.int .i64 0)) 3), none), (some 11, (.move (.tmp 10)), none), (some 12, (.move (.tmp 1)), some (11, false)), (some 13, (.binOp .lss 3 (.tmp 12) (.const (.int .i64 0)) 3), some (11, false)), (some 14, (.pick (.tmp 11) (.const (.bool true)) (.tmp 13)), none)] rfl fun K hK => ?_
  try simp only [go_sem, simprocAttr, h1, h2, h3]
  repeat' (refine And.intro (by first | rfl | omega | (simp; done)) ?_)
  refine awpS_live [1, 2, 3, 11] fun ρ hL => ?_
  try simp only [go_sem, simprocAttr, h1, h2, h3] at hL
  try clear h1 h2 h3
  obtain ⟨h1, h2, h3, h11⟩ := hL
  refine grp_orN (tc := 11) (tv := 13) (td := 14) (v := ?v1) 2 rfl [1, 2, 3] h11 rfl (fun hb K1 hK1 => ?run) (fun hb => ?skip) (fun ρ hP hL => ?_)
  case skip =>
    exact awpS_skip (want := false) (b := _) (by rw [hb]; rfl) _ [] ρ h11 (fun _ _ => rfl) (by simp) rfl
  case run =>
    simp only [List.take_succ_cons, List.take_zero]
    rw [hb] at h11
    try simp only [go_sem, simprocAttr, h1, h2, h3, h11]
    repeat' (refine And.intro (by first | rfl | omega | (simp; done)) ?_)
    exact hK1 _ (by simp only [go_sem, simprocAttr, h1, h2, h3, h11]) (by simp only [go_sem, simprocAttr, h1, h2, h3, h11]; exact rfl) (by simp only [go_sem, simprocAttr, h1, h2, h3, h11])
  simp only [List.drop_succ_cons, List.drop_zero]
  try simp only [go_sem, simprocAttr, h1, h2, h3, h11] at hL
  try clear h1 h2 h3 h11
  obtain ⟨h1, h2, h3⟩ := hL
  have h14 := hP
  clear hP
  try simp only [go_sem, simprocAttr, h1, h2, h3, h14]
  repeat' (refine And.intro (by first | rfl | omega | (simp; done)) ?_)
  refine hK _ _ (.mk (awl_live' [1, 2, 3, 14] fun ρ hL => ?_))
  try simp only [go_sem, simprocAttr, h1, h2, h3, h14] at hL
  try clear h1 h2 h3 h14
  obtain ⟨h1, h2, h3, h14⟩ := hL
  clear hK K
  refine awl_cond h14 (fun c1 => ?_) (fun c1 => ?_)
  ·
    try simp only [cnd] at c1
    refine awl_seq ?_
    refine awl_regS [(some 6, (.assign (.const (.int .i64 (-1)))), none)] rfl fun K hK => ?_
    try simp only [go_sem, simprocAttr, h1, h2, h3, h14]
    repeat' (refine And.intro (by first | rfl | omega | (simp; done)) ?_)
    refine hK _ _ (.mk (awl_live' [6] fun ρ hL => ?_))
    try simp only [go_sem, simprocAttr, h1, h2, h3, h14] at hL
    try clear h1 h2 h3 h14
    have h6 := hL
    clear hL
    clear hK K
    refine awl_ret ?_
    refine ret0 (by simp only [go_sem, simprocAttr, h6]; exact rfl) ?_
    try simp only [go_sem, simprocAttr]
    all_goals (rw [source_neg (by omega)])
  ·
    try simp only [cnd] at c1
    refine awl_skip ?_
    refine awl_seq ?_
    refine awl_seq ?_
    have w0 : IntKind.i64.wrap (min i (c.rob.length : Int) - 1) = min i (c.rob.length : Int) - 1 := wrap64 (by omega)
    refine awl_regS [(some 15, (.move (.tmp 1)), none), (some 16, (.fieldAddr 61 (.tmp 3) 1), none), (some 17, (.load 59 (.tmp 16)), none), (some 18, (.call ⟨(.builtin .len), #[(.tmp 17)], #[59]⟩), none), (some 19, (.call ⟨(.value (.func 65)), #[(.tmp 15), (.tmp 18)], #[3, 3]⟩), none), (some 20, (.binOp .sub 3 (.tmp 19) (.const (.int .i64 1)) 3), none), (some 7, (.assign (.tmp 20)), none)] rfl fun K hK => ?_
    try simp only [go_sem, simprocAttr, h1, h2, h3, h14, w0]
    repeat' (refine And.intro (by first | rfl | omega | (simp; done)) ?_)
    refine opS_call_ro rfl (sat_spec_l1Min ?_ ?_) ?ha ?hv ?hh ?_
    case ha => simp only [go_sem, simprocAttr, h1, h2, h3, h14, w0]; first | done | rfl
    case hv => first | rfl | (simp only [go_sem]; done)
    case hh => first | rfl | (simp only [go_sem]; done)
    try simp only [go_sem, simprocAttr, h1, h2, h3, h14, w0]
    repeat' (refine And.intro (by first | rfl | omega | (simp; done)) ?_)
    refine hK _ _ (.mk (awl_live' [2, 3, 7] fun ρ hL => ?_))
    try simp only [go_sem, simprocAttr, h1, h2, h3, h14, w0] at hL
    try clear h1 h2 h3 h14
    obtain ⟨h2, h3, h7⟩ := hL
    clear hK K
    have e1_2 := h2
    have e1_3 := h3
    refine awl_loopH (fun H0 n σ G => ∃ (m : Nat), n = m ∧ (m ≤ c.rob.length) ∧ (lastAt (fun x => decide (setBy x = r)) noEnt c.rob m = source c.rob i r) ∧ liveE [2, 3] σ ρ ∧ σ 7 = .int .i64 ((m : Int) - 1) ∧ G = H0) (fun H0 σ G => (source c.rob i r = -1) ∧ liveE [] σ ρ ∧ G = H0) ((fun (m : Nat) => m) (upTo i c.rob.length)) ?init1 (fun n ρ G hI => ?round1) (fun ρ G hJ => ?after1)
    case init1 => exact ⟨(upTo i c.rob.length), rfl, (upTo_le _ _), (by rw [source, if_neg (by omega)]), liveE_refl _ _, (by rw [h7]; congr 1; unfold upTo; omega), rfl⟩
    case round1 =>
      obtain ⟨m, hn, i1_0, i1_1, hL, k7, hG⟩ := hI
      subst hG
      try simp only [go_sem, simprocAttr, h2, h3, h7] at hL
      clear h2 h3 h7
      obtain ⟨h2, h3⟩ := hL
      have h7 := k7
      clear k7
      refine awl_seq ?_
      refine awl_seq ?_
      refine awl_regS [(some 21, (.move (.tmp 7)), none), (some 22, (.binOp .geq 3 (.tmp 21) (.const (.int .i64 0)) 3), none)] rfl fun K hK => ?_
      try simp only [go_sem, simprocAttr, h2, h3, h7]
      repeat' (refine And.intro (by first | rfl | omega | (simp; done)) ?_)
      refine hK _ _ (.mk (awl_live' [2, 3, 7, 22] fun ρ hL => ?_))
      try simp only [go_sem, simprocAttr, h2, h3, h7] at hL
      try clear h2 h3 h7
      obtain ⟨h2, h3, h7, h22⟩ := hL
      clear hK K
      refine awl_cond h22 (fun c2 => ?_) (fun c2 => ?_)
      ·
        try simp only [cnd] at c2
        refine awl_skip ?_
        refine awl_seq ?_
        refine awl_block fun R1 hw1 hR1 => ?_
        refine awl_seq ?_
        obtain ⟨q, rfl⟩ : ∃ q : Nat, m = q + 1 := ⟨m - 1, by omega⟩
        have hq : (((q + 1 : Nat) : Int)) - 1 = (q : Int) := by omega
        rw [hq] at h7
        have hq2 : q < c.rob.length := by omega
        refine awl_regS [(some 25, (.fieldAddr 61 (.tmp 3) 1), none), (some 26, (.load 59 (.tmp 25)), none), (some 27, (.move (.tmp 7)), none), (some 28, (.indexAddr 59 (.tmp 26) (.tmp 27)), none), (some 29, (.fieldAddr 96 (.tmp 28) 3), none), (some 30, (.fieldAddr 92 (.tmp 29) 1), none), (some 31, (.load 3 (.tmp 30)), none), (some 8, (.assign (.tmp 31)), none)] rfl fun K hK => ?_
        try simp only [go_sem, simprocAttr, h2, h3, h7, h22, hq2]
        repeat' (refine And.intro (by first | rfl | omega | (simp; done)) ?_)
        refine hK _ _ (.mk (awl_live' [2, 3, 7, 8] fun ρ hL => ?_))
        try simp only [go_sem, simprocAttr, h2, h3, h7, h22, hq2] at hL
        try clear h2 h3 h7 h22
        obtain ⟨h2, h3, h7, h8⟩ := hL
        clear hK K
        refine awl_seq ?_
        refine awl_seq ?_
        refine awl_regS [(some 32, (.fieldAddr 61 (.tmp 3) 1), none), (some 33, (.load 59 (.tmp 32)), none), (some 34, (.move (.tmp 7)), none), (some 35, (.indexAddr 59 (.tmp 33) (.tmp 34)), none), (some 36, (.fieldAddr 96 (.tmp 35) 2), none), (some 37, (.load 4 (.tmp 36)), none), (some 38, (.unOp .not 4 (.tmp 37)), none)] rfl fun K hK => ?_
        try simp only [go_sem, simprocAttr, h2, h3, h7, h8, hq2]
        repeat' (refine And.intro (by first | rfl | omega | (simp; done)) ?_)
        refine hK _ _ (.mk (awl_live' [2, 3, 7, 8, 38] fun ρ hL => ?_))
        try simp only [go_sem, simprocAttr, h2, h3, h7, h8, hq2] at hL
        try clear h2 h3 h7 h8
        obtain ⟨h2, h3, h7, h8, h38⟩ := hL
        clear hK K
        have j2_2 := h2
        have j2_3 := h3
        have j2_7 := h7
        refine awl_joinH (fun H0 σ G => liveE [2, 3, 7] σ ρ ∧ σ 8 = .int .i64 (setBy (c.rob.getD q noEnt)) ∧ G = H0) ?inner2 (fun ρ G hJ => ?after2)
        case inner2 =>
          refine awl_cond h38 (fun c3 => ?_) (fun c3 => ?_)
          ·
            try simp only [cnd] at c3
            refine awl_regS [(some 39, (.fieldAddr 61 (.tmp 3) 1), none), (some 40, (.load 59 (.tmp 39)), none), (some 41, (.move (.tmp 7)), none), (some 42, (.indexAddr 59 (.tmp 40) (.tmp 41)), none), (some 43, (.fieldAddr 96 (.tmp 42) 1), none), (some 44, (.load 94 (.tmp 43)), none), (some 45, (.call ⟨(.value (.func 66)), #[(.tmp 44)], #[94]⟩), none), (some 8, (.assign (.tmp 45)), none)] rfl fun K hK => ?_
            try simp only [go_sem, simprocAttr, h2, h3, h7, h8, h38, hq2]
            repeat' (refine And.intro (by first | rfl | omega | (simp; done)) ?_)
            refine opS_call_ro rfl (sat_spec_Sets (c.rob.getD q noEnt).x) ?ha ?hv ?hh ?_
            case ha => simp only [go_sem, simprocAttr, h2, h3, h7, h8, h38, hq2]; first | done | rfl
            case hv => first | rfl | (simp only [go_sem]; done)
            case hh => first | rfl | (simp only [go_sem]; done)
            try simp only [go_sem, simprocAttr, h2, h3, h7, h8, h38, hq2]
            repeat' (refine And.intro (by first | rfl | omega | (simp; done)) ?_)
            refine hK _ _ (.mk (awl_live' [2, 3, 7, 8] fun ρ hL => ?_))
            try simp only [go_sem, simprocAttr, h2, h3, h7, h8, h38, hq2] at hL
            try clear h2 h3 h7 h8 h38
            obtain ⟨h2, h3, h7, h8⟩ := hL
            clear hK K
            refine awl_nil ?_
            show wkQ _ _ _ _
            refine .mk ⟨(by simp only [go_sem, simprocAttr, h2, h3, h7, h8, j2_2, j2_3, j2_7]), (by rw [h8]; simp_all [setBy]), rfl⟩
          ·
            try simp only [cnd] at c3
            refine awl_skip ?_
            refine awl_nil ?_
            show wkQ _ _ _ _
            refine .mk ⟨(by simp only [go_sem, simprocAttr, h2, h3, h7, h8, h38, j2_2, j2_3, j2_7]), (by rw [h8]; simp_all [setBy]), rfl⟩
        case after2 =>
          obtain ⟨hL, k8, hG⟩ := hJ
          subst hG
          try simp only [go_sem, simprocAttr, h2, h3, h7, h8, h38] at hL
          clear h2 h3 h7 h8 h38
          obtain ⟨h2, h3, h7⟩ := hL
          have h8 := k8
          clear k8
          refine awl_seq ?_
          refine awl_regS [(some 46, (.move (.tmp 8)), none), (some 47, (.move (.tmp 2)), none), (some 48, (.binOp .eql 3 (.tmp 46) (.tmp 47) 3), none)] rfl fun K hK => ?_
          try simp only [go_sem, simprocAttr, h2, h3, h7, h8]
          repeat' (refine And.intro (by first | rfl | omega | (simp; done)) ?_)
          refine hK _ _ (.mk (awl_live' [2, 3, 7, 48] fun ρ hL => ?_))
          try simp only [go_sem, simprocAttr, h2, h3, h7, h8] at hL
          try clear h2 h3 h7 h8
          obtain ⟨h2, h3, h7, h48⟩ := hL
          clear hK K
          refine awl_cond h48 (fun c4 => ?_) (fun c4 => ?_)
          ·
            try simp only [cnd] at c4
            refine awl_seq ?_
            refine awl_regS [(some 49, (.move (.tmp 7)), none), (some 6, (.assign (.tmp 49)), none)] rfl fun K hK => ?_
            try simp only [go_sem, simprocAttr, h2, h3, h7, h48]
            repeat' (refine And.intro (by first | rfl | omega | (simp; done)) ?_)
            refine hK _ _ (.mk (awl_live' [6] fun ρ hL => ?_))
            try simp only [go_sem, simprocAttr, h2, h3, h7, h48] at hL
            try clear h2 h3 h7 h48
            have h6 := hL
            clear hL
            clear hK K
            refine awl_ret ?_
            refine blk_ret ?_
            refine loop_ret ?_
            refine ret0 (by simp only [go_sem, simprocAttr, h6]; exact rfl) ?_
            try simp only [go_sem, simprocAttr]
            all_goals try clear hR1
            all_goals (rw [← i1_1, lastAt_hit (by simpa using c4)])
          ·
            try simp only [cnd] at c4
            refine awl_skip ?_
            refine awl_nil ?_
            refine blk_normal (hR1 _ _ (.mk ?_))
            have wq : IntKind.i64.wrap ((q : Int) - 1) = (q : Int) - 1 := wrap64 (by omega)
            refine awl_regS [(some 23, (.move (.tmp 7)), none), (some 24, (.binOp .sub 3 (.tmp 23) (.const (.int .i64 1)) 3), none), (some 7, (.assign (.tmp 24)), none)] rfl fun K hK => ?_
            try simp only [go_sem, simprocAttr, h2, h3, h7, h48, wq]
            repeat' (refine And.intro (by first | rfl | omega | (simp; done)) ?_)
            refine hK _ _ (.mk (awl_live' [2, 3, 7] fun ρ hL => ?_))
            try simp only [go_sem, simprocAttr, h2, h3, h7, h48, wq] at hL
            try clear h2 h3 h7 h48
            obtain ⟨h2, h3, h7⟩ := hL
            clear hK K
            refine awl_nil ?_
            refine loop_again _ ?meas ⟨q, rfl, (by omega), (by rw [← i1_1, lastAt_miss (by simpa using c4)]), (by simp only [go_sem, simprocAttr, h2, h3, h7, e1_2, e1_3]), (h7), rfl⟩
            case meas => subst hn; omega
      ·
        try simp only [cnd] at c2
        refine awl_exit ?_
        refine loop_break ?_
        exact ⟨(by rw [← i1_1, show m = 0 by omega]; rfl), (by simp only [go_sem, simprocAttr, h2, h3, h7, h22, e1_2, e1_3]), rfl⟩
    case after1 =>
      obtain ⟨j1_0, hL, hG⟩ := hJ
      subst hG
      clear h2 h3 h7
      clear hL
      refine awl_seq ?_
      refine awl_regS [(some 6, (.assign (.const (.int .i64 (-1)))), none)] rfl fun K hK => ?_
      try simp only [go_sem, simprocAttr]
      repeat' (refine And.intro (by first | rfl | omega | (simp; done)) ?_)
      refine hK _ _ (.mk (awl_live' [6] fun ρ hL => ?_))
      try simp only [go_sem, simprocAttr] at hL
      have h6 := hL
      clear hL
      clear hK K
      refine awl_ret ?_
      refine ret0 (by simp only [go_sem, simprocAttr, h6]; exact rfl) ?_
      try simp only [go_sem, simprocAttr]
      all_goals try clear hR1
      all_goals (rw [j1_0])
set_option maxHeartbeats 8000000 in
set_option maxRecDepth 100000 in
theorem sat_impl_Source (c : Cor) (i : Int) (r : Int) (hf : c.fit) : Sat Try.prog 32 [.agg c.cells, .int .i64 i, .int .i64 r] [] (.int .i64 (source c.rob i r)) [] := by
  refine sat_mk [.tmp 6] 0 32 Try.call32 Try.func32 Try.ntmps32 rfl rfl rfl rfl rfl ?_
  refine awl_live' [0, 1, 2] fun ρ hL => ?_
  try simp only [go_sem, simprocAttr] at hL
  obtain ⟨h0, h1, h2⟩ := hL
  refine awl_seq ?_
  have hf1 := hf.2.1
  refine awl_regS [(some 3, (.box 61 (.tmp 0)), none), (some 6, (.assign (.const (.int .i64 0))), none)] rfl fun K hK => ?_
  try simp only [go_sem, simprocAttr, h0, h1, h2]
  repeat' (refine And.intro (by first | rfl | omega | (simp; done)) ?_)
  refine hK _ _ (.mk (awl_live' [1, 2, 3] fun ρ hL => ?_))
  try simp only [go_sem, simprocAttr, h0, h1, h2] at hL
  try clear h0 h1 h2
  obtain ⟨h1, h2, h3⟩ := hL
  clear hK K
  refine awl_seq ?_
  refine awl_seq ?_
  refine awl_regS [(some 8, (.move (.tmp 1)), none), (some 9, (.fieldAddr 61 (.tmp 3) 1), none), (some 10, (.load 59 (.tmp 9)), none), (some 11, (.call ⟨(.builtin .len), #[(.tmp 10)], #[59]⟩), none), (some 12, (.call ⟨(.builtin .min), #[(.tmp 8), (.tmp 11)], #[3, 3]⟩), none), (some 7, (.assign (.tmp 12)), none)] rfl fun K hK => ?_
  try simp only [go_sem, simprocAttr, h1, h2, h3]
  repeat' (refine And.intro (by first | rfl | omega | (simp; done)) ?_)
  refine hK _ _ (.mk (awl_live' [2, 3, 7] fun ρ hL => ?_))
  try simp only [go_sem, simprocAttr, h1, h2, h3] at hL
  try clear h1 h2 h3
  obtain ⟨h2, h3, h7⟩ := hL
  clear hK K
  have e1_2 := h2
  have e1_3 := h3
  refine awl_loopH (fun H0 n σ G => ∃ (k : Int), n = k.toNat ∧ (k ≤ c.rob.length) ∧ (0 ≤ r → lastAt (fun x => decide (setBy x = r)) noEnt c.rob k.toNat = source c.rob i r) ∧ liveE [2, 3] σ ρ ∧ σ 7 = .int .i64 k ∧ G = H0) (fun H0 σ G => (source c.rob i r = -1) ∧ liveE [] σ ρ ∧ G = H0) ((fun (k : Int) => k.toNat) (min (c.rob.length : Int) i)) ?init1 (fun n ρ G hI => ?round1) (fun ρ G hJ => ?after1)
  case init1 => exact ⟨(min (c.rob.length : Int) i), rfl, (by omega), (fun hr => by rw [source, if_neg (by omega), upTo]; congr 1; omega), liveE_refl _ _, (h7), rfl⟩
  case round1 =>
    obtain ⟨k, hn, i1_0, i1_1, hL, k7, hG⟩ := hI
    subst hG
    try simp only [go_sem, simprocAttr, h2, h3, h7] at hL
    clear h2 h3 h7
    obtain ⟨h2, h3⟩ := hL
    have h7 := k7
    clear k7
    refine awl_seq ?_
    refine awl_seq ?_
    refine awl_regS [(some 13, (.move (.tmp 7)), none), (some 14, (.binOp .gtr 3 (.tmp 13) (.const (.int .i64 0)) 3), none), (some 15, (.move (.tmp 14)), none), (some 16, (.move (.tmp 2)), some (15, true)), (some 17, (.binOp .geq 3 (.tmp 16) (.const (.int .i64 0)) 3), some (15, true)), (some 18, (.pick (.tmp 15) (.tmp 17) (.const (.bool false))), none)] rfl fun K hK => ?_
    try simp only [go_sem, simprocAttr, h2, h3, h7]
    repeat' (refine And.intro (by first | rfl | omega | (simp; done)) ?_)
    refine awpS_live [2, 3, 7, 15] fun ρ hL => ?_
    try simp only [go_sem, simprocAttr, h2, h3, h7] at hL
    try clear h2 h3 h7
    obtain ⟨h2, h3, h7, h15⟩ := hL
    refine grp_andN (tc := 15) (tv := 17) (td := 18) (v := ?v1) 2 rfl [2, 3, 7] h15 rfl (fun hb K1 hK1 => ?run) (fun hb => ?skip) (fun ρ hP hL => ?_)
    case skip =>
      exact awpS_skip (want := true) (b := _) (by rw [hb]; rfl) _ [] ρ h15 (fun _ _ => rfl) (by simp) rfl
    case run =>
      simp only [List.take_succ_cons, List.take_zero]
      rw [hb] at h15
      try simp only [go_sem, simprocAttr, h2, h3, h7, h15]
      repeat' (refine And.intro (by first | rfl | omega | (simp; done)) ?_)
      exact hK1 _ (by simp only [go_sem, simprocAttr, h2, h3, h7, h15]) (by simp only [go_sem, simprocAttr, h2, h3, h7, h15]; exact rfl) (by simp only [go_sem, simprocAttr, h2, h3, h7, h15])
    simp only [List.drop_succ_cons, List.drop_zero]
    try simp only [go_sem, simprocAttr, h2, h3, h7, h15] at hL
    try clear h2 h3 h7 h15
    obtain ⟨h2, h3, h7⟩ := hL
    have h18 := hP
    clear hP
    try simp only [go_sem, simprocAttr, h2, h3, h7, h18]
    repeat' (refine And.intro (by first | rfl | omega | (simp; done)) ?_)
    refine hK _ _ (.mk (awl_live' [2, 3, 7, 18] fun ρ hL => ?_))
    try simp only [go_sem, simprocAttr, h2, h3, h7, h18] at hL
    try clear h2 h3 h7 h18
    obtain ⟨h2, h3, h7, h18⟩ := hL
    clear hK K
    refine awl_cond h18 (fun c1 => ?_) (fun c1 => ?_)
    ·
      try simp only [cnd] at c1
      refine awl_skip ?_
      refine awl_seq ?_
      refine awl_block fun R1 hw1 hR1 => ?_
      refine awl_seq ?_
      obtain ⟨q, rfl⟩ : ∃ q : Nat, k = (q : Int) + 1 := ⟨(k - 1).toNat, by omega⟩
      have hq2 : q < c.rob.length := by omega
      have wq : IntKind.i64.wrap ((q : Int) + 1 - 1) = (q : Int) := by rw [wrap64 (by omega)]; omega
      rw [show ((q : Int) + 1).toNat = q + 1 by omega] at i1_1
      refine awl_regS [(some 21, (.fieldAddr 61 (.tmp 3) 1), none), (some 22, (.load 59 (.tmp 21)), none), (some 23, (.move (.tmp 7)), none), (some 24, (.binOp .sub 3 (.tmp 23) (.const (.int .i64 1)) 3), none), (some 25, (.indexAddr 59 (.tmp 22) (.tmp 24)), none), (some 26, (.load 96 (.tmp 25)), none), (some 27, (.call ⟨(.value (.func 69)), #[(.tmp 26)], #[96]⟩), none), (some 28, (.move (.tmp 2)), none), (some 29, (.binOp .eql 3 (.tmp 27) (.tmp 28) 3), none)] rfl fun K hK => ?_
      try simp only [go_sem, simprocAttr, h2, h3, h7, h18, hq2, wq]
      repeat' (refine And.intro (by first | rfl | omega | (simp; done)) ?_)
      refine opS_call_ro rfl (sat_impl_setBy (c.rob.getD q noEnt)) ?ha ?hv ?hh ?_
      case ha => simp only [go_sem, simprocAttr, h2, h3, h7, h18, hq2, wq]; first | done | rfl
      case hv => first | rfl | (simp only [go_sem]; done)
      case hh => first | rfl | (simp only [go_sem]; done)
      try simp only [go_sem, simprocAttr, h2, h3, h7, h18, hq2, wq]
      repeat' (refine And.intro (by first | rfl | omega | (simp; done)) ?_)
      refine hK _ _ (.mk (awl_live' [2, 3, 7, 29] fun ρ hL => ?_))
      try simp only [go_sem, simprocAttr, h2, h3, h7, h18, hq2, wq] at hL
      try clear h2 h3 h7 h18
      obtain ⟨h2, h3, h7, h29⟩ := hL
      clear hK K
      refine awl_cond h29 (fun c2 => ?_) (fun c2 => ?_)
      ·
        try simp only [cnd] at c2
        refine awl_seq ?_
        refine awl_regS [(some 30, (.move (.tmp 7)), none), (some 31, (.binOp .sub 3 (.tmp 30) (.const (.int .i64 1)) 3), none), (some 6, (.assign (.tmp 31)), none)] rfl fun K hK => ?_
        try simp only [go_sem, simprocAttr, h2, h3, h7, h29, wq]
        repeat' (refine And.intro (by first | rfl | omega | (simp; done)) ?_)
        refine hK _ _ (.mk (awl_live' [6] fun ρ hL => ?_))
        try simp only [go_sem, simprocAttr, h2, h3, h7, h29, wq] at hL
        try clear h2 h3 h7 h29
        have h6 := hL
        clear hL
        clear hK K
        refine awl_ret ?_
        refine blk_ret ?_
        refine loop_ret ?_
        refine ret0 (by simp only [go_sem, simprocAttr, h6]; exact rfl) ?_
        try simp only [go_sem, simprocAttr]
        all_goals try clear hR1
        all_goals (rw [← i1_1 (by omega), lastAt_hit (by simpa using c2)])
      ·
        try simp only [cnd] at c2
        refine awl_skip ?_
        refine awl_nil ?_
        refine blk_normal (hR1 _ _ (.mk ?_))
        refine awl_regS [(some 19, (.move (.tmp 7)), none), (some 20, (.binOp .sub 3 (.tmp 19) (.const (.int .i64 1)) 3), none), (some 7, (.assign (.tmp 20)), none)] rfl fun K hK => ?_
        try simp only [go_sem, simprocAttr, h2, h3, h7, h29, wq]
        repeat' (refine And.intro (by first | rfl | omega | (simp; done)) ?_)
        refine hK _ _ (.mk (awl_live' [2, 3, 7] fun ρ hL => ?_))
        try simp only [go_sem, simprocAttr, h2, h3, h7, h29, wq] at hL
        try clear h2 h3 h7 h29
        obtain ⟨h2, h3, h7⟩ := hL
        clear hK K
        refine awl_nil ?_
        refine loop_again _ ?meas ⟨(q : Int), rfl, (by omega), (by exact fun hr => by rw [← i1_1 hr, lastAt_miss (by simpa using c2), Int.toNat_natCast]), (by simp only [go_sem, simprocAttr, h2, h3, h7, e1_2, e1_3]), (h7), rfl⟩
        case meas => subst hn; omega
    ·
      try simp only [cnd] at c1
      refine awl_exit ?_
      refine loop_break ?_
      exact ⟨(by exact (Classical.em (0 ≤ r)).elim (fun hr => by rw [← i1_1 hr, show k.toNat = 0 by omega]; rfl) (fun hr => source_neg (by omega))), (by simp only [go_sem, simprocAttr, h2, h3, h7, h18, e1_2, e1_3]), rfl⟩
  case after1 =>
    obtain ⟨j1_0, hL, hG⟩ := hJ
    subst hG
    clear h2 h3 h7
    clear hL
    refine awl_seq ?_
    refine awl_regS [(some 6, (.assign (.const (.int .i64 (-1)))), none)] rfl fun K hK => ?_
    try simp only [go_sem, simprocAttr]
    repeat' (refine And.intro (by first | rfl | omega | (simp; done)) ?_)
    refine hK _ _ (.mk (awl_live' [6] fun ρ hL => ?_))
    try simp only [go_sem, simprocAttr] at hL
    have h6 := hL
    clear hL
    clear hK K
    refine awl_ret ?_
    refine ret0 (by simp only [go_sem, simprocAttr, h6]; exact rfl) ?_
    try simp only [go_sem, simprocAttr]
    all_goals try clear hR1
    all_goals (rw [j1_0])
set_option maxHeartbeats 8000000 in
set_option maxRecDepth 100000 in
theorem sat_spec_l12Value (c : Cor) (i : Int) (r : Int) (hf : c.fit) (hr : 0 ≤ r ∧ r < c.s.regs.length) : Sat Try.prog 90 [.agg c.cells, .int .i64 i, .int .i64 r] [] (.tuple [.agg (Word.cells (valueRaw c i r).1), .bool (valueRaw c i r).2]) [] := by
  refine sat_mk [.cell 6 42, .tmp 7] 0 36 Try.call90 Try.func90 Try.ntmps90 rfl rfl rfl rfl rfl ?_
  refine awl_live' [0, 1, 2] fun ρ hL => ?_
  try simp only [go_sem, simprocAttr] at hL
  obtain ⟨h0, h1, h2⟩ := hL
  refine awl_seq ?_
  have hr2 : r.toNat < c.s.regs.length := by omega
  refine awl_regS [(some 3, (.box 61 (.tmp 0)), none), (some 6, (.alloc 42), none), (some 7, (.assign (.const (.bool false))), none)] rfl fun K hK => ?_
  try simp only [go_sem, simprocAttr, h0, h1, h2]
  repeat' (refine And.intro (by first | rfl | omega | (simp; done)) ?_)
  refine hK _ _ (.mk (awl_live' [1, 2, 3, 6] fun ρ hL => ?_))
  try simp only [go_sem, simprocAttr, h0, h1, h2] at hL
  try clear h0 h1 h2
  obtain ⟨h1, h2, h3, h6⟩ := hL
  clear hK K
  refine awl_seq ?_
  refine awl_regS [(some 9, (.load 61 (.tmp 3)), none), (some 10, (.move (.tmp 1)), none), (some 11, (.move (.tmp 2)), none), (some 12, (.call ⟨(.value (.func 30)), #[(.tmp 9), (.tmp 10), (.tmp 11)], #[61, 3, 3]⟩), none), (some 8, (.assign (.tmp 12)), none)] rfl fun K hK => ?_
  try simp only [go_sem, simprocAttr, h1, h2, h3, h6]
  repeat' (refine And.intro (by first | rfl | omega | (simp; done)) ?_)
  refine opS_call_ro rfl (sat_spec_Source ?_ ?_ ?_ ?hp0) ?ha ?hv ?hh ?_
  case ha => simp only [go_sem, simprocAttr, h1, h2, h3, h6]; first | done | rfl
  case hp0 => first | assumption | omega | (simp; done)
  case hv => first | rfl | (simp only [go_sem]; done)
  case hh => first | rfl | (simp only [go_sem]; done)
  try simp only [go_sem, simprocAttr, h1, h2, h3, h6]
  repeat' (refine And.intro (by first | rfl | omega | (simp; done)) ?_)
  refine hK _ _ (.mk (awl_live' [2, 3, 6, 8] fun ρ hL => ?_))
  try simp only [go_sem, simprocAttr, h1, h2, h3, h6] at hL
  try clear h1 h2 h3 h6
  obtain ⟨h2, h3, h6, h8⟩ := hL
  clear hK K
  refine awl_seq ?_
  refine awl_seq ?_
  refine awl_regS [(some 13, (.move (.tmp 8)), none), (some 14, (.binOp .lss 3 (.tmp 13) (.const (.int .i64 0)) 3), none)] rfl fun K hK => ?_
  try simp only [go_sem, simprocAttr, h2, h3, h6, h8]
  repeat' (refine And.intro (by first | rfl | omega | (simp; done)) ?_)
  refine hK _ _ (.mk (awl_live' [2, 3, 6, 8, 14] fun ρ hL => ?_))
  try simp only [go_sem, simprocAttr, h2, h3, h6, h8] at hL
  try clear h2 h3 h6 h8
  obtain ⟨h2, h3, h6, h8, h14⟩ := hL
  clear hK K
  refine awl_cond h14 (fun c1 => ?_) (fun c1 => ?_)
  ·
    try simp only [cnd] at c1
    refine awl_seq ?_
    refine awl_regS [(some 15, (.fieldAddr 61 (.tmp 3) 0), none), (some 16, (.fieldAddr 46 (.tmp 15) 0), none), (some 17, (.load 38 (.tmp 16)), none), (some 18, (.move (.tmp 2)), none), (some 19, (.indexAddr 38 (.tmp 17) (.tmp 18)), none), (some 20, (.load 42 (.tmp 19)), none), (none, (.store 42 (.tmp 6) (.tmp 20)), none), (some 7, (.assign (.const (.bool true))), none)] rfl fun K hK => ?_
    try simp only [go_sem, simprocAttr, h2, h3, h6, h8, h14, hr2]
    repeat' (refine And.intro (by first | rfl | omega | (simp; done)) ?_)
    refine hK _ _ (.mk (awl_live' [6, 7] fun ρ hL => ?_))
    try simp only [go_sem, simprocAttr, h2, h3, h6, h8, h14, hr2] at hL
    try clear h2 h3 h6 h8 h14
    obtain ⟨h6, h7⟩ := hL
    clear hK K
    refine awl_ret ?_
    refine ret0 (by simp only [go_sem, simprocAttr, h6, h7]; exact rfl) ?_
    try simp only [go_sem, simprocAttr]
    all_goals (rw [raw_reg c1] <;> rfl)
  ·
    try simp only [cnd] at c1
    refine awl_skip ?_
    refine awl_seq ?_
    refine awl_seq ?_
    obtain ⟨m, hm, hm2⟩ := source_nat c1
    rw [hm] at h8
    refine awl_regS [(some 21, (.fieldAddr 61 (.tmp 3) 1), none), (some 22, (.load 59 (.tmp 21)), none), (some 23, (.move (.tmp 8)), none), (some 24, (.indexAddr 59 (.tmp 22) (.tmp 23)), none), (some 25, (.fieldAddr 96 (.tmp 24) 2), none), (some 26, (.load 4 (.tmp 25)), none), (some 27, (.unOp .not 4 (.tmp 26)), none)] rfl fun K hK => ?_
    try simp only [go_sem, simprocAttr, h2, h3, h6, h8, h14, hm2]
    repeat' (refine And.intro (by first | rfl | omega | (simp; done)) ?_)
    refine hK _ _ (.mk (awl_live' [3, 6, 8, 27] fun ρ hL => ?_))
    try simp only [go_sem, simprocAttr, h2, h3, h6, h8, h14, hm2] at hL
    try clear h2 h3 h6 h8 h14
    obtain ⟨h3, h6, h8, h27⟩ := hL
    clear hK K
    refine awl_cond h27 (fun c2 => ?_) (fun c2 => ?_)
    ·
      try simp only [cnd] at c2
      refine awl_seq ?_
      refine awl_regS [(some 28, (.build 42 #[]), none), (none, (.store 42 (.tmp 6) (.tmp 28)), none), (some 7, (.assign (.const (.bool false))), none)] rfl fun K hK => ?_
      try simp only [go_sem, simprocAttr, h3, h6, h8, h27]
      repeat' (refine And.intro (by first | rfl | omega | (simp; done)) ?_)
      refine hK _ _ (.mk (awl_live' [6, 7] fun ρ hL => ?_))
      try simp only [go_sem, simprocAttr, h3, h6, h8, h27] at hL
      try clear h3 h6 h8 h27
      obtain ⟨h6, h7⟩ := hL
      clear hK K
      refine awl_ret ?_
      refine ret0 (by simp only [go_sem, simprocAttr, h6, h7]; exact rfl) ?_
      try simp only [go_sem, simprocAttr]
      all_goals (rw [raw_wait hm (by simpa using c2)] <;> rfl)
    ·
      try simp only [cnd] at c2
      refine awl_skip ?_
      refine awl_seq ?_
      refine awl_regS [(some 29, (.fieldAddr 61 (.tmp 3) 1), none), (some 30, (.load 59 (.tmp 29)), none), (some 31, (.move (.tmp 8)), none), (some 32, (.indexAddr 59 (.tmp 30) (.tmp 31)), none), (some 33, (.fieldAddr 96 (.tmp 32) 3), none), (some 34, (.fieldAddr 92 (.tmp 33) 2), none), (some 35, (.load 42 (.tmp 34)), none), (none, (.store 42 (.tmp 6) (.tmp 35)), none), (some 7, (.assign (.const (.bool true))), none)] rfl fun K hK => ?_
      try simp only [go_sem, simprocAttr, h3, h6, h8, h27, hm2]
      repeat' (refine And.intro (by first | rfl | omega | (simp; done)) ?_)
      refine hK _ _ (.mk (awl_live' [6, 7] fun ρ hL => ?_))
      try simp only [go_sem, simprocAttr, h3, h6, h8, h27, hm2] at hL
      try clear h3 h6 h8 h27
      obtain ⟨h6, h7⟩ := hL
      clear hK K
      refine awl_ret ?_
      refine ret0 (by simp only [go_sem, simprocAttr, h6, h7]; exact rfl) ?_
      try simp only [go_sem, simprocAttr]
      all_goals (rw [raw_done hm (by simpa using c2)] <;> rfl)
set_option maxHeartbeats 8000000 in
set_option maxRecDepth 100000 in
theorem sat_spec_Value (c : Cor) (i : Int) (r : Int) (hf : c.fit) : Sat Try.prog 43 [.agg c.cells, .int .i64 i, .int .i64 r] [] (.tuple [.agg (Word.cells (value c i r).1), .bool (value c i r).2]) [] := by
  refine sat_mk [.cell 6 42, .tmp 7] 0 28 Try.call43 Try.func43 Try.ntmps43 rfl rfl rfl rfl rfl ?_
  refine awl_live' [0, 1, 2] fun ρ hL => ?_
  try simp only [go_sem, simprocAttr] at hL
  obtain ⟨h0, h1, h2⟩ := hL
  refine awl_seq ?_
  refine awl_regS [(some 3, (.box 61 (.tmp 0)), none), (some 6, (.alloc 42), none), (some 7, (.assign (.const (.bool false))), none)] rfl fun K hK => ?_
  try simp only [go_sem, simprocAttr, h0, h1, h2]
  repeat' (refine And.intro (by first | rfl | omega | (simp; done)) ?_)
  refine hK _ _ (.mk (awl_live' [1, 2, 3, 6] fun ρ hL => ?_))
  try simp only [go_sem, simprocAttr, h0, h1, h2] at hL
  try clear h0 h1 h2
  obtain ⟨h1, h2, h3, h6⟩ := hL
  clear hK K
  refine awl_seq ?_
  refine awl_seq ?_
  refine awl_regS [(some 10, (.move (.tmp 2)), none), (some 11, (.call ⟨(.value (.func 89)), #[(.tmp 10), (.const (.int .i64 0)), (.const (.int .i64 7))], #[3, 3, 3]⟩), none), (some 12, (.unOp .not 4 (.tmp 11)), none), (some 13, (.move (.tmp 12)), none), (some 14, (.load 61 (.tmp 3)), some (13, false)), (some 15, (.call ⟨(.value (.func 38)), #[(.tmp 14)], #[61]⟩), some (13, false)), (some 16, (.unOp .not 4 (.tmp 15)), some (13, false)), (some 17, (.pick (.tmp 13) (.const (.bool true)) (.tmp 16)), none)] rfl fun K hK => ?_
  try simp only [go_sem, simprocAttr, h1, h2, h3, h6]
  repeat' (refine And.intro (by first | rfl | omega | (simp; done)) ?_)
  refine opS_call_ro rfl (sat_spec_l1In ?_ ?_ ?_) ?ha ?hv ?hh ?_
  case ha => simp only [go_sem, simprocAttr, h1, h2, h3, h6]; first | done | rfl
  case hv => first | rfl | (simp only [go_sem]; done)
  case hh => first | rfl | (simp only [go_sem]; done)
  try simp only [go_sem, simprocAttr, h1, h2, h3, h6]
  repeat' (refine And.intro (by first | rfl | omega | (simp; done)) ?_)
  refine awpS_live [1, 2, 3, 6, 13] fun ρ hL => ?_
  try simp only [go_sem, simprocAttr, h1, h2, h3, h6] at hL
  try clear h1 h2 h3 h6
  obtain ⟨h1, h2, h3, h6, h13⟩ := hL
  refine grp_orN (tc := 13) (tv := 16) (td := 17) (v := ?v1) 3 rfl [1, 2, 3, 6] h13 rfl (fun hb K1 hK1 => ?run) (fun hb => ?skip) (fun ρ hP hL => ?_)
  case skip =>
    exact awpS_skip (want := false) (b := _) (by rw [hb]; rfl) _ [] ρ h13 (fun _ _ => rfl) (by simp) rfl
  case run =>
    simp only [List.take_succ_cons, List.take_zero]
    rw [hb] at h13
    try simp only [go_sem, simprocAttr, h1, h2, h3, h6, h13]
    repeat' (refine And.intro (by first | rfl | omega | (simp; done)) ?_)
    refine opS_call_ro rfl (sat_spec_CoreOk ?_ ?hp0) ?ha ?hv ?hh ?_
    case ha => simp only [go_sem, simprocAttr, h1, h2, h3, h6, h13]; first | done | rfl
    case hp0 => first | assumption | omega | (simp; done)
    case hv => first | rfl | (simp only [go_sem]; done)
    case hh => first | rfl | (simp only [go_sem]; done)
    try simp only [go_sem, simprocAttr, h1, h2, h3, h6, h13]
    repeat' (refine And.intro (by first | rfl | omega | (simp; done)) ?_)
    exact hK1 _ (by simp only [go_sem, simprocAttr, h1, h2, h3, h6, h13]) (by simp only [go_sem, simprocAttr, h1, h2, h3, h6, h13]; exact rfl) (by simp only [go_sem, simprocAttr, h1, h2, h3, h6, h13])
  simp only [List.drop_succ_cons, List.drop_zero]
  try simp only [go_sem, simprocAttr, h1, h2, h3, h6, h13] at hL
  try clear h1 h2 h3 h6 h13
  obtain ⟨h1, h2, h3, h6⟩ := hL
  have h17 := hP
  clear hP
  try simp only [go_sem, simprocAttr, h1, h2, h3, h6, h17]
  repeat' (refine And.intro (by first | rfl | omega | (simp; done)) ?_)
  refine hK _ _ (.mk (awl_live' [1, 2, 3, 6, 17] fun ρ hL => ?_))
  try simp only [go_sem, simprocAttr, h1, h2, h3, h6, h17] at hL
  try clear h1 h2 h3 h6 h17
  obtain ⟨h1, h2, h3, h6, h17⟩ := hL
  clear hK K
  refine awl_cond h17 (fun c1 => ?_) (fun c1 => ?_)
  ·
    try simp only [cnd] at c1
    refine awl_seq ?_
    refine awl_regS [(some 18, (.build 42 #[]), none), (none, (.store 42 (.tmp 6) (.tmp 18)), none), (some 7, (.assign (.const (.bool false))), none)] rfl fun K hK => ?_
    try simp only [go_sem, simprocAttr, h1, h2, h3, h6, h17]
    repeat' (refine And.intro (by first | rfl | omega | (simp; done)) ?_)
    refine hK _ _ (.mk (awl_live' [6, 7] fun ρ hL => ?_))
    try simp only [go_sem, simprocAttr, h1, h2, h3, h6, h17] at hL
    try clear h1 h2 h3 h6 h17
    obtain ⟨h6, h7⟩ := hL
    clear hK K
    refine awl_ret ?_
    refine ret0 (by simp only [go_sem, simprocAttr, h6, h7]; exact rfl) ?_
    try simp only [go_sem, simprocAttr]
    all_goals (rw [value_no (by rintro ⟨a, b⟩; simp [a, b] at c1)] <;> rfl)
  ·
    try simp only [cnd] at c1
    refine awl_skip ?_
    refine awl_seq ?_
    have hv : inR r 0 7 = true ∧ corOk c = true := by simpa using c1
    refine awl_regS [(some 20, (.load 61 (.tmp 3)), none), (some 21, (.move (.tmp 1)), none), (some 22, (.move (.tmp 2)), none), (some 23, (.call ⟨(.value (.func 90)), #[(.tmp 20), (.tmp 21), (.tmp 22)], #[61, 3, 3]⟩), none), (some 19, (.move (.tmp 23)), none), (some 24, (.extract (.tmp 19) 0), none), (some 25, (.extract (.tmp 19) 1), none), (some 8, (.alloc 42), none), (none, (.store 42 (.tmp 8) (.tmp 24)), none), (some 9, (.assign (.tmp 25)), none)] rfl fun K hK => ?_
    try simp only [go_sem, simprocAttr, h1, h2, h3, h6, h17]
    repeat' (refine And.intro (by first | rfl | omega | (simp; done)) ?_)
    refine opS_call_ro rfl (sat_spec_l12Value c i r hf (corOk_reg hv.2 hv.1)) ?ha ?hv ?hh ?_
    case ha => simp only [go_sem, simprocAttr, h1, h2, h3, h6, h17]; first | done | rfl
    case hv => first | rfl | (simp only [go_sem]; done)
    case hh => first | rfl | (simp only [go_sem]; done)
    try simp only [go_sem, simprocAttr, h1, h2, h3, h6, h17]
    repeat' (refine And.intro (by first | rfl | omega | (simp; done)) ?_)
    refine hK _ _ (.mk (awl_live' [6, 8, 9] fun ρ hL => ?_))
    try simp only [go_sem, simprocAttr, h1, h2, h3, h6, h17] at hL
    try clear h1 h2 h3 h6 h17
    obtain ⟨h6, h8, h9⟩ := hL
    clear hK K
    refine awl_seq ?_
    refine awl_regS [(some 26, (.load 42 (.tmp 8)), none), (some 27, (.move (.tmp 9)), none), (none, (.store 42 (.tmp 6) (.tmp 26)), none), (some 7, (.assign (.tmp 27)), none)] rfl fun K hK => ?_
    try simp only [go_sem, simprocAttr, h6, h8, h9]
    repeat' (refine And.intro (by first | rfl | omega | (simp; done)) ?_)
    refine hK _ _ (.mk (awl_live' [6, 7] fun ρ hL => ?_))
    try simp only [go_sem, simprocAttr, h6, h8, h9] at hL
    try clear h6 h8 h9
    obtain ⟨h6, h7⟩ := hL
    clear hK K
    refine awl_ret ?_
    refine ret0 (by simp only [go_sem, simprocAttr, h6, h7]; exact rfl) ?_
    try simp only [go_sem, simprocAttr]
    all_goals (rw [value_ok hv.2 hv.1])
set_option maxHeartbeats 8000000 in
set_option maxRecDepth 100000 in
theorem sat_impl_Value (c : Cor) (i : Int) (r : Int) (hf : c.fit) : Sat Try.prog 44 [.agg c.cells, .int .i64 i, .int .i64 r] [] (.tuple [.agg (Word.cells (value c i r).1), .bool (value c i r).2]) [] := by
  refine sat_mk [.cell 6 42, .tmp 7] 0 47 Try.call44 Try.func44 Try.ntmps44 rfl rfl rfl rfl rfl ?_
  refine awl_live' [0, 1, 2] fun ρ hL => ?_
  try simp only [go_sem, simprocAttr] at hL
  obtain ⟨h0, h1, h2⟩ := hL
  refine awl_seq ?_
  refine awl_regS [(some 3, (.box 61 (.tmp 0)), none), (some 6, (.alloc 42), none), (some 7, (.assign (.const (.bool false))), none)] rfl fun K hK => ?_
  try simp only [go_sem, simprocAttr, h0, h1, h2]
  repeat' (refine And.intro (by first | rfl | omega | (simp; done)) ?_)
  refine hK _ _ (.mk (awl_live' [1, 2, 3, 6] fun ρ hL => ?_))
  try simp only [go_sem, simprocAttr, h0, h1, h2] at hL
  try clear h0 h1 h2
  obtain ⟨h1, h2, h3, h6⟩ := hL
  clear hK K
  refine awl_seq ?_
  refine awl_seq ?_
  refine awl_regS [(some 9, (.move (.tmp 2)), none), (some 10, (.call ⟨(.value (.func 91)), #[(.tmp 9), (.const (.int .i64 0)), (.const (.int .i64 7))], #[3, 3, 3]⟩), none), (some 11, (.unOp .not 4 (.tmp 10)), none), (some 12, (.move (.tmp 11)), none), (some 13, (.load 61 (.tmp 3)), some (12, false)), (some 14, (.call ⟨(.value (.func 39)), #[(.tmp 13)], #[61]⟩), some (12, false)), (some 15, (.unOp .not 4 (.tmp 14)), some (12, false)), (some 16, (.pick (.tmp 12) (.const (.bool true)) (.tmp 15)), none)] rfl fun K hK => ?_
  try simp only [go_sem, simprocAttr, h1, h2, h3, h6]
  repeat' (refine And.intro (by first | rfl | omega | (simp; done)) ?_)
  refine opS_call_ro rfl (sat_impl_in ?_ ?_ ?_) ?ha ?hv ?hh ?_
  case ha => simp only [go_sem, simprocAttr, h1, h2, h3, h6]; first | done | rfl
  case hv => first | rfl | (simp only [go_sem]; done)
  case hh => first | rfl | (simp only [go_sem]; done)
  try simp only [go_sem, simprocAttr, h1, h2, h3, h6]
  repeat' (refine And.intro (by first | rfl | omega | (simp; done)) ?_)
  refine awpS_live [1, 2, 3, 6, 12] fun ρ hL => ?_
  try simp only [go_sem, simprocAttr, h1, h2, h3, h6] at hL
  try clear h1 h2 h3 h6
  obtain ⟨h1, h2, h3, h6, h12⟩ := hL
  refine grp_orN (tc := 12) (tv := 15) (td := 16) (v := ?v1) 3 rfl [1, 2, 3, 6] h12 rfl (fun hb K1 hK1 => ?run) (fun hb => ?skip) (fun ρ hP hL => ?_)
  case skip =>
    exact awpS_skip (want := false) (b := _) (by rw [hb]; rfl) _ [] ρ h12 (fun _ _ => rfl) (by simp) rfl
  case run =>
    simp only [List.take_succ_cons, List.take_zero]
    rw [hb] at h12
    try simp only [go_sem, simprocAttr, h1, h2, h3, h6, h12]
    repeat' (refine And.intro (by first | rfl | omega | (simp; done)) ?_)
    refine opS_call_ro rfl (sat_impl_CoreOk ?_ ?hp0) ?ha ?hv ?hh ?_
    case ha => simp only [go_sem, simprocAttr, h1, h2, h3, h6, h12]; first | done | rfl
    case hp0 => first | assumption | omega | (simp; done)
    case hv => first | rfl | (simp only [go_sem]; done)
    case hh => first | rfl | (simp only [go_sem]; done)
    try simp only [go_sem, simprocAttr, h1, h2, h3, h6, h12]
    repeat' (refine And.intro (by first | rfl | omega | (simp; done)) ?_)
    exact hK1 _ (by simp only [go_sem, simprocAttr, h1, h2, h3, h6, h12]) (by simp only [go_sem, simprocAttr, h1, h2, h3, h6, h12]; exact rfl) (by simp only [go_sem, simprocAttr, h1, h2, h3, h6, h12])
  simp only [List.drop_succ_cons, List.drop_zero]
  try simp only [go_sem, simprocAttr, h1, h2, h3, h6, h12] at hL
  try clear h1 h2 h3 h6 h12
  obtain ⟨h1, h2, h3, h6⟩ := hL
  have h16 := hP
  clear hP
  try simp only [go_sem, simprocAttr, h1, h2, h3, h6, h16]
  repeat' (refine And.intro (by first | rfl | omega | (simp; done)) ?_)
  refine hK _ _ (.mk (awl_live' [1, 2, 3, 6, 16] fun ρ hL => ?_))
  try simp only [go_sem, simprocAttr, h1, h2, h3, h6, h16] at hL
  try clear h1 h2 h3 h6 h16
  obtain ⟨h1, h2, h3, h6, h16⟩ := hL
  clear hK K
  refine awl_cond h16 (fun c1 => ?_) (fun c1 => ?_)
  ·
    try simp only [cnd] at c1
    refine awl_seq ?_
    refine awl_regS [(some 17, (.build 42 #[]), none), (none, (.store 42 (.tmp 6) (.tmp 17)), none), (some 7, (.assign (.const (.bool false))), none)] rfl fun K hK => ?_
    try simp only [go_sem, simprocAttr, h1, h2, h3, h6, h16]
    repeat' (refine And.intro (by first | rfl | omega | (simp; done)) ?_)
    refine hK _ _ (.mk (awl_live' [6, 7] fun ρ hL => ?_))
    try simp only [go_sem, simprocAttr, h1, h2, h3, h6, h16] at hL
    try clear h1 h2 h3 h6 h16
    obtain ⟨h6, h7⟩ := hL
    clear hK K
    refine awl_ret ?_
    refine ret0 (by simp only [go_sem, simprocAttr, h6, h7]; exact rfl) ?_
    try simp only [go_sem, simprocAttr]
    all_goals (rw [value_no (by rintro ⟨a, b⟩; simp [a, b] at c1)] <;> rfl)
  ·
    try simp only [cnd] at c1
    refine awl_skip ?_
    refine awl_seq ?_
    have hv : inR r 0 7 = true ∧ corOk c = true := by simpa using c1
    have hr0 := corOk_reg hv.2 hv.1
    have hr2 : r.toNat < c.s.regs.length := by omega
    refine awl_regS [(some 18, (.load 61 (.tmp 3)), none), (some 19, (.move (.tmp 1)), none), (some 20, (.move (.tmp 2)), none), (some 21, (.call ⟨(.value (.func 32)), #[(.tmp 18), (.tmp 19), (.tmp 20)], #[61, 3, 3]⟩), none), (some 8, (.assign (.tmp 21)), none)] rfl fun K hK => ?_
    try simp only [go_sem, simprocAttr, h1, h2, h3, h6, h16]
    repeat' (refine And.intro (by first | rfl | omega | (simp; done)) ?_)
    refine opS_call_ro rfl (sat_impl_Source c i r hf) ?ha ?hv ?hh ?_
    case ha => simp only [go_sem, simprocAttr, h1, h2, h3, h6, h16]; first | done | rfl
    case hv => first | rfl | (simp only [go_sem]; done)
    case hh => first | rfl | (simp only [go_sem]; done)
    try simp only [go_sem, simprocAttr, h1, h2, h3, h6, h16]
    repeat' (refine And.intro (by first | rfl | omega | (simp; done)) ?_)
    refine hK _ _ (.mk (awl_live' [2, 3, 6, 8] fun ρ hL => ?_))
    try simp only [go_sem, simprocAttr, h1, h2, h3, h6, h16] at hL
    try clear h1 h2 h3 h6 h16
    obtain ⟨h2, h3, h6, h8⟩ := hL
    clear hK K
    refine awl_seq ?_
    refine awl_block fun R1 hw1 hR1 => ?_
    refine awl_seq ?_
    refine awl_regS [(some 23, (.move (.tmp 8)), none), (some 24, (.binOp .lss 3 (.tmp 23) (.const (.int .i64 0)) 3), none), (some 22, (.assign (.tmp 24)), none)] rfl fun K hK => ?_
    try simp only [go_sem, simprocAttr, h2, h3, h6, h8]
    repeat' (refine And.intro (by first | rfl | omega | (simp; done)) ?_)
    refine hK _ _ (.mk (awl_live' [2, 3, 6, 8, 22] fun ρ hL => ?_))
    try simp only [go_sem, simprocAttr, h2, h3, h6, h8] at hL
    try clear h2 h3 h6 h8
    obtain ⟨h2, h3, h6, h8, h22⟩ := hL
    clear hK K
    refine awl_cond h22 (fun c2 => ?_) (fun c2 => ?_)
    ·
      try simp only [cnd] at c2
      refine awl_seq ?_
      refine awl_regS [(some 25, (.fieldAddr 61 (.tmp 3) 0), none), (some 26, (.fieldAddr 46 (.tmp 25) 0), none), (some 27, (.load 38 (.tmp 26)), none), (some 28, (.move (.tmp 2)), none), (some 29, (.indexAddr 38 (.tmp 27) (.tmp 28)), none), (some 30, (.load 42 (.tmp 29)), none), (none, (.store 42 (.tmp 6) (.tmp 30)), none), (some 7, (.assign (.const (.bool true))), none)] rfl fun K hK => ?_
      try simp only [go_sem, simprocAttr, h2, h3, h6, h8, h22, hr2]
      repeat' (refine And.intro (by first | rfl | omega | (simp; done)) ?_)
      refine hK _ _ (.mk (awl_live' [6, 7] fun ρ hL => ?_))
      try simp only [go_sem, simprocAttr, h2, h3, h6, h8, h22, hr2] at hL
      try clear h2 h3 h6 h8 h22
      obtain ⟨h6, h7⟩ := hL
      clear hK K
      refine awl_ret ?_
      refine blk_ret ?_
      refine ret0 (by simp only [go_sem, simprocAttr, h6, h7]; exact rfl) ?_
      try simp only [go_sem, simprocAttr]
      all_goals try clear hR1
      all_goals (rw [value_ok hv.2 hv.1, raw_reg c2] <;> rfl)
    ·
      try simp only [cnd] at c2
      refine awl_seq ?_
      obtain ⟨m, hm, hm2⟩ := source_nat c2
      rw [hm] at h8
      refine awl_regS [(some 32, (.fieldAddr 61 (.tmp 3) 1), none), (some 33, (.load 59 (.tmp 32)), none), (some 34, (.move (.tmp 8)), none), (some 35, (.indexAddr 59 (.tmp 33) (.tmp 34)), none), (some 36, (.fieldAddr 96 (.tmp 35) 2), none), (some 37, (.load 4 (.tmp 36)), none), (some 38, (.unOp .not 4 (.tmp 37)), none), (some 31, (.assign (.tmp 38)), none)] rfl fun K hK => ?_
      try simp only [go_sem, simprocAttr, h2, h3, h6, h8, h22, hm2]
      repeat' (refine And.intro (by first | rfl | omega | (simp; done)) ?_)
      refine hK _ _ (.mk (awl_live' [3, 6, 8, 31] fun ρ hL => ?_))
      try simp only [go_sem, simprocAttr, h2, h3, h6, h8, h22, hm2] at hL
      try clear h2 h3 h6 h8 h22
      obtain ⟨h3, h6, h8, h31⟩ := hL
      clear hK K
      refine awl_cond h31 (fun c3 => ?_) (fun c3 => ?_)
      ·
        try simp only [cnd] at c3
        refine awl_seq ?_
        refine awl_regS [(some 39, (.build 42 #[]), none), (none, (.store 42 (.tmp 6) (.tmp 39)), none), (some 7, (.assign (.const (.bool false))), none)] rfl fun K hK => ?_
        try simp only [go_sem, simprocAttr, h3, h6, h8, h31]
        repeat' (refine And.intro (by first | rfl | omega | (simp; done)) ?_)
        refine hK _ _ (.mk (awl_live' [6, 7] fun ρ hL => ?_))
        try simp only [go_sem, simprocAttr, h3, h6, h8, h31] at hL
        try clear h3 h6 h8 h31
        obtain ⟨h6, h7⟩ := hL
        clear hK K
        refine awl_ret ?_
        refine blk_ret ?_
        refine ret0 (by simp only [go_sem, simprocAttr, h6, h7]; exact rfl) ?_
        try simp only [go_sem, simprocAttr]
        all_goals try clear hR1
        all_goals (rw [value_ok hv.2 hv.1, raw_wait hm (by simpa using c3)] <;> rfl)
      ·
        try simp only [cnd] at c3
        refine awl_skip ?_
        refine awl_nil ?_
        refine blk_normal (hR1 _ _ (.mk ?_))
        refine awl_seq ?_
        refine awl_regS [(some 40, (.fieldAddr 61 (.tmp 3) 1), none), (some 41, (.load 59 (.tmp 40)), none), (some 42, (.move (.tmp 8)), none), (some 43, (.indexAddr 59 (.tmp 41) (.tmp 42)), none), (some 44, (.fieldAddr 96 (.tmp 43) 3), none), (some 45, (.fieldAddr 92 (.tmp 44) 2), none), (some 46, (.load 42 (.tmp 45)), none), (none, (.store 42 (.tmp 6) (.tmp 46)), none), (some 7, (.assign (.const (.bool true))), none)] rfl fun K hK => ?_
        try simp only [go_sem, simprocAttr, h3, h6, h8, h31, hm2]
        repeat' (refine And.intro (by first | rfl | omega | (simp; done)) ?_)
        refine hK _ _ (.mk (awl_live' [6, 7] fun ρ hL => ?_))
        try simp only [go_sem, simprocAttr, h3, h6, h8, h31, hm2] at hL
        try clear h3 h6 h8 h31
        obtain ⟨h6, h7⟩ := hL
        clear hK K
        refine awl_ret ?_
        refine ret0 (by simp only [go_sem, simprocAttr, h6, h7]; exact rfl) ?_
        try simp only [go_sem, simprocAttr]
        all_goals try clear hR1
        all_goals (rw [value_ok hv.2 hv.1, raw_done hm (by simpa using c3)] <;> rfl)
end Go.Proofs.Ytgddflnhibhacaa.AM
