/- What a core holds. No conditions but those each theorem bears. -/
import Derived.Test.YtgddflnhibhacaaFa
import Derived.Test.YtgddflnhibhacaaSp9
import Derived.Test.YtgddflnhibhacaaCa18
set_option linter.unusedSimpArgs false
set_option linter.unusedVariables false
namespace Go.Proofs.Ytgddflnhibhacaa.AM
open Go

set_option maxHeartbeats 8000000 in
set_option maxRecDepth 100000 in
theorem sat_impl_Held (c : Cor) (hf : c.fit) : Sat Try.prog 41 [.agg c.cells] [] (.slice 0 0 (held c).length 0) [⟨6, rows (held c), true, false⟩] := by
  refine sat_mk [.tmp 2] 0 40 Try.call41 Try.func41 Try.ntmps41 rfl rfl rfl rfl rfl ?_
  refine awl_live' [0] fun ρ hL => ?_
  try simp only [go_sem, simprocAttr] at hL
  have h0 := hL
  clear hL
  refine awl_seq ?_
  have hf1 := hf.2.1
  refine awl_regS [(some 1, (.box 61 (.tmp 0)), none), (some 2, (.assign (.const (.slice none 0 0))), none)] rfl fun K hK => ?_
  try simp only [go_sem, simprocAttr, h0]
  repeat' (refine And.intro (by first | rfl | omega | (simp; done)) ?_)
  refine hK _ _ (.mk (awl_live' [1] fun ρ hL => ?_))
  try simp only [go_sem, simprocAttr, h0] at hL
  try clear h0
  have h1 := hL
  clear hL
  clear hK K
  refine awl_seq ?_
  refine awl_regS [(some 6, (.fieldAddr 61 (.tmp 1) 0), none), (some 7, (.load 46 (.tmp 6)), none), (some 8, (.call ⟨(.value (.func 21)), #[(.tmp 7)], #[46]⟩), none), (some 3, (.assign (.tmp 8)), none)] rfl fun K hK => ?_
  try simp only [go_sem, simprocAttr, h1]
  repeat' (refine And.intro (by first | rfl | omega | (simp; done)) ?_)
  refine opS_call_ro rfl (sat_impl_Keys c.s hf.1) ?ha ?hv ?hh ?_
  case ha => simp only [go_sem, simprocAttr, h1]; first | done | rfl
  case hv => first | rfl | (simp only [go_sem]; done)
  case hh => first | rfl | (simp only [go_sem]; done)
  try simp only [go_sem, simprocAttr, h1]
  repeat' (refine And.intro (by first | rfl | omega | (simp; done)) ?_)
  refine hK _ _ (.mk (awl_live' [1, 3] fun ρ hL => ?_))
  try simp only [go_sem, simprocAttr, h1] at hL
  try clear h1
  obtain ⟨h1, h3⟩ := hL
  clear hK K
  refine awl_seq ?_
  refine awl_seq ?_
  refine awl_regS [(some 9, (.fieldAddr 61 (.tmp 1) 1), none), (some 10, (.load 59 (.tmp 9)), none), (some 11, (.call ⟨(.builtin .len), #[(.tmp 10)], #[59]⟩), none), (some 12, (.move (.const (.int .i64 0))), none)] rfl fun K hK => ?_
  try simp only [go_sem, simprocAttr, h1, h3]
  repeat' (refine And.intro (by first | rfl | omega | (simp; done)) ?_)
  refine hK _ _ (.mk (awl_live' [1, 3, 10, 11, 12] fun ρ hL => ?_))
  try simp only [go_sem, simprocAttr, h1, h3] at hL
  try clear h1 h3
  obtain ⟨h1, h3, h10, h11, h12⟩ := hL
  clear hK K
  have e1_1 := h1
  have e1_10 := h10
  have e1_11 := h11
  refine awl_loopH (fun H0 n σ G => ∃ (i : Nat), n = c.rob.length - i ∧ (i ≤ c.rob.length) ∧ liveE [1, 10, 11] σ ρ ∧ σ 3 = .slice 1 0 (heldUp c i).length 0 ∧ σ 12 = .int .i64 (i : Int) ∧ G = [⟨19, c.cells, true, false⟩, ⟨6, rows (heldUp c i), true, false⟩]) (fun H0 σ G => liveE [1] σ ρ ∧ σ 3 = .slice 1 0 (heldUp c c.rob.length).length 0 ∧ G = [⟨19, c.cells, true, false⟩, ⟨6, rows (heldUp c c.rob.length), true, false⟩]) ((fun (i : Nat) => c.rob.length - i) 0) ?init1 (fun n ρ G hI => ?round1) (fun ρ G hJ => ?after1)
  case init1 => exact ⟨0, rfl, (Nat.zero_le _), liveE_refl _ _, (by rw [heldUp_zero]; exact h3), (h12), by rw [heldUp_zero]; rfl⟩
  case round1 =>
    obtain ⟨i, hn, i1_0, hL, k3, k12, hG⟩ := hI
    subst hG
    try simp only [go_sem, simprocAttr, h1, h3, h10, h11, h12] at hL
    clear h1 h3 h10 h11 h12
    obtain ⟨h1, h10, h11⟩ := hL
    have h3 := k3
    clear k3
    have h12 := k12
    clear k12
    refine awl_seq ?_
    refine awl_regS [(some 13, (.binOp .lss 3 (.tmp 12) (.tmp 11) 3), none)] rfl fun K hK => ?_
    try simp only [go_sem, simprocAttr, h1, h3, h10, h11, h12]
    repeat' (refine And.intro (by first | rfl | omega | (simp; done)) ?_)
    refine hK _ _ (.mk (awl_live' [1, 3, 10, 11, 12, 13] fun ρ hL => ?_))
    try simp only [go_sem, simprocAttr, h1, h3, h10, h11, h12] at hL
    try clear h1 h3 h10 h11 h12
    obtain ⟨h1, h3, h10, h11, h12, h13⟩ := hL
    clear hK K
    refine awl_seq ?_
    refine awl_cond h13 (fun c1 => ?_) (fun c1 => ?_)
    ·
      try simp only [cnd] at c1
      have hi1 : i < c.rob.length := by omega
      refine awl_skip ?_
      refine awl_seq ?_
      refine awl_block fun R1 hw1 hR1 => ?_
      refine awl_seq ?_
      refine awl_regS [(some 14, (.indexAddr 59 (.tmp 10) (.tmp 12)), none), (some 15, (.load 96 (.tmp 14)), none), (some 5, (.alloc 96), none), (none, (.store 96 (.tmp 5) (.tmp 15)), none)] rfl fun K hK => ?_
      try simp only [go_sem, simprocAttr, h1, h3, h10, h11, h12, h13, hi1]
      repeat' (refine And.intro (by first | rfl | omega | (simp; done)) ?_)
      refine hK _ _ (.mk (awl_live' [1, 3, 5, 10, 11, 12] fun ρ hL => ?_))
      try simp only [go_sem, simprocAttr, h1, h3, h10, h11, h12, h13, hi1] at hL
      try clear h1 h3 h10 h11 h12 h13
      obtain ⟨h1, h3, h5, h10, h11, h12⟩ := hL
      clear hK K
      have hq1 := heldUp_len hf (i := i) (by omega)
      have hq2 : (keysOf (five (c.rob.getD i noEnt))).length ≤ 5 := keysOf_len
      refine awl_regS [(some 16, (.move (.tmp 3)), none), (some 17, (.fieldAddr 96 (.tmp 5) 0), none), (some 18, (.load 42 (.tmp 17)), none), (some 19, (.fieldAddr 96 (.tmp 5) 4), none), (some 20, (.load 42 (.tmp 19)), none), (some 21, (.fieldAddr 96 (.tmp 5) 3), none), (some 22, (.fieldAddr 92 (.tmp 21) 2), none), (some 23, (.load 42 (.tmp 22)), none), (some 24, (.fieldAddr 96 (.tmp 5) 3), none), (some 25, (.fieldAddr 92 (.tmp 24) 3), none), (some 26, (.load 42 (.tmp 25)), none), (some 27, (.fieldAddr 96 (.tmp 5) 3), none), (some 28, (.fieldAddr 92 (.tmp 27) 5), none), (some 29, (.load 42 (.tmp 28)), none), (some 30, (.buildSlice 38 5 #[(0, (.tmp 18)), (1, (.tmp 20)), (2, (.tmp 23)), (3, (.tmp 26)), (4, (.tmp 29))]), none), (some 31, (.call ⟨(.value (.func 55)), #[(.tmp 30)], #[38]⟩), none), (some 32, (.call ⟨(.builtin .append), #[(.tmp 16), (.tmp 31)], #[38, 38]⟩), none), (some 3, (.assign (.tmp 32)), none)] rfl fun K hK => ?_
      try simp only [go_sem, simprocAttr, h1, h3, h5, h10, h11, h12, hi1]
      repeat' (refine And.intro (by first | rfl | omega | (simp; done)) ?_)
      refine opS_call_ro rfl (sat_impl_keysOf (five (c.rob.getD i noEnt)) (by rw [five_len]; omega)) ?ha ?hv ?hh ?_
      case ha => simp only [go_sem, simprocAttr, h1, h3, h5, h10, h11, h12, hi1]; first | done | rfl
      case hv => first | rfl | (simp only [go_sem]; done)
      case hh => first | rfl | (simp only [go_sem]; done)
      try simp only [go_sem, simprocAttr, h1, h3, h5, h10, h11, h12, hi1]
      repeat' (refine And.intro (by first | rfl | omega | (simp; done)) ?_)
      refine hK _ _ (.mk (awl_live' [1, 3, 10, 11, 12] fun ρ hL => ?_))
      try simp only [go_sem, simprocAttr, h1, h3, h5, h10, h11, h12, hi1] at hL
      try clear h1 h3 h5 h10 h11 h12
      obtain ⟨h1, h3, h10, h11, h12⟩ := hL
      clear hK K
      refine awl_nil ?_
      refine blk_normal (hR1 _ _ (.mk ?_))
      have w1 : IntKind.i64.wrap ((i : Int) + 1) = ((i + 1 : Nat) : Int) := by rw [wrap64 (by omega)]; omega
      refine awl_regS [(some 33, (.binOp .add 3 (.tmp 12) (.const (.int .i64 1)) 3), none), (some 12, (.move (.tmp 33)), none)] rfl fun K hK => ?_
      try simp only [go_sem, simprocAttr, h1, h3, h10, h11, h12, hi1, w1]
      repeat' (refine And.intro (by first | rfl | omega | (simp; done)) ?_)
      refine hK _ _ (.mk (awl_live' [1, 3, 10, 11, 12] fun ρ hL => ?_))
      try simp only [go_sem, simprocAttr, h1, h3, h10, h11, h12, hi1, w1] at hL
      try clear h1 h3 h10 h11 h12
      obtain ⟨h1, h3, h10, h11, h12⟩ := hL
      clear hK K
      refine awl_nil ?_
      refine loop_againW (Wk.keep [0, 5] rfl) _ ?meas ⟨i + 1, rfl, (by omega), (by simp only [go_sem, simprocAttr, h1, h3, h10, h11, h12, hi1, e1_1, e1_10, e1_11]), (by simp only [go_sem, simprocAttr, h1, h3, h10, h11, h12, hi1, e1_1, e1_10, e1_11]; rw [heldUp_succ hi1, List.length_append]), (by simp only [go_sem, simprocAttr, h1, h3, h10, h11, h12, hi1, e1_1, e1_10, e1_11]; first | done | rfl), (by simp only [go_sem, simprocAttr, h1, h3, h10, h11, h12, hi1, e1_1, e1_10, e1_11]; rw [heldUp_succ hi1, rows_append])⟩
      case meas => subst hn; omega
    ·
      try simp only [cnd] at c1
      refine awl_exit ?_
      refine loop_break ?_
      exact ⟨(by simp only [go_sem, simprocAttr, h1, h3, h10, h11, h12, h13, e1_1, e1_10, e1_11]), (by rw [h3, show i = c.rob.length by omega]), by rw [show i = c.rob.length by omega]; rfl⟩
  case after1 =>
    obtain ⟨hL, k3, hG⟩ := hJ
    subst hG
    try simp only [go_sem, simprocAttr, h1, h3, h10, h11, h12] at hL
    clear h1 h3 h10 h11 h12
    have h1 := hL
    clear hL
    have h3 := k3
    clear k3
    refine awl_seq ?_
    have hq1 := heldUp_len hf (Nat.le_refl _)
    have hq2 : (keysOf [c.next]).length ≤ 1 := keysOf_len
    refine awl_regS [(some 34, (.move (.tmp 3)), none), (some 35, (.fieldAddr 61 (.tmp 1) 2), none), (some 36, (.load 42 (.tmp 35)), none), (some 37, (.buildSlice 38 1 #[(0, (.tmp 36))]), none), (some 38, (.call ⟨(.value (.func 55)), #[(.tmp 37)], #[38]⟩), none), (some 39, (.call ⟨(.builtin .append), #[(.tmp 34), (.tmp 38)], #[38, 38]⟩), none), (some 2, (.assign (.tmp 39)), none)] rfl fun K hK => ?_
    try simp only [go_sem, simprocAttr, h1, h3]
    repeat' (refine And.intro (by first | rfl | omega | (simp; done)) ?_)
    refine opS_call_ro rfl (sat_impl_keysOf [c.next] (by simp)) ?ha ?hv ?hh ?_
    case ha => simp only [go_sem, simprocAttr, h1, h3]; first | done | rfl
    case hv => first | rfl | (simp only [go_sem]; done)
    case hh => first | rfl | (simp only [go_sem]; done)
    try simp only [go_sem, simprocAttr, h1, h3]
    repeat' (refine And.intro (by first | rfl | omega | (simp; done)) ?_)
    refine hK _ _ (.mk (awl_live' [2] fun ρ hL => ?_))
    try simp only [go_sem, simprocAttr, h1, h3] at hL
    try clear h1 h3
    have h2 := hL
    clear hL
    clear hK K
    refine awl_ret ?_
    refine retK [4] [4] rfl (by simp only [go_sem, simprocAttr, h2]; exact rfl) (by decide) (by first | rfl | (simp only [go_sem, simprocAttr, h2]; first | done | rfl)) (by first | rfl | (simp only [go_sem, simprocAttr, h2]; first | done | rfl)) ?_ ?_
    all_goals try simp only [go_sem, simprocAttr, h2]
    all_goals try clear hR1
    all_goals (rw [held_eq] <;> simp only [List.length_append, rows_append])
set_option maxHeartbeats 8000000 in
set_option maxRecDepth 100000 in
theorem sat_spec_Held (c : Cor) (hf : c.fit) : Sat Try.prog 40 [.agg c.cells] [] (.slice 0 0 (held c).length 0) [⟨6, rows (held c), true, false⟩] := by
  refine sat_mk [.tmp 2] 0 64 Try.call40 Try.func40 Try.ntmps40 rfl rfl rfl rfl rfl ?_
  refine awl_live' [0] fun ρ hL => ?_
  try simp only [go_sem, simprocAttr] at hL
  have h0 := hL
  clear hL
  refine awl_seq ?_
  have hf1 := hf.2.1
  refine awl_regS [(some 1, (.box 61 (.tmp 0)), none), (some 2, (.assign (.const (.slice none 0 0))), none)] rfl fun K hK => ?_
  try simp only [go_sem, simprocAttr, h0]
  repeat' (refine And.intro (by first | rfl | omega | (simp; done)) ?_)
  refine hK _ _ (.mk (awl_live' [1] fun ρ hL => ?_))
  try simp only [go_sem, simprocAttr, h0] at hL
  try clear h0
  have h1 := hL
  clear hL
  clear hK K
  refine awl_seq ?_
  refine awl_regS [(some 8, (.fieldAddr 61 (.tmp 1) 0), none), (some 9, (.load 46 (.tmp 8)), none), (some 10, (.call ⟨(.value (.func 19)), #[(.tmp 9)], #[46]⟩), none), (some 3, (.assign (.tmp 10)), none)] rfl fun K hK => ?_
  try simp only [go_sem, simprocAttr, h1]
  repeat' (refine And.intro (by first | rfl | omega | (simp; done)) ?_)
  refine opS_call_ro rfl (sat_spec_Keys c.s hf.1) ?ha ?hv ?hh ?_
  case ha => simp only [go_sem, simprocAttr, h1]; first | done | rfl
  case hv => first | rfl | (simp only [go_sem]; done)
  case hh => first | rfl | (simp only [go_sem]; done)
  try simp only [go_sem, simprocAttr, h1]
  repeat' (refine And.intro (by first | rfl | omega | (simp; done)) ?_)
  refine hK _ _ (.mk (awl_live' [1, 3] fun ρ hL => ?_))
  try simp only [go_sem, simprocAttr, h1] at hL
  try clear h1
  obtain ⟨h1, h3⟩ := hL
  clear hK K
  refine awl_seq ?_
  refine awl_seq ?_
  refine awl_regS [(some 4, (.assign (.const (.int .i64 0))), none)] rfl fun K hK => ?_
  try simp only [go_sem, simprocAttr, h1, h3]
  repeat' (refine And.intro (by first | rfl | omega | (simp; done)) ?_)
  refine hK _ _ (.mk (awl_live' [1, 3, 4] fun ρ hL => ?_))
  try simp only [go_sem, simprocAttr, h1, h3] at hL
  try clear h1 h3
  obtain ⟨h1, h3, h4⟩ := hL
  clear hK K
  have e1_1 := h1
  refine awl_loopH (fun H0 n σ G => ∃ (i : Nat), n = c.rob.length - i ∧ (i ≤ c.rob.length) ∧ liveE [1] σ ρ ∧ σ 3 = .slice 1 0 (heldUp c i).length 0 ∧ σ 4 = .int .i64 (i : Int) ∧ G = [⟨19, c.cells, true, false⟩, ⟨6, rows (heldUp c i), true, false⟩]) (fun H0 σ G => liveE [1] σ ρ ∧ σ 3 = .slice 1 0 (heldUp c c.rob.length).length 0 ∧ G = [⟨19, c.cells, true, false⟩, ⟨6, rows (heldUp c c.rob.length), true, false⟩]) ((fun (i : Nat) => c.rob.length - i) 0) ?init1 (fun n ρ G hI => ?round1) (fun ρ G hJ => ?after1)
  case init1 => exact ⟨0, rfl, (Nat.zero_le _), liveE_refl _ _, (by rw [heldUp_zero]; exact h3), (h4), by rw [heldUp_zero]; rfl⟩
  case round1 =>
    obtain ⟨i, hn, i1_0, hL, k3, k4, hG⟩ := hI
    subst hG
    try simp only [go_sem, simprocAttr, h1, h3, h4] at hL
    clear h1 h3 h4
    have h1 := hL
    clear hL
    have h3 := k3
    clear k3
    have h4 := k4
    clear k4
    refine awl_seq ?_
    refine awl_seq ?_
    refine awl_regS [(some 11, (.move (.tmp 4)), none), (some 12, (.fieldAddr 61 (.tmp 1) 1), none), (some 13, (.load 59 (.tmp 12)), none), (some 14, (.call ⟨(.builtin .len), #[(.tmp 13)], #[59]⟩), none), (some 15, (.binOp .lss 3 (.tmp 11) (.tmp 14) 3), none)] rfl fun K hK => ?_
    try simp only [go_sem, simprocAttr, h1, h3, h4]
    repeat' (refine And.intro (by first | rfl | omega | (simp; done)) ?_)
    refine hK _ _ (.mk (awl_live' [1, 3, 4, 15] fun ρ hL => ?_))
    try simp only [go_sem, simprocAttr, h1, h3, h4] at hL
    try clear h1 h3 h4
    obtain ⟨h1, h3, h4, h15⟩ := hL
    clear hK K
    refine awl_cond h15 (fun c1 => ?_) (fun c1 => ?_)
    ·
      try simp only [cnd] at c1
      have hi1 : i < c.rob.length := by omega
      refine awl_skip ?_
      refine awl_seq ?_
      refine awl_block fun R1 hw1 hR1 => ?_
      refine awl_seq ?_
      refine awl_regS [(some 18, (.fieldAddr 61 (.tmp 1) 1), none), (some 19, (.load 59 (.tmp 18)), none), (some 20, (.move (.tmp 4)), none), (some 21, (.indexAddr 59 (.tmp 19) (.tmp 20)), none), (some 22, (.load 96 (.tmp 21)), none), (some 5, (.alloc 96), none), (none, (.store 96 (.tmp 5) (.tmp 22)), none)] rfl fun K hK => ?_
      try simp only [go_sem, simprocAttr, h1, h3, h4, h15, hi1]
      repeat' (refine And.intro (by first | rfl | omega | (simp; done)) ?_)
      refine hK _ _ (.mk (awl_live' [1, 3, 4, 5] fun ρ hL => ?_))
      try simp only [go_sem, simprocAttr, h1, h3, h4, h15, hi1] at hL
      try clear h1 h3 h4 h15
      obtain ⟨h1, h3, h4, h5⟩ := hL
      clear hK K
      refine awl_seq ?_
      refine awl_regS [(some 23, (.fieldAddr 96 (.tmp 5) 0), none), (some 24, (.load 42 (.tmp 23)), none), (some 25, (.fieldAddr 96 (.tmp 5) 4), none), (some 26, (.load 42 (.tmp 25)), none), (some 27, (.fieldAddr 96 (.tmp 5) 3), none), (some 28, (.fieldAddr 92 (.tmp 27) 2), none), (some 29, (.load 42 (.tmp 28)), none), (some 30, (.fieldAddr 96 (.tmp 5) 3), none), (some 31, (.fieldAddr 92 (.tmp 30) 3), none), (some 32, (.load 42 (.tmp 31)), none), (some 33, (.fieldAddr 96 (.tmp 5) 3), none), (some 34, (.fieldAddr 92 (.tmp 33) 5), none), (some 35, (.load 42 (.tmp 34)), none), (some 36, (.buildSlice 38 5 #[(0, (.tmp 24)), (1, (.tmp 26)), (2, (.tmp 29)), (3, (.tmp 32)), (4, (.tmp 35))]), none), (some 6, (.assign (.tmp 36)), none)] rfl fun K hK => ?_
      try simp only [go_sem, simprocAttr, h1, h3, h4, h5, hi1]
      repeat' (refine And.intro (by first | rfl | omega | (simp; done)) ?_)
      refine hK _ _ (.mk (awl_live' [1, 3, 4, 6] fun ρ hL => ?_))
      try simp only [go_sem, simprocAttr, h1, h3, h4, h5, hi1] at hL
      try clear h1 h3 h4 h5
      obtain ⟨h1, h3, h4, h6⟩ := hL
      clear hK K
      refine awl_seq ?_
      refine awl_regS [(some 7, (.assign (.const (.int .i64 0))), none)] rfl fun K hK => ?_
      try simp only [go_sem, simprocAttr, h1, h3, h4, h6, hi1]
      repeat' (refine And.intro (by first | rfl | omega | (simp; done)) ?_)
      refine hK _ _ (.mk (awl_live' [1, 3, 4, 6, 7] fun ρ hL => ?_))
      try simp only [go_sem, simprocAttr, h1, h3, h4, h6, hi1] at hL
      try clear h1 h3 h4 h6
      obtain ⟨h1, h3, h4, h6, h7⟩ := hL
      clear hK K
      have e2_1 := h1
      have e2_4 := h4
      have e2_6 := h6
      refine awl_loopH (fun H0 n σ G => ∃ (k : Nat), n = 5 - k ∧ (k ≤ 5) ∧ liveE [1, 4, 6] σ ρ ∧ σ 3 = .slice 1 0 (heldUp c i ++ keysOf ((five (c.rob.getD i noEnt)).take k)).length 0 ∧ σ 7 = .int .i64 (k : Int) ∧ G = [⟨19, c.cells, true, false⟩, ⟨6, rows (heldUp c i ++ keysOf ((five (c.rob.getD i noEnt)).take k)), true, false⟩, ⟨40, Ent.cells (c.rob.getD i noEnt), true, false⟩, ⟨6, rows (five (c.rob.getD i noEnt)), true, false⟩]) (fun H0 σ G => liveE [1, 4] σ ρ ∧ σ 3 = .slice 1 0 (heldUp c i ++ keysOf (five (c.rob.getD i noEnt))).length 0 ∧ G = [⟨19, c.cells, true, false⟩, ⟨6, rows (heldUp c i ++ keysOf (five (c.rob.getD i noEnt))), true, false⟩, ⟨40, Ent.cells (c.rob.getD i noEnt), true, false⟩, ⟨6, rows (five (c.rob.getD i noEnt)), true, false⟩]) ((fun (k : Nat) => 5 - k) 0) ?init2 (fun n ρ G hI => ?round2) (fun ρ G hJ => ?after2)
      case init2 => exact ⟨0, rfl, (Nat.zero_le _), liveE_refl _ _, (by rw [List.take_zero, show keysOf [] = [] from rfl, List.append_nil]; exact h3), (h7), by rw [List.take_zero, show keysOf [] = [] from rfl, List.append_nil]; rfl⟩
      case round2 =>
        obtain ⟨k, hn, i2_0, hL, k3, k7, hG⟩ := hI
        subst hG
        try simp only [go_sem, simprocAttr, h1, h3, h4, h6, h7, hi1] at hL
        clear h1 h3 h4 h6 h7
        obtain ⟨h1, h4, h6⟩ := hL
        have h3 := k3
        clear k3
        have h7 := k7
        clear k7
        refine awl_seq ?_
        refine awl_seq ?_
        refine awl_regS [(some 37, (.move (.tmp 7)), none), (some 38, (.move (.tmp 6)), none), (some 39, (.call ⟨(.builtin .len), #[(.tmp 38)], #[38]⟩), none), (some 40, (.binOp .lss 3 (.tmp 37) (.tmp 39) 3), none)] rfl fun K hK => ?_
        try simp only [go_sem, simprocAttr, h1, h3, h4, h6, h7, hi1]
        repeat' (refine And.intro (by first | rfl | omega | (simp; done)) ?_)
        refine hK _ _ (.mk (awl_live' [1, 3, 4, 6, 7, 40] fun ρ hL => ?_))
        try simp only [go_sem, simprocAttr, h1, h3, h4, h6, h7, hi1] at hL
        try clear h1 h3 h4 h6 h7
        obtain ⟨h1, h3, h4, h6, h7, h40⟩ := hL
        clear hK K
        refine awl_cond h40 (fun c2 => ?_) (fun c2 => ?_)
        ·
          try simp only [cnd] at c2
          have hi2 : k < 5 := by omega
          refine awl_skip ?_
          refine awl_seq ?_
          refine awl_block fun R2 hw2 hR2 => ?_
          refine awl_seq ?_
          have hk5 : k < (five (c.rob.getD i noEnt)).length := hi2
          refine awl_regS [(some 43, (.move (.tmp 6)), none), (some 44, (.move (.tmp 7)), none), (some 45, (.indexAddr 38 (.tmp 43) (.tmp 44)), none), (some 46, (.fieldAddr 42 (.tmp 45) 1), none), (some 47, (.load 4 (.tmp 46)), none)] rfl fun K hK => ?_
          try simp only [go_sem, simprocAttr, h1, h3, h4, h6, h7, h40, hi1, hi2, words_atO hk5]
          repeat' (refine And.intro (by first | rfl | omega | (simp; done)) ?_)
          refine hK _ _ (.mk (awl_live' [1, 3, 4, 6, 7, 47] fun ρ hL => ?_))
          try simp only [go_sem, simprocAttr, h1, h3, h4, h6, h7, h40, hi1, hi2, words_atO hk5] at hL
          try clear h1 h3 h4 h6 h7 h40
          obtain ⟨h1, h3, h4, h6, h7, h47⟩ := hL
          clear hK K
          refine awl_cond h47 (fun c3 => ?_) (fun c3 => ?_)
          ·
            try simp only [cnd] at c3
            have hq1 := heldUp_len hf (i := i) (by omega)
            have hq2 : (keysOf ((five (c.rob.getD i noEnt)).take k)).length ≤ 5 := Nat.le_trans keysOf_len (by rw [List.length_take, five_len]; omega)
            have hq3 : (heldUp c i ++ keysOf ((five (c.rob.getD i noEnt)).take k)).length ≤ 16777216 := by rw [List.length_append]; omega
            refine awl_regS [(some 48, (.move (.tmp 3)), none), (some 49, (.move (.tmp 6)), none), (some 50, (.move (.tmp 7)), none), (some 51, (.indexAddr 38 (.tmp 49) (.tmp 50)), none), (some 52, (.load 42 (.tmp 51)), none), (some 53, (.buildSlice 38 1 #[(0, (.tmp 52))]), none), (some 54, (.call ⟨(.builtin .append), #[(.tmp 48), (.tmp 53)], #[38, 38]⟩), none), (some 3, (.assign (.tmp 54)), none)] rfl fun K hK => ?_
            try simp only [go_sem, simprocAttr, h1, h3, h4, h6, h7, h47, hi1, hi2, words_at hk5]
            repeat' (refine And.intro (by first | rfl | omega | (simp; done)) ?_)
            refine hK _ _ (.mk (awl_live' [1, 3, 4, 6, 7] fun ρ hL => ?_))
            try simp only [go_sem, simprocAttr, h1, h3, h4, h6, h7, h47, hi1, hi2, words_at hk5] at hL
            try clear h1 h3 h4 h6 h7 h47
            obtain ⟨h1, h3, h4, h6, h7⟩ := hL
            clear hK K
            refine awl_nil ?_
            refine blk_normal (hR2 _ _ (.mk ?_))
            have w2 : IntKind.i64.wrap ((k : Int) + 1) = ((k + 1 : Nat) : Int) := by rw [wrap64 (by omega)]; omega
            refine awl_regS [(some 41, (.move (.tmp 7)), none), (some 42, (.binOp .add 3 (.tmp 41) (.const (.int .i64 1)) 3), none), (some 7, (.assign (.tmp 42)), none)] rfl fun K hK => ?_
            try simp only [go_sem, simprocAttr, h1, h3, h4, h6, h7, hi1, hi2, w2]
            repeat' (refine And.intro (by first | rfl | omega | (simp; done)) ?_)
            refine hK _ _ (.mk (awl_live' [1, 3, 4, 6, 7] fun ρ hL => ?_))
            try simp only [go_sem, simprocAttr, h1, h3, h4, h6, h7, hi1, hi2, w2] at hL
            try clear h1 h3 h4 h6 h7
            obtain ⟨h1, h3, h4, h6, h7⟩ := hL
            clear hK K
            refine awl_nil ?_
            refine loop_againW (Wk.keep [0, 5, 2, 3] rfl) _ ?meas ⟨k + 1, rfl, (by omega), (by simp only [go_sem, simprocAttr, h1, h3, h4, h6, h7, hi1, hi2, e2_1, e2_4, e2_6]), (by simp only [go_sem, simprocAttr, h1, h3, h4, h6, h7, hi1, hi2, e2_1, e2_4, e2_6]; rw [keysOf_snoc hk5, if_pos c3]; simp only [List.length_append, List.length_cons, List.length_nil, Nat.add_assoc]), (by simp only [go_sem, simprocAttr, h1, h3, h4, h6, h7, hi1, hi2, e2_1, e2_4, e2_6]; first | done | rfl), (by simp only [go_sem, simprocAttr, h1, h3, h4, h6, h7, hi1, hi2, e2_1, e2_4, e2_6]; rw [keysOf_snoc hk5, if_pos c3, ← List.append_assoc, ← words_snoc] <;> rfl)⟩
            case meas => subst hn; omega
          ·
            try simp only [cnd] at c3
            refine awl_skip ?_
            refine awl_nil ?_
            refine blk_normal (hR2 _ _ (.mk ?_))
            have w2 : IntKind.i64.wrap ((k : Int) + 1) = ((k + 1 : Nat) : Int) := by rw [wrap64 (by omega)]; omega
            refine awl_regS [(some 41, (.move (.tmp 7)), none), (some 42, (.binOp .add 3 (.tmp 41) (.const (.int .i64 1)) 3), none), (some 7, (.assign (.tmp 42)), none)] rfl fun K hK => ?_
            try simp only [go_sem, simprocAttr, h1, h3, h4, h6, h7, h47, hi1, hi2, w2]
            repeat' (refine And.intro (by first | rfl | omega | (simp; done)) ?_)
            refine hK _ _ (.mk (awl_live' [1, 3, 4, 6, 7] fun ρ hL => ?_))
            try simp only [go_sem, simprocAttr, h1, h3, h4, h6, h7, h47, hi1, hi2, w2] at hL
            try clear h1 h3 h4 h6 h7 h47
            obtain ⟨h1, h3, h4, h6, h7⟩ := hL
            clear hK K
            refine awl_nil ?_
            refine loop_againW (Wk.keep [0, 1, 2, 3] rfl) _ ?meas ⟨k + 1, rfl, (by omega), (by simp only [go_sem, simprocAttr, h1, h3, h4, h6, h7, hi1, hi2, e2_1, e2_4, e2_6]), (by simp only [go_sem, simprocAttr, h1, h3, h4, h6, h7, hi1, hi2, e2_1, e2_4, e2_6]; rw [keysOf_snoc hk5, if_neg (by rw [c3]; exact Bool.noConfusion), List.append_nil]), (by simp only [go_sem, simprocAttr, h1, h3, h4, h6, h7, hi1, hi2, e2_1, e2_4, e2_6]; first | done | rfl), (by simp only [go_sem, simprocAttr, h1, h3, h4, h6, h7, hi1, hi2, e2_1, e2_4, e2_6]; rw [keysOf_snoc hk5, if_neg (by rw [c3]; exact Bool.noConfusion), List.append_nil])⟩
            case meas => subst hn; omega
        ·
          try simp only [cnd] at c2
          refine awl_exit ?_
          refine loop_break ?_
          exact ⟨(by simp only [go_sem, simprocAttr, h1, h3, h4, h6, h7, h40, hi1, e2_1, e2_4, e2_6]), (by rw [h3, List.take_of_length_le (by rw [five_len]; omega)]), by rw [List.take_of_length_le (by rw [five_len]; omega)]; rfl⟩
      case after2 =>
        obtain ⟨hL, k3, hG⟩ := hJ
        subst hG
        try simp only [go_sem, simprocAttr, h1, h3, h4, h6, h7, hi1] at hL
        clear h1 h3 h4 h6 h7
        obtain ⟨h1, h4⟩ := hL
        have h3 := k3
        clear k3
        refine awl_nil ?_
        refine blk_normal (hR1 _ _ (.mk ?_))
        have w1 : IntKind.i64.wrap ((i : Int) + 1) = ((i + 1 : Nat) : Int) := by rw [wrap64 (by omega)]; omega
        refine awl_regS [(some 16, (.move (.tmp 4)), none), (some 17, (.binOp .add 3 (.tmp 16) (.const (.int .i64 1)) 3), none), (some 4, (.assign (.tmp 17)), none)] rfl fun K hK => ?_
        try simp only [go_sem, simprocAttr, h1, h3, h4, hi1, w1]
        repeat' (refine And.intro (by first | rfl | omega | (simp; done)) ?_)
        refine hK _ _ (.mk (awl_live' [1, 3, 4] fun ρ hL => ?_))
        try simp only [go_sem, simprocAttr, h1, h3, h4, hi1, w1] at hL
        try clear h1 h3 h4
        obtain ⟨h1, h3, h4⟩ := hL
        clear hK K
        refine awl_nil ?_
        refine loop_againW (Wk.keep [0, 1] rfl) _ ?meas ⟨i + 1, rfl, (by omega), (by simp only [go_sem, simprocAttr, h1, h3, h4, hi1, e1_1]), (by simp only [go_sem, simprocAttr, h1, h3, h4, hi1, e1_1]; rw [heldUp_succ hi1]), (by simp only [go_sem, simprocAttr, h1, h3, h4, hi1, e1_1]; first | done | rfl), (by simp only [go_sem, simprocAttr, h1, h3, h4, hi1, e1_1]; rw [heldUp_succ hi1])⟩
        case meas => subst hn; omega
    ·
      try simp only [cnd] at c1
      refine awl_exit ?_
      refine loop_break ?_
      exact ⟨(by simp only [go_sem, simprocAttr, h1, h3, h4, h15, e1_1]), (by rw [h3, show i = c.rob.length by omega]), by rw [show i = c.rob.length by omega]; rfl⟩
  case after1 =>
    obtain ⟨hL, k3, hG⟩ := hJ
    subst hG
    try simp only [go_sem, simprocAttr, h1, h3, h4] at hL
    clear h1 h3 h4
    have h1 := hL
    clear hL
    have h3 := k3
    clear k3
    refine awl_seq ?_
    refine awl_seq ?_
    refine awl_regS [(some 55, (.fieldAddr 61 (.tmp 1) 2), none), (some 56, (.fieldAddr 42 (.tmp 55) 1), none), (some 57, (.load 4 (.tmp 56)), none)] rfl fun K hK => ?_
    try simp only [go_sem, simprocAttr, h1, h3]
    repeat' (refine And.intro (by first | rfl | omega | (simp; done)) ?_)
    refine hK _ _ (.mk (awl_live' [1, 3, 57] fun ρ hL => ?_))
    try simp only [go_sem, simprocAttr, h1, h3] at hL
    try clear h1 h3
    obtain ⟨h1, h3, h57⟩ := hL
    clear hK K
    refine awl_cond h57 (fun c4 => ?_) (fun c4 => ?_)
    ·
      try simp only [cnd] at c4
      have hq1 := heldUp_len hf (Nat.le_refl _)
      refine awl_regS [(some 58, (.move (.tmp 3)), none), (some 59, (.fieldAddr 61 (.tmp 1) 2), none), (some 60, (.load 42 (.tmp 59)), none), (some 61, (.buildSlice 38 1 #[(0, (.tmp 60))]), none), (some 62, (.call ⟨(.builtin .append), #[(.tmp 58), (.tmp 61)], #[38, 38]⟩), none), (some 3, (.assign (.tmp 62)), none)] rfl fun K hK => ?_
      try simp only [go_sem, simprocAttr, h1, h3, h57]
      repeat' (refine And.intro (by first | rfl | omega | (simp; done)) ?_)
      refine hK _ _ (.mk (awl_live' [3] fun ρ hL => ?_))
      try simp only [go_sem, simprocAttr, h1, h3, h57] at hL
      try clear h1 h3 h57
      have h3 := hL
      clear hL
      clear hK K
      refine awl_seq ?_
      refine awl_regS [(some 63, (.move (.tmp 3)), none), (some 2, (.assign (.tmp 63)), none)] rfl fun K hK => ?_
      try simp only [go_sem, simprocAttr, h3]
      repeat' (refine And.intro (by first | rfl | omega | (simp; done)) ?_)
      refine hK _ _ (.mk (awl_live' [2] fun ρ hL => ?_))
      try simp only [go_sem, simprocAttr, h3] at hL
      try clear h3
      have h2 := hL
      clear hL
      clear hK K
      refine awl_ret ?_
      refine retK [3] [3] rfl (by simp only [go_sem, simprocAttr, h2]; exact rfl) (by decide) (by first | rfl | (simp only [go_sem, simprocAttr, h2]; first | done | rfl)) (by first | rfl | (simp only [go_sem, simprocAttr, h2]; first | done | rfl)) ?_ ?_
      all_goals try simp only [go_sem, simprocAttr, h2]
      all_goals try clear hR1
      all_goals try clear hR2
      all_goals (rw [held_yes c4] <;> simp only [List.length_append, List.length_cons, List.length_nil, words_snoc])
    ·
      try simp only [cnd] at c4
      refine awl_skip ?_
      refine awl_seq ?_
      refine awl_regS [(some 63, (.move (.tmp 3)), none), (some 2, (.assign (.tmp 63)), none)] rfl fun K hK => ?_
      try simp only [go_sem, simprocAttr, h1, h3, h57]
      repeat' (refine And.intro (by first | rfl | omega | (simp; done)) ?_)
      refine hK _ _ (.mk (awl_live' [2] fun ρ hL => ?_))
      try simp only [go_sem, simprocAttr, h1, h3, h57] at hL
      try clear h1 h3 h57
      have h2 := hL
      clear hL
      clear hK K
      refine awl_ret ?_
      refine retK [1] [1] rfl (by simp only [go_sem, simprocAttr, h2]; exact rfl) (by decide) (by first | rfl | (simp only [go_sem, simprocAttr, h2]; first | done | rfl)) (by first | rfl | (simp only [go_sem, simprocAttr, h2]; first | done | rfl)) ?_ ?_
      all_goals try simp only [go_sem, simprocAttr, h2]
      all_goals try clear hR1
      all_goals try clear hR2
      all_goals (rw [held_no c4])
end Go.Proofs.Ytgddflnhibhacaa.AM
