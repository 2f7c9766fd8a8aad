/- A new core. No conditions but those each theorem bears. -/
import Derived.Test.YtgddflnhibhacaaFa
import Derived.Test.YtgddflnhibhacaaSp13
import Derived.Test.YtgddflnhibhacaaCa26
import Derived.Test.YtgddflnhibhacaaCa28
import Derived.Test.YtgddflnhibhacaaCa9
set_option linter.unusedSimpArgs false
set_option linter.unusedVariables false
namespace Go.Proofs.Ytgddflnhibhacaa.AM
open Go

set_option maxHeartbeats 8000000 in
set_option maxRecDepth 100000 in
theorem sat_spec_CoreNew (s : Stt) (hf : s.fit) : Sat Try.prog 47 [.agg s.cells] [] (.agg ((corNew s).own 0 1 2 3 4)) (corNew s).blks := by
  refine sat_mk [.cell 2 61] 0 13 Try.call47 Try.func47 Try.ntmps47 rfl rfl rfl rfl rfl ?_
  refine awl_live' [0] fun ρ hL => ?_
  try simp only [go_sem, simprocAttr] at hL
  have h0 := hL
  clear hL
  refine awl_seq ?_
  refine awl_regS [(some 1, (.box 46 (.tmp 0)), none), (some 2, (.alloc 61), none)] rfl fun K hK => ?_
  try simp only [go_sem, simprocAttr, h0]
  repeat' (refine And.intro (by first | rfl | omega | (simp; done)) ?_)
  refine hK _ _ (.mk (awl_live' [1, 2] fun ρ hL => ?_))
  try simp only [go_sem, simprocAttr, h0] at hL
  try clear h0
  obtain ⟨h1, h2⟩ := hL
  clear hK K
  refine awl_seq ?_
  refine awl_seq ?_
  refine awl_regS [(some 3, (.load 46 (.tmp 1)), none), (some 4, (.call ⟨(.value (.func 59)), #[(.tmp 3)], #[46]⟩), none), (some 5, (.unOp .not 4 (.tmp 4)), none)] rfl fun K hK => ?_
  try simp only [go_sem, simprocAttr, h1, h2]
  repeat' (refine And.intro (by first | rfl | omega | (simp; done)) ?_)
  refine opS_call_ro rfl (sat_spec_StateOk s hf) ?ha ?hv ?hh ?_
  case ha => simp only [go_sem, simprocAttr, h1, h2]; first | done | rfl
  case hv => first | rfl | (simp only [go_sem]; done)
  case hh => first | rfl | (simp only [go_sem]; done)
  try simp only [go_sem, simprocAttr, h1, h2]
  repeat' (refine And.intro (by first | rfl | omega | (simp; done)) ?_)
  refine hK _ _ (.mk (awl_live' [1, 2, 5] fun ρ hL => ?_))
  try simp only [go_sem, simprocAttr, h1, h2] at hL
  try clear h1 h2
  obtain ⟨h1, h2, h5⟩ := hL
  clear hK K
  refine awl_cond h5 (fun c1 => ?_) (fun c1 => ?_)
  ·
    try simp only [cnd] at c1
    refine awl_seq ?_
    refine awl_regS [(some 6, (.build 61 #[]), none), (none, (.store 61 (.tmp 2) (.tmp 6)), none)] rfl fun K hK => ?_
    try simp only [go_sem, simprocAttr, h1, h2, h5]
    repeat' (refine And.intro (by first | rfl | omega | (simp; done)) ?_)
    refine hK _ _ (.mk (awl_live' [2] fun ρ hL => ?_))
    try simp only [go_sem, simprocAttr, h1, h2, h5] at hL
    try clear h1 h2 h5
    have h2 := hL
    clear hL
    clear hK K
    refine awl_ret ?_
    refine retN (v := .agg [.nilsl, .int .i64 0, .bool false, .int .i64 0, .int .i64 0, .int .i64 0, .int .i64 0, .nilsl, .nilsl, .int .i64 0, .nilsl, .int .i64 0, .bool false, .int .i64 0, .int .i64 0, .int .i64 0, .int .i64 0, .bool false, .nilsl]) [6, 6, 1, 40, 1] [2, 3, 4, 5, 6] [2, 3, 4, 5, 6] rfl (by simp only [go_sem, simprocAttr, h2]; exact rfl) (by first | rfl | (simp only [go_sem, simprocAttr, h2]; first | done | rfl)) (Ref.agg (RefL.cons (Ref.nil 2 ⟨Nat.le_of_ble_eq_true rfl, Nat.le_of_ble_eq_true rfl⟩) (RefL.cons (Ref.refl _) (RefL.cons (Ref.refl _) (RefL.cons (Ref.refl _) (RefL.cons (Ref.refl _) (RefL.cons (Ref.refl _) (RefL.cons (Ref.refl _) (RefL.cons (Ref.nil 3 ⟨Nat.le_of_ble_eq_true rfl, Nat.le_of_ble_eq_true rfl⟩) (RefL.cons (Ref.nil 4 ⟨Nat.le_of_ble_eq_true rfl, Nat.le_of_ble_eq_true rfl⟩) (RefL.cons (Ref.refl _) (RefL.cons (Ref.nil 5 ⟨Nat.le_of_ble_eq_true rfl, Nat.le_of_ble_eq_true rfl⟩) (RefL.cons (Ref.refl _) (RefL.cons (Ref.refl _) (RefL.cons (Ref.refl _) (RefL.cons (Ref.refl _) (RefL.cons (Ref.refl _) (RefL.cons (Ref.refl _) (RefL.cons (Ref.refl _) (RefL.cons (Ref.nil 6 ⟨Nat.le_of_ble_eq_true rfl, Nat.le_of_ble_eq_true rfl⟩) (RefL.same []))))))))))))))))))))) rfl (by decide) rfl rfl ?_ ?_
    all_goals try simp only [go_sem, simprocAttr, h2]
    all_goals (rw [corNew_no c1] <;> rfl)
  ·
    try simp only [cnd] at c1
    refine awl_skip ?_
    refine awl_seq ?_
    refine awl_regD mixed [(some 7, (.load 46 (.tmp 1)), none), (some 8, (.call ⟨(.value (.func 95)), #[(.tmp 7)], #[46]⟩), none), (some 9, (.fieldAddr 46 (.tmp 1) 1), none), (some 10, (.load 42 (.tmp 9)), none), (some 11, (.call ⟨(.value (.func 13)), #[], #[]⟩), none), (some 12, (.build 61 #[(0, (.tmp 8)), (2, (.tmp 10)), (4, (.tmp 11))]), none), (none, (.store 61 (.tmp 2) (.tmp 12)), none)] rfl fun K hK => ?_
    try simp only [go_sem, simprocAttr, h1, h2, h5]
    repeat' (refine And.intro (by first | omega | (exact ⟨[0, 1, 0, 4, 3, 31, 63], by kernel_rfl⟩) | kernel_rfl) ?_)
    refine dS_call_ro rfl (sat_spec_l9Copy s hf) ?ha ?hv ?hh ?_
    case ha => simp only [go_sem, simprocAttr, h1, h2, h5]; first | done | rfl
    case hv => first | rfl | (simp only [go_sem]; done)
    case hh => first | rfl | (simp only [go_sem]; done)
    try simp only [go_sem, simprocAttr, h1, h2, h5]
    repeat' (refine And.intro (by first | omega | (exact ⟨[0, 1, 0, 4, 3, 31, 63], by kernel_rfl⟩) | kernel_rfl) ?_)
    refine dS_call_ro rfl (sat_spec_GuessNew) ?ha ?hv ?hh ?_
    case ha => simp only [go_sem, simprocAttr, h1, h2, h5]; first | done | rfl
    case hv => first | rfl | (simp only [go_sem]; done)
    case hh => first | rfl | (simp only [go_sem]; done)
    try simp only [go_sem, simprocAttr, h1, h2, h5]
    repeat' (refine And.intro (by first | omega | (exact ⟨[0, 1, 0, 4, 3, 31, 63], by kernel_rfl⟩) | kernel_rfl) ?_)
    refine hK _ _ (.mk (awl_live' [2] fun ρ hL => ?_))
    try simp only [go_sem, simprocAttr, h1, h2, h5] at hL
    try clear h1 h2 h5
    have h2 := hL
    clear hL
    clear hK K
    refine awl_ret ?_
    refine retN (v := .agg [.slice 2 0 s.regs.length 0, .int .i64 s.pc.n, .bool s.pc.is, .int .i64 s.pc.key.base, .int .i64 s.pc.key.top, .int .i64 s.pc.key.perms, .int .i64 s.pc.key.lock, .slice 3 0 s.mem.words.length 0, .slice 4 0 s.mem.gone.length 0, .int .i64 s.trap, .nilsl, .int .i64 s.pc.n, .bool s.pc.is, .int .i64 s.pc.key.base, .int .i64 s.pc.key.top, .int .i64 s.pc.key.perms, .int .i64 s.pc.key.lock, .bool false, .slice 5 0 48 0]) [40] [2, 3, 4, 6, 5] [2, 3, 4, 6, 5] rfl (by simp only [go_sem, simprocAttr, h2]; exact rfl) (by first | rfl | (simp only [go_sem, simprocAttr, h2]; first | done | rfl)) (Ref.agg (RefL.cons (Ref.refl _) (RefL.cons (Ref.refl _) (RefL.cons (Ref.refl _) (RefL.cons (Ref.refl _) (RefL.cons (Ref.refl _) (RefL.cons (Ref.refl _) (RefL.cons (Ref.refl _) (RefL.cons (Ref.refl _) (RefL.cons (Ref.refl _) (RefL.cons (Ref.refl _) (RefL.cons (Ref.nil 6 ⟨Nat.le_of_ble_eq_true rfl, Nat.le_of_ble_eq_true rfl⟩) (RefL.cons (Ref.refl _) (RefL.cons (Ref.refl _) (RefL.cons (Ref.refl _) (RefL.cons (Ref.refl _) (RefL.cons (Ref.refl _) (RefL.cons (Ref.refl _) (RefL.cons (Ref.refl _) (RefL.cons (Ref.refl _) (RefL.same []))))))))))))))))))))) rfl (by decide) rfl rfl ?_ ?_
    all_goals try simp only [go_sem, simprocAttr, h2]
    all_goals (rw [corNew_go c1] <;> rfl)
set_option maxHeartbeats 8000000 in
set_option maxRecDepth 100000 in
theorem sat_impl_CoreNew (s : Stt) (hf : s.fit) : Sat Try.prog 48 [.agg s.cells] [] (.agg ((corNew s).own 0 1 2 3 4)) (corNew s).blks := by
  refine sat_mk [.cell 2 61] 0 13 Try.call48 Try.func48 Try.ntmps48 rfl rfl rfl rfl rfl ?_
  refine awl_live' [0] fun ρ hL => ?_
  try simp only [go_sem, simprocAttr] at hL
  have h0 := hL
  clear hL
  refine awl_seq ?_
  refine awl_regS [(some 1, (.box 46 (.tmp 0)), none), (some 2, (.alloc 61), none)] rfl fun K hK => ?_
  try simp only [go_sem, simprocAttr, h0]
  repeat' (refine And.intro (by first | rfl | omega | (simp; done)) ?_)
  refine hK _ _ (.mk (awl_live' [1, 2] fun ρ hL => ?_))
  try simp only [go_sem, simprocAttr, h0] at hL
  try clear h0
  obtain ⟨h1, h2⟩ := hL
  clear hK K
  refine awl_seq ?_
  refine awl_seq ?_
  refine awl_regS [(some 3, (.load 46 (.tmp 1)), none), (some 4, (.call ⟨(.value (.func 61)), #[(.tmp 3)], #[46]⟩), none), (some 5, (.unOp .not 4 (.tmp 4)), none)] rfl fun K hK => ?_
  try simp only [go_sem, simprocAttr, h1, h2]
  repeat' (refine And.intro (by first | rfl | omega | (simp; done)) ?_)
  refine opS_call_ro rfl (sat_impl_StateOk s hf) ?ha ?hv ?hh ?_
  case ha => simp only [go_sem, simprocAttr, h1, h2]; first | done | rfl
  case hv => first | rfl | (simp only [go_sem]; done)
  case hh => first | rfl | (simp only [go_sem]; done)
  try simp only [go_sem, simprocAttr, h1, h2]
  repeat' (refine And.intro (by first | rfl | omega | (simp; done)) ?_)
  refine hK _ _ (.mk (awl_live' [1, 2, 5] fun ρ hL => ?_))
  try simp only [go_sem, simprocAttr, h1, h2] at hL
  try clear h1 h2
  obtain ⟨h1, h2, h5⟩ := hL
  clear hK K
  refine awl_cond h5 (fun c1 => ?_) (fun c1 => ?_)
  ·
    try simp only [cnd] at c1
    refine awl_seq ?_
    refine awl_regS [(some 6, (.build 61 #[]), none), (none, (.store 61 (.tmp 2) (.tmp 6)), none)] rfl fun K hK => ?_
    try simp only [go_sem, simprocAttr, h1, h2, h5]
    repeat' (refine And.intro (by first | rfl | omega | (simp; done)) ?_)
    refine hK _ _ (.mk (awl_live' [2] fun ρ hL => ?_))
    try simp only [go_sem, simprocAttr, h1, h2, h5] at hL
    try clear h1 h2 h5
    have h2 := hL
    clear hL
    clear hK K
    refine awl_ret ?_
    refine retN (v := .agg [.nilsl, .int .i64 0, .bool false, .int .i64 0, .int .i64 0, .int .i64 0, .int .i64 0, .nilsl, .nilsl, .int .i64 0, .nilsl, .int .i64 0, .bool false, .int .i64 0, .int .i64 0, .int .i64 0, .int .i64 0, .bool false, .nilsl]) [6, 6, 1, 40, 1] [2, 3, 4, 5, 6] [2, 3, 4, 5, 6] rfl (by simp only [go_sem, simprocAttr, h2]; exact rfl) (by first | rfl | (simp only [go_sem, simprocAttr, h2]; first | done | rfl)) (Ref.agg (RefL.cons (Ref.nil 2 ⟨Nat.le_of_ble_eq_true rfl, Nat.le_of_ble_eq_true rfl⟩) (RefL.cons (Ref.refl _) (RefL.cons (Ref.refl _) (RefL.cons (Ref.refl _) (RefL.cons (Ref.refl _) (RefL.cons (Ref.refl _) (RefL.cons (Ref.refl _) (RefL.cons (Ref.nil 3 ⟨Nat.le_of_ble_eq_true rfl, Nat.le_of_ble_eq_true rfl⟩) (RefL.cons (Ref.nil 4 ⟨Nat.le_of_ble_eq_true rfl, Nat.le_of_ble_eq_true rfl⟩) (RefL.cons (Ref.refl _) (RefL.cons (Ref.nil 5 ⟨Nat.le_of_ble_eq_true rfl, Nat.le_of_ble_eq_true rfl⟩) (RefL.cons (Ref.refl _) (RefL.cons (Ref.refl _) (RefL.cons (Ref.refl _) (RefL.cons (Ref.refl _) (RefL.cons (Ref.refl _) (RefL.cons (Ref.refl _) (RefL.cons (Ref.refl _) (RefL.cons (Ref.nil 6 ⟨Nat.le_of_ble_eq_true rfl, Nat.le_of_ble_eq_true rfl⟩) (RefL.same []))))))))))))))))))))) rfl (by decide) rfl rfl ?_ ?_
    all_goals try simp only [go_sem, simprocAttr, h2]
    all_goals (rw [corNew_no c1] <;> rfl)
  ·
    try simp only [cnd] at c1
    refine awl_skip ?_
    refine awl_seq ?_
    refine awl_regD mixed [(some 7, (.load 46 (.tmp 1)), none), (some 8, (.call ⟨(.value (.func 96)), #[(.tmp 7)], #[46]⟩), none), (some 9, (.fieldAddr 46 (.tmp 1) 1), none), (some 10, (.load 42 (.tmp 9)), none), (some 11, (.call ⟨(.value (.func 14)), #[], #[]⟩), none), (some 12, (.build 61 #[(0, (.tmp 8)), (2, (.tmp 10)), (4, (.tmp 11))]), none), (none, (.store 61 (.tmp 2) (.tmp 12)), none)] rfl fun K hK => ?_
    try simp only [go_sem, simprocAttr, h1, h2, h5]
    repeat' (refine And.intro (by first | omega | (exact ⟨[0, 1, 0, 4, 3, 31, 63], by kernel_rfl⟩) | kernel_rfl) ?_)
    refine dS_call_ro rfl (sat_impl_cloneState s hf) ?ha ?hv ?hh ?_
    case ha => simp only [go_sem, simprocAttr, h1, h2, h5]; first | done | rfl
    case hv => first | rfl | (simp only [go_sem]; done)
    case hh => first | rfl | (simp only [go_sem]; done)
    try simp only [go_sem, simprocAttr, h1, h2, h5]
    repeat' (refine And.intro (by first | omega | (exact ⟨[0, 1, 0, 4, 3, 31, 63], by kernel_rfl⟩) | kernel_rfl) ?_)
    refine dS_call_ro rfl (sat_impl_GuessNew) ?ha ?hv ?hh ?_
    case ha => simp only [go_sem, simprocAttr, h1, h2, h5]; first | done | rfl
    case hv => first | rfl | (simp only [go_sem]; done)
    case hh => first | rfl | (simp only [go_sem]; done)
    try simp only [go_sem, simprocAttr, h1, h2, h5]
    repeat' (refine And.intro (by first | omega | (exact ⟨[0, 1, 0, 4, 3, 31, 63], by kernel_rfl⟩) | kernel_rfl) ?_)
    refine hK _ _ (.mk (awl_live' [2] fun ρ hL => ?_))
    try simp only [go_sem, simprocAttr, h1, h2, h5] at hL
    try clear h1 h2 h5
    have h2 := hL
    clear hL
    clear hK K
    refine awl_ret ?_
    refine retN (v := .agg [.slice 2 0 s.regs.length 0, .int .i64 s.pc.n, .bool s.pc.is, .int .i64 s.pc.key.base, .int .i64 s.pc.key.top, .int .i64 s.pc.key.perms, .int .i64 s.pc.key.lock, .slice 3 0 s.mem.words.length 0, .slice 4 0 s.mem.gone.length 0, .int .i64 s.trap, .nilsl, .int .i64 s.pc.n, .bool s.pc.is, .int .i64 s.pc.key.base, .int .i64 s.pc.key.top, .int .i64 s.pc.key.perms, .int .i64 s.pc.key.lock, .bool false, .slice 5 0 48 0]) [40] [2, 3, 4, 6, 5] [2, 3, 4, 6, 5] rfl (by simp only [go_sem, simprocAttr, h2]; exact rfl) (by first | rfl | (simp only [go_sem, simprocAttr, h2]; first | done | rfl)) (Ref.agg (RefL.cons (Ref.refl _) (RefL.cons (Ref.refl _) (RefL.cons (Ref.refl _) (RefL.cons (Ref.refl _) (RefL.cons (Ref.refl _) (RefL.cons (Ref.refl _) (RefL.cons (Ref.refl _) (RefL.cons (Ref.refl _) (RefL.cons (Ref.refl _) (RefL.cons (Ref.refl _) (RefL.cons (Ref.nil 6 ⟨Nat.le_of_ble_eq_true rfl, Nat.le_of_ble_eq_true rfl⟩) (RefL.cons (Ref.refl _) (RefL.cons (Ref.refl _) (RefL.cons (Ref.refl _) (RefL.cons (Ref.refl _) (RefL.cons (Ref.refl _) (RefL.cons (Ref.refl _) (RefL.cons (Ref.refl _) (RefL.cons (Ref.refl _) (RefL.same []))))))))))))))))))))) rfl (by decide) rfl rfl ?_ ?_
    all_goals try simp only [go_sem, simprocAttr, h2]
    all_goals (rw [corNew_go c1] <;> rfl)
end Go.Proofs.Ytgddflnhibhacaa.AM
