/- States copied. No conditions but those each theorem bears. -/
import Derived.Test.YtgddflnhibhacaaFa
import Derived.Test.YtgddflnhibhacaaSp9
import Derived.Test.YtgddflnhibhacaaCacl
import Derived.Test.YtgddflnhibhacaaCa7
set_option linter.unusedSimpArgs false
set_option linter.unusedVariables false
namespace Go.Proofs.Ytgddflnhibhacaa.AM
open Go

set_option maxHeartbeats 8000000 in
set_option maxRecDepth 100000 in
theorem sat_spec_l8Copy (m : Mem) (hb : m.fit) : Sat Try.prog 132 [.agg m.cells] [] (.agg (m.own 0 1)) m.blks := by
  refine sat_mk [.cell 2 44] 0 12 Try.call132 Try.func132 Try.ntmps132 rfl rfl rfl rfl rfl ?_
  refine awl_live' [0] fun ρ hL => ?_
  try simp only [go_sem, simprocAttr] at hL
  have h0 := hL
  clear hL
  refine awl_seq ?_
  have hb1 := hb.1
  have hb2 := hb.2
  refine awl_regS [(some 1, (.box 44 (.tmp 0)), none), (some 2, (.alloc 44), none)] rfl fun K hK => ?_
  try simp only [go_sem, simprocAttr, h0]
  repeat' (refine And.intro (by first | rfl | omega | (simp; done)) ?_)
  refine hK _ _ (.mk (awl_live' [1, 2] fun ρ hL => ?_))
  try simp only [go_sem, simprocAttr, h0] at hL
  try clear h0
  obtain ⟨h1, h2⟩ := hL
  clear hK K
  refine awl_seq ?_
  refine awl_regD mixed [(some 3, (.buildSlice 38 0 #[]), none), (some 4, (.fieldAddr 44 (.tmp 1) 0), none), (some 5, (.load 38 (.tmp 4)), none), (some 6, (.call ⟨(.builtin .append), #[(.tmp 3), (.tmp 5)], #[38, 38]⟩), none), (some 7, (.buildSlice 32 0 #[]), none), (some 8, (.fieldAddr 44 (.tmp 1) 1), none), (some 9, (.load 32 (.tmp 8)), none), (some 10, (.call ⟨(.builtin .append), #[(.tmp 7), (.tmp 9)], #[32, 32]⟩), none), (some 11, (.build 44 #[(0, (.tmp 6)), (1, (.tmp 10))]), none), (none, (.store 44 (.tmp 2) (.tmp 11)), none)] rfl fun K hK => ?_
  try simp only [go_sem, simprocAttr, h1, h2]
  repeat' (refine And.intro (by first | omega | (exact ⟨[0, 0, 2, 7, 0, 0, 32, 127, 255, 511], by kernel_rfl⟩) | kernel_rfl) ?_)
  refine hK _ _ (.mk (awl_live' [2] fun ρ hL => ?_))
  try simp only [go_sem, simprocAttr, h1, h2] at hL
  try clear h1 h2
  have h2 := hL
  clear hL
  clear hK K
  refine awl_ret ?_
  refine retK [2, 3] [2, 3] rfl (by simp only [go_sem, simprocAttr, h2]; exact rfl) (by decide) (by first | rfl | (simp only [go_sem, simprocAttr, h2]; first | done | rfl)) (by first | rfl | (simp only [go_sem, simprocAttr, h2]; first | done | rfl)) ?_ ?_
  all_goals try simp only [go_sem, simprocAttr, h2]
  all_goals (first | done | rfl | (simp; done) | (simp [inR]; done) | (simp_all [inR]; done) | (simp [inR]; grind))
set_option maxHeartbeats 8000000 in
set_option maxRecDepth 100000 in
theorem sat_impl_cloneMemory (m : Mem) (hb : m.fit) : Sat Try.prog 133 [.agg m.cells] [] (.agg (m.own 0 1)) m.blks := by
  refine sat_mk [.cell 2 44] 0 10 Try.call133 Try.func133 Try.ntmps133 rfl rfl rfl rfl rfl ?_
  refine awl_live' [0] fun ρ hL => ?_
  try simp only [go_sem, simprocAttr] at hL
  have h0 := hL
  clear hL
  refine awl_seq ?_
  refine awl_regS [(some 1, (.box 44 (.tmp 0)), none), (some 2, (.alloc 44), none)] rfl fun K hK => ?_
  try simp only [go_sem, simprocAttr, h0]
  repeat' (refine And.intro (by first | rfl | omega | (simp; done)) ?_)
  refine hK _ _ (.mk (awl_live' [1, 2] fun ρ hL => ?_))
  try simp only [go_sem, simprocAttr, h0] at hL
  try clear h0
  obtain ⟨h1, h2⟩ := hL
  clear hK K
  refine awl_seq ?_
  refine awl_regD mixed [(some 3, (.fieldAddr 44 (.tmp 1) 0), none), (some 4, (.load 38 (.tmp 3)), none), (some 5, (.call ⟨(.value (.func 103)), #[(.tmp 4)], #[38]⟩), none), (some 6, (.fieldAddr 44 (.tmp 1) 1), none), (some 7, (.load 32 (.tmp 6)), none), (some 8, (.call ⟨(.value (.func 155)), #[(.tmp 7)], #[32]⟩), none), (some 9, (.build 44 #[(0, (.tmp 5)), (1, (.tmp 8))]), none), (none, (.store 44 (.tmp 2) (.tmp 9)), none)] rfl fun K hK => ?_
  try simp only [go_sem, simprocAttr, h1, h2]
  repeat' (refine And.intro (by first | omega | (exact ⟨[0, 1, 3, 0, 8, 31, 63, 127], by kernel_rfl⟩) | kernel_rfl) ?_)
  refine dS_call_ro rfl (sat_slices_Clone_impl_Word_impl_Word m.words m.words.length (Nat.le_trans hb.1 (by decide))) ?ha ?hv ?hh ?_
  case ha => simp only [go_sem, simprocAttr, h1, h2]; first | done | rfl
  case hv => first | rfl | (simp only [go_sem]; done)
  case hh => first | rfl | (simp only [go_sem]; done)
  try simp only [go_sem, simprocAttr, h1, h2]
  repeat' (refine And.intro (by first | omega | (exact ⟨[0, 1, 3, 0, 8, 31, 63, 127], by kernel_rfl⟩) | kernel_rfl) ?_)
  refine dS_call_ro rfl (sat_slices_Clone_bool_bool m.gone m.gone.length (Nat.le_trans hb.2 (by decide))) ?ha ?hv ?hh ?_
  case ha => simp only [go_sem, simprocAttr, h1, h2]; first | done | rfl
  case hv => first | rfl | (simp only [go_sem]; done)
  case hh => first | rfl | (simp only [go_sem]; done)
  try simp only [go_sem, simprocAttr, h1, h2]
  repeat' (refine And.intro (by first | omega | (exact ⟨[0, 1, 3, 0, 8, 31, 63, 127], by kernel_rfl⟩) | kernel_rfl) ?_)
  refine hK _ _ (.mk (awl_live' [2] fun ρ hL => ?_))
  try simp only [go_sem, simprocAttr, h1, h2] at hL
  try clear h1 h2
  have h2 := hL
  clear hL
  clear hK K
  refine awl_ret ?_
  refine retK [2, 3] [2, 3] rfl (by simp only [go_sem, simprocAttr, h2]; exact rfl) (by decide) (by first | rfl | (simp only [go_sem, simprocAttr, h2]; first | done | rfl)) (by first | rfl | (simp only [go_sem, simprocAttr, h2]; first | done | rfl)) ?_ ?_
  all_goals try simp only [go_sem, simprocAttr, h2]
  all_goals (first | done | rfl | (simp; done) | (simp [inR]; done) | (simp_all [inR]; done) | (simp [inR]; grind))
set_option maxHeartbeats 8000000 in
set_option maxRecDepth 100000 in
theorem sat_spec_l9Copy (s : Stt) (hb : s.fit) : Sat Try.prog 95 [.agg s.cells] [] (.agg (s.own 0 1 2)) s.blks := by
  refine sat_mk [.cell 2 46] 0 15 Try.call95 Try.func95 Try.ntmps95 rfl rfl rfl rfl rfl ?_
  refine awl_live' [0] fun ρ hL => ?_
  try simp only [go_sem, simprocAttr] at hL
  have h0 := hL
  clear hL
  refine awl_seq ?_
  have hb1 := hb.1
  refine awl_regS [(some 1, (.box 46 (.tmp 0)), none), (some 2, (.alloc 46), none)] rfl fun K hK => ?_
  try simp only [go_sem, simprocAttr, h0]
  repeat' (refine And.intro (by first | rfl | omega | (simp; done)) ?_)
  refine hK _ _ (.mk (awl_live' [1, 2] fun ρ hL => ?_))
  try simp only [go_sem, simprocAttr, h0] at hL
  try clear h0
  obtain ⟨h1, h2⟩ := hL
  clear hK K
  refine awl_seq ?_
  refine awl_regD mixed [(some 3, (.buildSlice 38 0 #[]), none), (some 4, (.fieldAddr 46 (.tmp 1) 0), none), (some 5, (.load 38 (.tmp 4)), none), (some 6, (.call ⟨(.builtin .append), #[(.tmp 3), (.tmp 5)], #[38, 38]⟩), none), (some 7, (.fieldAddr 46 (.tmp 1) 1), none), (some 8, (.load 42 (.tmp 7)), none), (some 9, (.fieldAddr 46 (.tmp 1) 2), none), (some 10, (.load 44 (.tmp 9)), none), (some 11, (.call ⟨(.value (.func 132)), #[(.tmp 10)], #[44]⟩), none), (some 12, (.fieldAddr 46 (.tmp 1) 3), none), (some 13, (.load 3 (.tmp 12)), none), (some 14, (.build 46 #[(0, (.tmp 6)), (1, (.tmp 8)), (2, (.tmp 11)), (3, (.tmp 13))]), none), (none, (.store 46 (.tmp 2) (.tmp 14)), none)] rfl fun K hK => ?_
  try simp only [go_sem, simprocAttr, h1, h2]
  repeat' (refine And.intro (by first | omega | (exact ⟨[0, 0, 2, 7, 0, 16, 0, 64, 207, 0, 512, 2047, 4095], by kernel_rfl⟩) | kernel_rfl) ?_)
  refine dS_call_ro rfl (sat_spec_l8Copy s.mem hb.2) ?ha ?hv ?hh ?_
  case ha => simp only [go_sem, simprocAttr, h1, h2]; first | done | rfl
  case hv => first | rfl | (simp only [go_sem]; done)
  case hh => first | rfl | (simp only [go_sem]; done)
  try simp only [go_sem, simprocAttr, h1, h2]
  repeat' (refine And.intro (by first | omega | (exact ⟨[0, 0, 2, 7, 0, 16, 0, 64, 207, 0, 512, 2047, 4095], by kernel_rfl⟩) | kernel_rfl) ?_)
  refine hK _ _ (.mk (awl_live' [2] fun ρ hL => ?_))
  try simp only [go_sem, simprocAttr, h1, h2] at hL
  try clear h1 h2
  have h2 := hL
  clear hL
  clear hK K
  refine awl_ret ?_
  refine retK [2, 3, 4] [2, 3, 4] rfl (by simp only [go_sem, simprocAttr, h2]; exact rfl) (by decide) (by first | rfl | (simp only [go_sem, simprocAttr, h2]; first | done | rfl)) (by first | rfl | (simp only [go_sem, simprocAttr, h2]; first | done | rfl)) ?_ ?_
  all_goals try simp only [go_sem, simprocAttr, h2]
  all_goals (first | done | rfl | (simp; done) | (simp [inR]; done) | (simp_all [inR]; done) | (simp [inR]; grind))
set_option maxHeartbeats 8000000 in
set_option maxRecDepth 100000 in
theorem sat_impl_cloneState (s : Stt) (hb : s.fit) : Sat Try.prog 96 [.agg s.cells] [] (.agg (s.own 0 1 2)) s.blks := by
  refine sat_mk [.cell 2 46] 0 12 Try.call96 Try.func96 Try.ntmps96 rfl rfl rfl rfl rfl ?_
  refine awl_live' [0] fun ρ hL => ?_
  try simp only [go_sem, simprocAttr] at hL
  have h0 := hL
  clear hL
  refine awl_seq ?_
  refine awl_regS [(some 1, (.box 46 (.tmp 0)), none), (some 2, (.alloc 46), none)] rfl fun K hK => ?_
  try simp only [go_sem, simprocAttr, h0]
  repeat' (refine And.intro (by first | rfl | omega | (simp; done)) ?_)
  refine hK _ _ (.mk (awl_live' [1, 2] fun ρ hL => ?_))
  try simp only [go_sem, simprocAttr, h0] at hL
  try clear h0
  obtain ⟨h1, h2⟩ := hL
  clear hK K
  refine awl_seq ?_
  refine awl_regD mixed [(some 3, (.fieldAddr 46 (.tmp 1) 0), none), (some 4, (.load 38 (.tmp 3)), none), (some 5, (.call ⟨(.value (.func 103)), #[(.tmp 4)], #[38]⟩), none), (some 6, (.fieldAddr 46 (.tmp 1) 2), none), (some 7, (.load 44 (.tmp 6)), none), (some 8, (.call ⟨(.value (.func 133)), #[(.tmp 7)], #[44]⟩), none), (some 9, (.fieldAddr 46 (.tmp 1) 0), none), (none, (.store 38 (.tmp 9) (.tmp 5)), none), (some 10, (.fieldAddr 46 (.tmp 1) 2), none), (none, (.store 44 (.tmp 10) (.tmp 8)), none)] rfl fun K hK => ?_
  try simp only [go_sem, simprocAttr, h1, h2]
  repeat' (refine And.intro (by first | omega | (exact ⟨[0, 1, 3, 0, 8, 31, 31, 127, 255, 511], by kernel_rfl⟩) | kernel_rfl) ?_)
  refine dS_call_ro rfl (sat_slices_Clone_impl_Word_impl_Word s.regs s.regs.length (Nat.le_trans hb.1 (by decide))) ?ha ?hv ?hh ?_
  case ha => simp only [go_sem, simprocAttr, h1, h2]; first | done | rfl
  case hv => first | rfl | (simp only [go_sem]; done)
  case hh => first | rfl | (simp only [go_sem]; done)
  try simp only [go_sem, simprocAttr, h1, h2]
  repeat' (refine And.intro (by first | omega | (exact ⟨[0, 1, 3, 0, 8, 31, 31, 127, 255, 511], by kernel_rfl⟩) | kernel_rfl) ?_)
  refine dS_call_ro rfl (sat_impl_cloneMemory s.mem hb.2) ?ha ?hv ?hh ?_
  case ha => simp only [go_sem, simprocAttr, h1, h2]; first | done | rfl
  case hv => first | rfl | (simp only [go_sem]; done)
  case hh => first | rfl | (simp only [go_sem]; done)
  try simp only [go_sem, simprocAttr, h1, h2]
  repeat' (refine And.intro (by first | omega | (exact ⟨[0, 1, 3, 0, 8, 31, 31, 127, 255, 511], by kernel_rfl⟩) | kernel_rfl) ?_)
  refine hK _ _ (.mk (awl_live' [1, 2] fun ρ hL => ?_))
  try simp only [go_sem, simprocAttr, h1, h2] at hL
  try clear h1 h2
  obtain ⟨h1, h2⟩ := hL
  clear hK K
  refine awl_seq ?_
  refine awl_regS [(some 11, (.load 46 (.tmp 1)), none), (none, (.store 46 (.tmp 2) (.tmp 11)), none)] rfl fun K hK => ?_
  try simp only [go_sem, simprocAttr, h1, h2]
  repeat' (refine And.intro (by first | rfl | omega | (simp; done)) ?_)
  refine hK _ _ (.mk (awl_live' [2] fun ρ hL => ?_))
  try simp only [go_sem, simprocAttr, h1, h2] at hL
  try clear h1 h2
  have h2 := hL
  clear hL
  clear hK K
  refine awl_ret ?_
  refine retK [2, 3, 4] [2, 3, 4] rfl (by simp only [go_sem, simprocAttr, h2]; exact rfl) (by decide) (by first | rfl | (simp only [go_sem, simprocAttr, h2]; first | done | rfl)) (by first | rfl | (simp only [go_sem, simprocAttr, h2]; first | done | rfl)) ?_ ?_
  all_goals try simp only [go_sem, simprocAttr, h2]
  all_goals (first | done | rfl | (simp; done) | (simp [inR]; done) | (simp_all [inR]; done) | (simp [inR]; grind))
end Go.Proofs.Ytgddflnhibhacaa.AM
