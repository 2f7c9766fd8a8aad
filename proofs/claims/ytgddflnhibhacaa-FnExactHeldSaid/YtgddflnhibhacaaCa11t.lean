/- Entries copied by the laws. No conditions but those each theorem bears. -/
import Derived.Test.YtgddflnhibhacaaFa
import Derived.Test.YtgddflnhibhacaaM4
import Derived.Test.YtgddflnhibhacaaCa3
set_option linter.unusedSimpArgs false
set_option linter.unusedVariables false
namespace Go.Proofs.Ytgddflnhibhacaa.AM
open Go

set_option maxHeartbeats 8000000 in
set_option maxRecDepth 100000 in
theorem sat_laws_toIns (x : Ins)  : Sat Try.prog 143 [.agg x.cells] [] (.agg x.cells) [] := by
  refine sat_mk [.cell 2 94] 0 20 Try.call143 Try.func143 Try.ntmps143 rfl rfl rfl rfl rfl ?_
  refine awl_live' [0] fun ρ hL => ?_
  try simp only [go_sem, simprocAttr] at hL
  have h0 := hL
  clear hL
  refine awl_seq ?_
  refine awl_regS [(some 1, (.box 130 (.tmp 0)), none), (some 2, (.alloc 94), none)] rfl fun K hK => ?_
  try simp only [go_sem, simprocAttr, h0]
  repeat' (refine And.intro (by first | rfl | omega | (simp; done)) ?_)
  refine hK _ _ (.mk (awl_live' [1, 2] fun ρ hL => ?_))
  try simp only [go_sem, simprocAttr, h0] at hL
  try clear h0
  obtain ⟨h1, h2⟩ := hL
  clear hK K
  refine awl_seq ?_
  refine awl_regS [(some 3, (.alloc 94), none)] rfl fun K hK => ?_
  try simp only [go_sem, simprocAttr, h1, h2]
  repeat' (refine And.intro (by first | rfl | omega | (simp; done)) ?_)
  refine hK _ _ (.mk (awl_live' [1, 2, 3] fun ρ hL => ?_))
  try simp only [go_sem, simprocAttr, h1, h2] at hL
  try clear h1 h2
  obtain ⟨h1, h2, h3⟩ := hL
  clear hK K
  refine awl_seq ?_
  refine awl_regS [(some 4, (.fieldAddr 130 (.tmp 1) 0), none), (some 5, (.load 3 (.tmp 4)), none), (some 6, (.fieldAddr 94 (.tmp 3) 0), none), (none, (.store 3 (.tmp 6) (.tmp 5)), none)] rfl fun K hK => ?_
  try simp only [go_sem, simprocAttr, h1, h2, h3]
  repeat' (refine And.intro (by first | rfl | omega | (simp; done)) ?_)
  refine hK _ _ (.mk (awl_live' [1, 2, 3] fun ρ hL => ?_))
  try simp only [go_sem, simprocAttr, h1, h2, h3] at hL
  try clear h1 h2 h3
  obtain ⟨h1, h2, h3⟩ := hL
  clear hK K
  refine awl_seq ?_
  refine awl_regS [(some 7, (.fieldAddr 130 (.tmp 1) 1), none), (some 8, (.load 3 (.tmp 7)), none), (some 9, (.fieldAddr 94 (.tmp 3) 1), none), (none, (.store 3 (.tmp 9) (.tmp 8)), none)] rfl fun K hK => ?_
  try simp only [go_sem, simprocAttr, h1, h2, h3]
  repeat' (refine And.intro (by first | rfl | omega | (simp; done)) ?_)
  refine hK _ _ (.mk (awl_live' [1, 2, 3] fun ρ hL => ?_))
  try simp only [go_sem, simprocAttr, h1, h2, h3] at hL
  try clear h1 h2 h3
  obtain ⟨h1, h2, h3⟩ := hL
  clear hK K
  refine awl_seq ?_
  refine awl_regS [(some 10, (.fieldAddr 130 (.tmp 1) 2), none), (some 11, (.load 3 (.tmp 10)), none), (some 12, (.fieldAddr 94 (.tmp 3) 2), none), (none, (.store 3 (.tmp 12) (.tmp 11)), none)] rfl fun K hK => ?_
  try simp only [go_sem, simprocAttr, h1, h2, h3]
  repeat' (refine And.intro (by first | rfl | omega | (simp; done)) ?_)
  refine hK _ _ (.mk (awl_live' [1, 2, 3] fun ρ hL => ?_))
  try simp only [go_sem, simprocAttr, h1, h2, h3] at hL
  try clear h1 h2 h3
  obtain ⟨h1, h2, h3⟩ := hL
  clear hK K
  refine awl_seq ?_
  refine awl_regS [(some 13, (.fieldAddr 130 (.tmp 1) 3), none), (some 14, (.load 3 (.tmp 13)), none), (some 15, (.fieldAddr 94 (.tmp 3) 3), none), (none, (.store 3 (.tmp 15) (.tmp 14)), none)] rfl fun K hK => ?_
  try simp only [go_sem, simprocAttr, h1, h2, h3]
  repeat' (refine And.intro (by first | rfl | omega | (simp; done)) ?_)
  refine hK _ _ (.mk (awl_live' [1, 2, 3] fun ρ hL => ?_))
  try simp only [go_sem, simprocAttr, h1, h2, h3] at hL
  try clear h1 h2 h3
  obtain ⟨h1, h2, h3⟩ := hL
  clear hK K
  refine awl_seq ?_
  refine awl_regS [(some 16, (.fieldAddr 130 (.tmp 1) 4), none), (some 17, (.load 3 (.tmp 16)), none), (some 18, (.fieldAddr 94 (.tmp 3) 4), none), (none, (.store 3 (.tmp 18) (.tmp 17)), none)] rfl fun K hK => ?_
  try simp only [go_sem, simprocAttr, h1, h2, h3]
  repeat' (refine And.intro (by first | rfl | omega | (simp; done)) ?_)
  refine hK _ _ (.mk (awl_live' [2, 3] fun ρ hL => ?_))
  try simp only [go_sem, simprocAttr, h1, h2, h3] at hL
  try clear h1 h2 h3
  obtain ⟨h2, h3⟩ := hL
  clear hK K
  refine awl_seq ?_
  refine awl_regS [(some 19, (.load 94 (.tmp 3)), none), (none, (.store 94 (.tmp 2) (.tmp 19)), none)] rfl fun K hK => ?_
  try simp only [go_sem, simprocAttr, h2, h3]
  repeat' (refine And.intro (by first | rfl | omega | (simp; done)) ?_)
  refine hK _ _ (.mk (awl_live' [2] fun ρ hL => ?_))
  try simp only [go_sem, simprocAttr, h2, h3] at hL
  try clear h2 h3
  have h2 := hL
  clear hL
  clear hK K
  refine awl_ret ?_
  refine ret0 (by simp only [go_sem, simprocAttr, h2]; exact rfl) ?_
  try simp only [go_sem, simprocAttr]
  all_goals (first | done | rfl | (simp; done) | (simp [inR]; done) | (simp_all [inR]; done) | (simp [inR]; grind))
set_option maxHeartbeats 8000000 in
set_option maxRecDepth 100000 in
theorem sat_laws_toEffect (x : Fx)  : Sat Try.prog 144 [.agg x.cells] [] (.agg x.cells) [] := by
  refine sat_mk [.cell 2 92] 0 29 Try.call144 Try.func144 Try.ntmps144 rfl rfl rfl rfl rfl ?_
  refine awl_live' [0] fun ρ hL => ?_
  try simp only [go_sem, simprocAttr] at hL
  have h0 := hL
  clear hL
  refine awl_seq ?_
  refine awl_regS [(some 1, (.box 132 (.tmp 0)), none), (some 2, (.alloc 92), none)] rfl fun K hK => ?_
  try simp only [go_sem, simprocAttr, h0]
  repeat' (refine And.intro (by first | rfl | omega | (simp; done)) ?_)
  refine hK _ _ (.mk (awl_live' [1, 2] fun ρ hL => ?_))
  try simp only [go_sem, simprocAttr, h0] at hL
  try clear h0
  obtain ⟨h1, h2⟩ := hL
  clear hK K
  refine awl_seq ?_
  refine awl_regS [(some 3, (.alloc 92), none)] rfl fun K hK => ?_
  try simp only [go_sem, simprocAttr, h1, h2]
  repeat' (refine And.intro (by first | rfl | omega | (simp; done)) ?_)
  refine hK _ _ (.mk (awl_live' [1, 2, 3] fun ρ hL => ?_))
  try simp only [go_sem, simprocAttr, h1, h2] at hL
  try clear h1 h2
  obtain ⟨h1, h2, h3⟩ := hL
  clear hK K
  refine awl_seq ?_
  refine awl_regS [(some 4, (.fieldAddr 132 (.tmp 1) 0), none), (some 5, (.load 3 (.tmp 4)), none), (some 6, (.fieldAddr 92 (.tmp 3) 0), none), (none, (.store 3 (.tmp 6) (.tmp 5)), none)] rfl fun K hK => ?_
  try simp only [go_sem, simprocAttr, h1, h2, h3]
  repeat' (refine And.intro (by first | rfl | omega | (simp; done)) ?_)
  refine hK _ _ (.mk (awl_live' [1, 2, 3] fun ρ hL => ?_))
  try simp only [go_sem, simprocAttr, h1, h2, h3] at hL
  try clear h1 h2 h3
  obtain ⟨h1, h2, h3⟩ := hL
  clear hK K
  refine awl_seq ?_
  refine awl_regS [(some 7, (.fieldAddr 132 (.tmp 1) 1), none), (some 8, (.load 3 (.tmp 7)), none), (some 9, (.fieldAddr 92 (.tmp 3) 1), none), (none, (.store 3 (.tmp 9) (.tmp 8)), none)] rfl fun K hK => ?_
  try simp only [go_sem, simprocAttr, h1, h2, h3]
  repeat' (refine And.intro (by first | rfl | omega | (simp; done)) ?_)
  refine hK _ _ (.mk (awl_live' [1, 2, 3] fun ρ hL => ?_))
  try simp only [go_sem, simprocAttr, h1, h2, h3] at hL
  try clear h1 h2 h3
  obtain ⟨h1, h2, h3⟩ := hL
  clear hK K
  refine awl_seq ?_
  refine awl_regS [(some 10, (.fieldAddr 132 (.tmp 1) 2), none), (some 11, (.load 31 (.tmp 10)), none), (some 12, (.call ⟨(.value (.func 35)), #[(.tmp 11)], #[31]⟩), none), (some 13, (.fieldAddr 92 (.tmp 3) 2), none), (none, (.store 42 (.tmp 13) (.tmp 12)), none)] rfl fun K hK => ?_
  try simp only [go_sem, simprocAttr, h1, h2, h3]
  repeat' (refine And.intro (by first | rfl | omega | (simp; done)) ?_)
  refine opS_call_ro rfl (sat_laws_toWord ?_) ?ha ?hv ?hh ?_
  case ha => simp only [go_sem, simprocAttr, h1, h2, h3]; first | done | rfl
  case hv => first | rfl | (simp only [go_sem]; done)
  case hh => first | rfl | (simp only [go_sem]; done)
  try simp only [go_sem, simprocAttr, h1, h2, h3]
  repeat' (refine And.intro (by first | rfl | omega | (simp; done)) ?_)
  refine hK _ _ (.mk (awl_live' [1, 2, 3] fun ρ hL => ?_))
  try simp only [go_sem, simprocAttr, h1, h2, h3] at hL
  try clear h1 h2 h3
  obtain ⟨h1, h2, h3⟩ := hL
  clear hK K
  refine awl_seq ?_
  refine awl_regS [(some 14, (.fieldAddr 132 (.tmp 1) 3), none), (some 15, (.load 31 (.tmp 14)), none), (some 16, (.call ⟨(.value (.func 35)), #[(.tmp 15)], #[31]⟩), none), (some 17, (.fieldAddr 92 (.tmp 3) 3), none), (none, (.store 42 (.tmp 17) (.tmp 16)), none)] rfl fun K hK => ?_
  try simp only [go_sem, simprocAttr, h1, h2, h3]
  repeat' (refine And.intro (by first | rfl | omega | (simp; done)) ?_)
  refine opS_call_ro rfl (sat_laws_toWord ?_) ?ha ?hv ?hh ?_
  case ha => simp only [go_sem, simprocAttr, h1, h2, h3]; first | done | rfl
  case hv => first | rfl | (simp only [go_sem]; done)
  case hh => first | rfl | (simp only [go_sem]; done)
  try simp only [go_sem, simprocAttr, h1, h2, h3]
  repeat' (refine And.intro (by first | rfl | omega | (simp; done)) ?_)
  refine hK _ _ (.mk (awl_live' [1, 2, 3] fun ρ hL => ?_))
  try simp only [go_sem, simprocAttr, h1, h2, h3] at hL
  try clear h1 h2 h3
  obtain ⟨h1, h2, h3⟩ := hL
  clear hK K
  refine awl_seq ?_
  refine awl_regS [(some 18, (.fieldAddr 132 (.tmp 1) 4), none), (some 19, (.load 3 (.tmp 18)), none), (some 20, (.fieldAddr 92 (.tmp 3) 4), none), (none, (.store 3 (.tmp 20) (.tmp 19)), none)] rfl fun K hK => ?_
  try simp only [go_sem, simprocAttr, h1, h2, h3]
  repeat' (refine And.intro (by first | rfl | omega | (simp; done)) ?_)
  refine hK _ _ (.mk (awl_live' [1, 2, 3] fun ρ hL => ?_))
  try simp only [go_sem, simprocAttr, h1, h2, h3] at hL
  try clear h1 h2 h3
  obtain ⟨h1, h2, h3⟩ := hL
  clear hK K
  refine awl_seq ?_
  refine awl_regS [(some 21, (.fieldAddr 132 (.tmp 1) 5), none), (some 22, (.load 31 (.tmp 21)), none), (some 23, (.call ⟨(.value (.func 35)), #[(.tmp 22)], #[31]⟩), none), (some 24, (.fieldAddr 92 (.tmp 3) 5), none), (none, (.store 42 (.tmp 24) (.tmp 23)), none)] rfl fun K hK => ?_
  try simp only [go_sem, simprocAttr, h1, h2, h3]
  repeat' (refine And.intro (by first | rfl | omega | (simp; done)) ?_)
  refine opS_call_ro rfl (sat_laws_toWord ?_) ?ha ?hv ?hh ?_
  case ha => simp only [go_sem, simprocAttr, h1, h2, h3]; first | done | rfl
  case hv => first | rfl | (simp only [go_sem]; done)
  case hh => first | rfl | (simp only [go_sem]; done)
  try simp only [go_sem, simprocAttr, h1, h2, h3]
  repeat' (refine And.intro (by first | rfl | omega | (simp; done)) ?_)
  refine hK _ _ (.mk (awl_live' [1, 2, 3] fun ρ hL => ?_))
  try simp only [go_sem, simprocAttr, h1, h2, h3] at hL
  try clear h1 h2 h3
  obtain ⟨h1, h2, h3⟩ := hL
  clear hK K
  refine awl_seq ?_
  refine awl_regS [(some 25, (.fieldAddr 132 (.tmp 1) 6), none), (some 26, (.load 3 (.tmp 25)), none), (some 27, (.fieldAddr 92 (.tmp 3) 6), none), (none, (.store 3 (.tmp 27) (.tmp 26)), none)] rfl fun K hK => ?_
  try simp only [go_sem, simprocAttr, h1, h2, h3]
  repeat' (refine And.intro (by first | rfl | omega | (simp; done)) ?_)
  refine hK _ _ (.mk (awl_live' [2, 3] fun ρ hL => ?_))
  try simp only [go_sem, simprocAttr, h1, h2, h3] at hL
  try clear h1 h2 h3
  obtain ⟨h2, h3⟩ := hL
  clear hK K
  refine awl_seq ?_
  refine awl_regS [(some 28, (.load 92 (.tmp 3)), none), (none, (.store 92 (.tmp 2) (.tmp 28)), none)] rfl fun K hK => ?_
  try simp only [go_sem, simprocAttr, h2, h3]
  repeat' (refine And.intro (by first | rfl | omega | (simp; done)) ?_)
  refine hK _ _ (.mk (awl_live' [2] fun ρ hL => ?_))
  try simp only [go_sem, simprocAttr, h2, h3] at hL
  try clear h2 h3
  have h2 := hL
  clear hL
  clear hK K
  refine awl_ret ?_
  refine ret0 (by simp only [go_sem, simprocAttr, h2]; exact rfl) ?_
  try simp only [go_sem, simprocAttr]
  all_goals (first | done | rfl | (simp; done) | (simp [inR]; done) | (simp_all [inR]; done) | (simp [inR]; grind))
set_option maxHeartbeats 8000000 in
set_option maxRecDepth 100000 in
theorem sat_laws_toEntry (x : Ent)  : Sat Try.prog 115 [.agg x.cells] [] (.agg x.cells) [] := by
  refine sat_mk [.cell 2 96] 0 24 Try.call115 Try.func115 Try.ntmps115 rfl rfl rfl rfl rfl ?_
  refine awl_live' [0] fun ρ hL => ?_
  try simp only [go_sem, simprocAttr] at hL
  have h0 := hL
  clear hL
  refine awl_seq ?_
  refine awl_regS [(some 1, (.box 134 (.tmp 0)), none), (some 2, (.alloc 96), none)] rfl fun K hK => ?_
  try simp only [go_sem, simprocAttr, h0]
  repeat' (refine And.intro (by first | rfl | omega | (simp; done)) ?_)
  refine hK _ _ (.mk (awl_live' [1, 2] fun ρ hL => ?_))
  try simp only [go_sem, simprocAttr, h0] at hL
  try clear h0
  obtain ⟨h1, h2⟩ := hL
  clear hK K
  refine awl_seq ?_
  refine awl_regS [(some 3, (.alloc 96), none)] rfl fun K hK => ?_
  try simp only [go_sem, simprocAttr, h1, h2]
  repeat' (refine And.intro (by first | rfl | omega | (simp; done)) ?_)
  refine hK _ _ (.mk (awl_live' [1, 2, 3] fun ρ hL => ?_))
  try simp only [go_sem, simprocAttr, h1, h2] at hL
  try clear h1 h2
  obtain ⟨h1, h2, h3⟩ := hL
  clear hK K
  refine awl_seq ?_
  refine awl_regS [(some 4, (.fieldAddr 134 (.tmp 1) 0), none), (some 5, (.load 31 (.tmp 4)), none), (some 6, (.call ⟨(.value (.func 35)), #[(.tmp 5)], #[31]⟩), none), (some 7, (.fieldAddr 96 (.tmp 3) 0), none), (none, (.store 42 (.tmp 7) (.tmp 6)), none)] rfl fun K hK => ?_
  try simp only [go_sem, simprocAttr, h1, h2, h3]
  repeat' (refine And.intro (by first | rfl | omega | (simp; done)) ?_)
  refine opS_call_ro rfl (sat_laws_toWord ?_) ?ha ?hv ?hh ?_
  case ha => simp only [go_sem, simprocAttr, h1, h2, h3]; first | done | rfl
  case hv => first | rfl | (simp only [go_sem]; done)
  case hh => first | rfl | (simp only [go_sem]; done)
  try simp only [go_sem, simprocAttr, h1, h2, h3]
  repeat' (refine And.intro (by first | rfl | omega | (simp; done)) ?_)
  refine hK _ _ (.mk (awl_live' [1, 2, 3] fun ρ hL => ?_))
  try simp only [go_sem, simprocAttr, h1, h2, h3] at hL
  try clear h1 h2 h3
  obtain ⟨h1, h2, h3⟩ := hL
  clear hK K
  refine awl_seq ?_
  refine awl_regS [(some 8, (.fieldAddr 134 (.tmp 1) 1), none), (some 9, (.load 130 (.tmp 8)), none), (some 10, (.call ⟨(.value (.func 143)), #[(.tmp 9)], #[130]⟩), none), (some 11, (.fieldAddr 96 (.tmp 3) 1), none), (none, (.store 94 (.tmp 11) (.tmp 10)), none)] rfl fun K hK => ?_
  try simp only [go_sem, simprocAttr, h1, h2, h3]
  repeat' (refine And.intro (by first | rfl | omega | (simp; done)) ?_)
  refine opS_call_ro rfl (sat_laws_toIns ?_) ?ha ?hv ?hh ?_
  case ha => simp only [go_sem, simprocAttr, h1, h2, h3]; first | done | rfl
  case hv => first | rfl | (simp only [go_sem]; done)
  case hh => first | rfl | (simp only [go_sem]; done)
  try simp only [go_sem, simprocAttr, h1, h2, h3]
  repeat' (refine And.intro (by first | rfl | omega | (simp; done)) ?_)
  refine hK _ _ (.mk (awl_live' [1, 2, 3] fun ρ hL => ?_))
  try simp only [go_sem, simprocAttr, h1, h2, h3] at hL
  try clear h1 h2 h3
  obtain ⟨h1, h2, h3⟩ := hL
  clear hK K
  refine awl_seq ?_
  refine awl_regS [(some 12, (.fieldAddr 134 (.tmp 1) 2), none), (some 13, (.load 4 (.tmp 12)), none), (some 14, (.fieldAddr 96 (.tmp 3) 2), none), (none, (.store 4 (.tmp 14) (.tmp 13)), none)] rfl fun K hK => ?_
  try simp only [go_sem, simprocAttr, h1, h2, h3]
  repeat' (refine And.intro (by first | rfl | omega | (simp; done)) ?_)
  refine hK _ _ (.mk (awl_live' [1, 2, 3] fun ρ hL => ?_))
  try simp only [go_sem, simprocAttr, h1, h2, h3] at hL
  try clear h1 h2 h3
  obtain ⟨h1, h2, h3⟩ := hL
  clear hK K
  refine awl_seq ?_
  refine awl_regS [(some 15, (.fieldAddr 134 (.tmp 1) 3), none), (some 16, (.load 132 (.tmp 15)), none), (some 17, (.call ⟨(.value (.func 144)), #[(.tmp 16)], #[132]⟩), none), (some 18, (.fieldAddr 96 (.tmp 3) 3), none), (none, (.store 92 (.tmp 18) (.tmp 17)), none)] rfl fun K hK => ?_
  try simp only [go_sem, simprocAttr, h1, h2, h3]
  repeat' (refine And.intro (by first | rfl | omega | (simp; done)) ?_)
  refine opS_call_ro rfl (sat_laws_toEffect ?_) ?ha ?hv ?hh ?_
  case ha => simp only [go_sem, simprocAttr, h1, h2, h3]; first | done | rfl
  case hv => first | rfl | (simp only [go_sem]; done)
  case hh => first | rfl | (simp only [go_sem]; done)
  try simp only [go_sem, simprocAttr, h1, h2, h3]
  repeat' (refine And.intro (by first | rfl | omega | (simp; done)) ?_)
  refine hK _ _ (.mk (awl_live' [1, 2, 3] fun ρ hL => ?_))
  try simp only [go_sem, simprocAttr, h1, h2, h3] at hL
  try clear h1 h2 h3
  obtain ⟨h1, h2, h3⟩ := hL
  clear hK K
  refine awl_seq ?_
  refine awl_regS [(some 19, (.fieldAddr 134 (.tmp 1) 4), none), (some 20, (.load 31 (.tmp 19)), none), (some 21, (.call ⟨(.value (.func 35)), #[(.tmp 20)], #[31]⟩), none), (some 22, (.fieldAddr 96 (.tmp 3) 4), none), (none, (.store 42 (.tmp 22) (.tmp 21)), none)] rfl fun K hK => ?_
  try simp only [go_sem, simprocAttr, h1, h2, h3]
  repeat' (refine And.intro (by first | rfl | omega | (simp; done)) ?_)
  refine opS_call_ro rfl (sat_laws_toWord ?_) ?ha ?hv ?hh ?_
  case ha => simp only [go_sem, simprocAttr, h1, h2, h3]; first | done | rfl
  case hv => first | rfl | (simp only [go_sem]; done)
  case hh => first | rfl | (simp only [go_sem]; done)
  try simp only [go_sem, simprocAttr, h1, h2, h3]
  repeat' (refine And.intro (by first | rfl | omega | (simp; done)) ?_)
  refine hK _ _ (.mk (awl_live' [2, 3] fun ρ hL => ?_))
  try simp only [go_sem, simprocAttr, h1, h2, h3] at hL
  try clear h1 h2 h3
  obtain ⟨h2, h3⟩ := hL
  clear hK K
  refine awl_seq ?_
  refine awl_regS [(some 23, (.load 96 (.tmp 3)), none), (none, (.store 96 (.tmp 2) (.tmp 23)), none)] rfl fun K hK => ?_
  try simp only [go_sem, simprocAttr, h2, h3]
  repeat' (refine And.intro (by first | rfl | omega | (simp; done)) ?_)
  refine hK _ _ (.mk (awl_live' [2] fun ρ hL => ?_))
  try simp only [go_sem, simprocAttr, h2, h3] at hL
  try clear h2 h3
  have h2 := hL
  clear hL
  clear hK K
  refine awl_ret ?_
  refine ret0 (by simp only [go_sem, simprocAttr, h2]; exact rfl) ?_
  try simp only [go_sem, simprocAttr]
  all_goals (first | done | rfl | (simp; done) | (simp [inR]; done) | (simp_all [inR]; done) | (simp [inR]; grind))
end Go.Proofs.Ytgddflnhibhacaa.AM
