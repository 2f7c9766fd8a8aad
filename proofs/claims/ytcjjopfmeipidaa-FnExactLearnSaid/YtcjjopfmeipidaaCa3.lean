/- Words, and what is learnt. No conditions but those each theorem bears. -/
import Derived.Test.YtcjjopfmeipidaaFa
import Derived.Test.YtcjjopfmeipidaaSp2
import Derived.Test.YtcjjopfmeipidaaAm23
import Derived.Test.YtcjjopfmeipidaaCa2
set_option linter.unusedSimpArgs false
set_option linter.unusedVariables false
namespace Go.Proofs.Ytcjjopfmeipidaa.AM
open Go

set_option maxRecDepth 100000 in
theorem sat_laws_toKey (k : Key)  : Sat Try.prog 35 [.agg k.cells] [] (.agg k.cells) [] := by
  refine sat_mk [.cell 2 33] 0 17 Try.call35 Try.func35 Try.ntmps35 rfl rfl rfl rfl rfl ?_
  refine awl_live' [0] fun ρ hL => ?_
  try simp only [go_sem, simprocAttr] at hL
  have h0 := hL
  clear hL
  refine awl_seq ?_
  refine awl_regS [(some 1, (.box 29 (.tmp 0)), none), (some 2, (.alloc 33), none)] rfl fun K hK => ?_
  try simp only [go_sem, simprocAttr, h0]
  repeat' (refine And.intro (by first | rfl | omega | (simp; done)) ?_)
  refine hK _ _ (awl_live' [1, 2] fun ρ hL => ?_)
  try simp only [go_sem, simprocAttr, h0] at hL
  clear h0
  obtain ⟨h1, h2⟩ := hL
  clear hK K
  refine awl_seq ?_
  refine awl_regS [(some 3, (.alloc 33), none)] rfl fun K hK => ?_
  try simp only [go_sem, simprocAttr, h1, h2]
  repeat' (refine And.intro (by first | rfl | omega | (simp; done)) ?_)
  refine hK _ _ (awl_live' [1, 2, 3] fun ρ hL => ?_)
  try simp only [go_sem, simprocAttr, h1, h2] at hL
  clear h1 h2
  obtain ⟨h1, h2, h3⟩ := hL
  clear hK K
  refine awl_seq ?_
  refine awl_regS [(some 4, (.fieldAddr 29 (.tmp 1) 0), none), (some 5, (.load 3 (.tmp 4)), none), (some 6, (.fieldAddr 33 (.tmp 3) 0), none), (none, (.store 3 (.tmp 6) (.tmp 5)), none)] rfl fun K hK => ?_
  try simp only [go_sem, simprocAttr, h1, h2, h3]
  repeat' (refine And.intro (by first | rfl | omega | (simp; done)) ?_)
  refine hK _ _ (awl_live' [1, 2, 3] fun ρ hL => ?_)
  try simp only [go_sem, simprocAttr, h1, h2, h3] at hL
  clear h1 h2 h3
  obtain ⟨h1, h2, h3⟩ := hL
  clear hK K
  refine awl_seq ?_
  refine awl_regS [(some 7, (.fieldAddr 29 (.tmp 1) 1), none), (some 8, (.load 3 (.tmp 7)), none), (some 9, (.fieldAddr 33 (.tmp 3) 1), none), (none, (.store 3 (.tmp 9) (.tmp 8)), none)] rfl fun K hK => ?_
  try simp only [go_sem, simprocAttr, h1, h2, h3]
  repeat' (refine And.intro (by first | rfl | omega | (simp; done)) ?_)
  refine hK _ _ (awl_live' [1, 2, 3] fun ρ hL => ?_)
  try simp only [go_sem, simprocAttr, h1, h2, h3] at hL
  clear h1 h2 h3
  obtain ⟨h1, h2, h3⟩ := hL
  clear hK K
  refine awl_seq ?_
  refine awl_regS [(some 10, (.fieldAddr 29 (.tmp 1) 2), none), (some 11, (.load 3 (.tmp 10)), none), (some 12, (.fieldAddr 33 (.tmp 3) 2), none), (none, (.store 3 (.tmp 12) (.tmp 11)), none)] rfl fun K hK => ?_
  try simp only [go_sem, simprocAttr, h1, h2, h3]
  repeat' (refine And.intro (by first | rfl | omega | (simp; done)) ?_)
  refine hK _ _ (awl_live' [1, 2, 3] fun ρ hL => ?_)
  try simp only [go_sem, simprocAttr, h1, h2, h3] at hL
  clear h1 h2 h3
  obtain ⟨h1, h2, h3⟩ := hL
  clear hK K
  refine awl_seq ?_
  refine awl_regS [(some 13, (.fieldAddr 29 (.tmp 1) 3), none), (some 14, (.load 3 (.tmp 13)), none), (some 15, (.fieldAddr 33 (.tmp 3) 3), none), (none, (.store 3 (.tmp 15) (.tmp 14)), none)] rfl fun K hK => ?_
  try simp only [go_sem, simprocAttr, h1, h2, h3]
  repeat' (refine And.intro (by first | rfl | omega | (simp; done)) ?_)
  refine hK _ _ (awl_live' [2, 3] fun ρ hL => ?_)
  try simp only [go_sem, simprocAttr, h1, h2, h3] at hL
  clear h1 h2 h3
  obtain ⟨h2, h3⟩ := hL
  clear hK K
  refine awl_seq ?_
  refine awl_regS [(some 16, (.load 33 (.tmp 3)), none), (none, (.store 33 (.tmp 2) (.tmp 16)), none)] rfl fun K hK => ?_
  try simp only [go_sem, simprocAttr, h2, h3]
  repeat' (refine And.intro (by first | rfl | omega | (simp; done)) ?_)
  refine hK _ _ (awl_live' [2] fun ρ hL => ?_)
  try simp only [go_sem, simprocAttr, h2, h3] at hL
  clear h2 h3
  have h2 := hL
  clear hL
  clear hK K
  refine awl_ret ?_
  refine ret0 (by simp only [go_sem, simprocAttr, h2]; exact rfl) ?_
  try simp only [go_sem, simprocAttr]
  all_goals (first | rfl | trivial | (simp; done))
set_option maxRecDepth 100000 in
theorem sat_laws_toWord (w : Word)  : Sat Try.prog 16 [.agg w.cells] [] (.agg w.cells) [] := by
  refine sat_mk [.cell 2 35] 0 15 Try.call16 Try.func16 Try.ntmps16 rfl rfl rfl rfl rfl ?_
  refine awl_live' [0] fun ρ hL => ?_
  try simp only [go_sem, simprocAttr] at hL
  have h0 := hL
  clear hL
  refine awl_seq ?_
  refine awl_regS [(some 1, (.box 31 (.tmp 0)), none), (some 2, (.alloc 35), none)] rfl fun K hK => ?_
  try simp only [go_sem, simprocAttr, h0]
  repeat' (refine And.intro (by first | rfl | omega | (simp; done)) ?_)
  refine hK _ _ (awl_live' [1, 2] fun ρ hL => ?_)
  try simp only [go_sem, simprocAttr, h0] at hL
  clear h0
  obtain ⟨h1, h2⟩ := hL
  clear hK K
  refine awl_seq ?_
  refine awl_regS [(some 3, (.alloc 35), none)] rfl fun K hK => ?_
  try simp only [go_sem, simprocAttr, h1, h2]
  repeat' (refine And.intro (by first | rfl | omega | (simp; done)) ?_)
  refine hK _ _ (awl_live' [1, 2, 3] fun ρ hL => ?_)
  try simp only [go_sem, simprocAttr, h1, h2] at hL
  clear h1 h2
  obtain ⟨h1, h2, h3⟩ := hL
  clear hK K
  refine awl_seq ?_
  refine awl_regS [(some 4, (.fieldAddr 31 (.tmp 1) 0), none), (some 5, (.load 3 (.tmp 4)), none), (some 6, (.fieldAddr 35 (.tmp 3) 0), none), (none, (.store 3 (.tmp 6) (.tmp 5)), none)] rfl fun K hK => ?_
  try simp only [go_sem, simprocAttr, h1, h2, h3]
  repeat' (refine And.intro (by first | rfl | omega | (simp; done)) ?_)
  refine hK _ _ (awl_live' [1, 2, 3] fun ρ hL => ?_)
  try simp only [go_sem, simprocAttr, h1, h2, h3] at hL
  clear h1 h2 h3
  obtain ⟨h1, h2, h3⟩ := hL
  clear hK K
  refine awl_seq ?_
  refine awl_regS [(some 7, (.fieldAddr 31 (.tmp 1) 1), none), (some 8, (.load 4 (.tmp 7)), none), (some 9, (.fieldAddr 35 (.tmp 3) 1), none), (none, (.store 4 (.tmp 9) (.tmp 8)), none)] rfl fun K hK => ?_
  try simp only [go_sem, simprocAttr, h1, h2, h3]
  repeat' (refine And.intro (by first | rfl | omega | (simp; done)) ?_)
  refine hK _ _ (awl_live' [1, 2, 3] fun ρ hL => ?_)
  try simp only [go_sem, simprocAttr, h1, h2, h3] at hL
  clear h1 h2 h3
  obtain ⟨h1, h2, h3⟩ := hL
  clear hK K
  refine awl_seq ?_
  refine awl_regS [(some 10, (.fieldAddr 31 (.tmp 1) 2), none), (some 11, (.load 29 (.tmp 10)), none), (some 12, (.call ⟨(.value (.func 35)), #[(.tmp 11)], #[29]⟩), none), (some 13, (.fieldAddr 35 (.tmp 3) 2), none), (none, (.store 33 (.tmp 13) (.tmp 12)), none)] rfl fun K hK => ?_
  try simp only [go_sem, simprocAttr, h1, h2, h3]
  repeat' (refine And.intro (by first | rfl | omega | (simp; done)) ?_)
  refine opS_call_ro rfl (sat_laws_toKey ?_) ?ha ?hv ?hh ?_
  case ha => simp only [go_sem, simprocAttr, h1, h2, h3]; first | done | rfl
  case hv => first | rfl | (simp only [go_sem]; done)
  case hh => first | rfl | (simp only [go_sem]; done)
  try simp only [go_sem, simprocAttr, h1, h2, h3]
  repeat' (refine And.intro (by first | rfl | omega | (simp; done)) ?_)
  refine hK _ _ (awl_live' [2, 3] fun ρ hL => ?_)
  try simp only [go_sem, simprocAttr, h1, h2, h3] at hL
  clear h1 h2 h3
  obtain ⟨h2, h3⟩ := hL
  clear hK K
  refine awl_seq ?_
  refine awl_regS [(some 14, (.load 35 (.tmp 3)), none), (none, (.store 35 (.tmp 2) (.tmp 14)), none)] rfl fun K hK => ?_
  try simp only [go_sem, simprocAttr, h2, h3]
  repeat' (refine And.intro (by first | rfl | omega | (simp; done)) ?_)
  refine hK _ _ (awl_live' [2] fun ρ hL => ?_)
  try simp only [go_sem, simprocAttr, h2, h3] at hL
  clear h2 h3
  have h2 := hL
  clear hL
  clear hK K
  refine awl_ret ?_
  refine ret0 (by simp only [go_sem, simprocAttr, h2]; exact rfl) ?_
  try simp only [go_sem, simprocAttr]
  all_goals (first | rfl | trivial | (simp; done))
set_option maxRecDepth 100000 in
theorem sat_spec_Plain (n : Int)  : Sat Try.prog 34 [.int .i64 n] [] (.agg (plain n).cells) [] := by
  refine sat_mk [.cell 2 35] 0 6 Try.call34 Try.func34 Try.ntmps34 rfl rfl rfl rfl rfl ?_
  refine awl_live' [0] fun ρ hL => ?_
  try simp only [go_sem, simprocAttr] at hL
  have h0 := hL
  clear hL
  refine awl_seq ?_
  refine awl_regS [(some 2, (.alloc 35), none)] rfl fun K hK => ?_
  try simp only [go_sem, simprocAttr, h0]
  repeat' (refine And.intro (by first | rfl | omega | (simp; done)) ?_)
  refine hK _ _ (awl_live' [0, 2] fun ρ hL => ?_)
  try simp only [go_sem, simprocAttr, h0] at hL
  clear h0
  obtain ⟨h0, h2⟩ := hL
  clear hK K
  refine awl_seq ?_
  refine awl_regS [(some 3, (.move (.tmp 0)), none), (some 4, (.binOp .and 3 (.tmp 3) (.const (.int .i64 65535)) 3), none), (some 5, (.build 35 #[(0, (.tmp 4))]), none), (none, (.store 35 (.tmp 2) (.tmp 5)), none)] rfl fun K hK => ?_
  try simp only [go_sem, simprocAttr, h0, h2]
  repeat' (refine And.intro (by first | rfl | omega | (simp; done)) ?_)
  refine hK _ _ (awl_live' [2] fun ρ hL => ?_)
  try simp only [go_sem, simprocAttr, h0, h2] at hL
  clear h0 h2
  have h2 := hL
  clear hL
  clear hK K
  refine awl_ret ?_
  refine ret0 (by simp only [go_sem, simprocAttr, h2]; exact rfl) ?_
  try simp only [go_sem, simprocAttr]
  all_goals (first | rfl | trivial | (simp; done))
set_option maxRecDepth 100000 in
theorem sat_impl_Plain (n : Int)  : Sat Try.prog 52 [.int .i64 n] [] (.agg (plain n).cells) [] := by
  refine sat_mk [.cell 2 35] 0 6 Try.call52 Try.func52 Try.ntmps52 rfl rfl rfl rfl rfl ?_
  refine awl_live' [0] fun ρ hL => ?_
  try simp only [go_sem, simprocAttr] at hL
  have h0 := hL
  clear hL
  refine awl_seq ?_
  refine awl_regS [(some 2, (.alloc 35), none)] rfl fun K hK => ?_
  try simp only [go_sem, simprocAttr, h0]
  repeat' (refine And.intro (by first | rfl | omega | (simp; done)) ?_)
  refine hK _ _ (awl_live' [0, 2] fun ρ hL => ?_)
  try simp only [go_sem, simprocAttr, h0] at hL
  clear h0
  obtain ⟨h0, h2⟩ := hL
  clear hK K
  refine awl_seq ?_
  refine awl_regS [(some 3, (.move (.tmp 0)), none), (some 4, (.binOp .and 3 (.tmp 3) (.const (.int .i64 65535)) 3), none), (some 5, (.build 35 #[(0, (.tmp 4))]), none), (none, (.store 35 (.tmp 2) (.tmp 5)), none)] rfl fun K hK => ?_
  try simp only [go_sem, simprocAttr, h0, h2]
  repeat' (refine And.intro (by first | rfl | omega | (simp; done)) ?_)
  refine hK _ _ (awl_live' [2] fun ρ hL => ?_)
  try simp only [go_sem, simprocAttr, h0, h2] at hL
  clear h0 h2
  have h2 := hL
  clear hL
  clear hK K
  refine awl_ret ?_
  refine ret0 (by simp only [go_sem, simprocAttr, h2]; exact rfl) ?_
  try simp only [go_sem, simprocAttr]
  all_goals (first | rfl | trivial | (simp; done))
set_option maxRecDepth 100000 in
theorem sat_impl_Bare (w : Word)  : Sat Try.prog 37 [.agg w.cells] [] (.agg (plain w.n).cells) [] := by
  refine sat_mk [.cell 2 35] 0 6 Try.call37 Try.func37 Try.ntmps37 rfl rfl rfl rfl rfl ?_
  refine awl_live' [0] fun ρ hL => ?_
  try simp only [go_sem, simprocAttr] at hL
  have h0 := hL
  clear hL
  refine awl_seq ?_
  refine awl_regS [(some 1, (.box 35 (.tmp 0)), none), (some 2, (.alloc 35), none)] rfl fun K hK => ?_
  try simp only [go_sem, simprocAttr, h0]
  repeat' (refine And.intro (by first | rfl | omega | (simp; done)) ?_)
  refine hK _ _ (awl_live' [1, 2] fun ρ hL => ?_)
  try simp only [go_sem, simprocAttr, h0] at hL
  clear h0
  obtain ⟨h1, h2⟩ := hL
  clear hK K
  refine awl_seq ?_
  refine awl_regS [(some 3, (.fieldAddr 35 (.tmp 1) 0), none), (some 4, (.load 3 (.tmp 3)), none), (some 5, (.call ⟨(.value (.func 52)), #[(.tmp 4)], #[3]⟩), none), (none, (.store 35 (.tmp 2) (.tmp 5)), none)] rfl fun K hK => ?_
  try simp only [go_sem, simprocAttr, h1, h2]
  repeat' (refine And.intro (by first | rfl | omega | (simp; done)) ?_)
  refine opS_call_ro rfl (sat_impl_Plain ?_) ?ha ?hv ?hh ?_
  case ha => simp only [go_sem, simprocAttr, h1, h2]; first | done | rfl
  case hv => first | rfl | (simp only [go_sem]; done)
  case hh => first | rfl | (simp only [go_sem]; done)
  try simp only [go_sem, simprocAttr, h1, h2]
  repeat' (refine And.intro (by first | rfl | omega | (simp; done)) ?_)
  refine hK _ _ (awl_live' [2] fun ρ hL => ?_)
  try simp only [go_sem, simprocAttr, h1, h2] at hL
  clear h1 h2
  have h2 := hL
  clear hL
  clear hK K
  refine awl_ret ?_
  refine ret0 (by simp only [go_sem, simprocAttr, h2]; exact rfl) ?_
  try simp only [go_sem, simprocAttr]
  all_goals (first | rfl | trivial | (simp; done))
set_option maxRecDepth 100000 in
theorem sat_slices_Clone_int_int_N   : Sat Try.prog 36 [.nilsl] [] .nilsl [] := by
  refine sat_mk [.tmp 2] 0 8 Try.call36 Try.func36 Try.ntmps36 rfl rfl rfl rfl rfl ?_
  refine awl_live' [0] fun ρ hL => ?_
  try simp only [go_sem, simprocAttr] at hL
  have h0 := hL
  clear hL
  refine awl_seq ?_
  refine awl_regS [(some 2, (.assign (.const (.slice none 0 0))), none)] rfl fun K hK => ?_
  try simp only [go_sem, simprocAttr, h0]
  repeat' (refine And.intro (by first | rfl | omega | (simp; done)) ?_)
  refine hK _ _ (awl_live' [0] fun ρ hL => ?_)
  try simp only [go_sem, simprocAttr, h0] at hL
  clear h0
  have h0 := hL
  clear hL
  clear hK K
  refine awl_seq ?_
  refine awl_seq ?_
  refine awl_regS [(some 3, (.move (.tmp 0)), none), (some 4, (.binOp .eql 24 (.tmp 3) (.const (.slice none 0 0)) 24), none)] rfl fun K hK => ?_
  try simp only [go_sem, simprocAttr, h0]
  repeat' (refine And.intro (by first | rfl | omega | (simp; done)) ?_)
  refine hK _ _ (awl_live' [0, 4] fun ρ hL => ?_)
  try simp only [go_sem, simprocAttr, h0] at hL
  clear h0
  obtain ⟨h0, h4⟩ := hL
  clear hK K
  refine awl_cond h4 (fun c1 => ?_) (fun c1 => ?_)
  ·
    try simp only [cnd] at c1
    refine awl_seq ?_
    refine awl_regS [(some 2, (.assign (.const (.slice none 0 0))), none)] rfl fun K hK => ?_
    try simp only [go_sem, simprocAttr, h0, h4]
    repeat' (refine And.intro (by first | rfl | omega | (simp; done)) ?_)
    refine hK _ _ (awl_live' [2] fun ρ hL => ?_)
    try simp only [go_sem, simprocAttr, h0, h4] at hL
    clear h0 h4
    have h2 := hL
    clear hL
    clear hK K
    refine awl_ret ?_
    refine ret0 (by simp only [go_sem, simprocAttr, h2]; exact rfl) ?_
    try simp only [go_sem, simprocAttr]
    all_goals (first | rfl | trivial | (simp; done))
  ·
    try simp only [cnd] at c1
    simp at c1
set_option maxRecDepth 100000 in
theorem sat_slices_Clone_int_int_S (xs : List Int) (c : Nat) (hb : xs.length ≤ 1099511627776) : Sat Try.prog 36 [.nnsl xs.length c (ints xs)] [] (.slice 0 0 xs.length 0) [⟨1, ints xs, true, false⟩] := by
  refine sat_mk [.tmp 2] 0 8 Try.call36 Try.func36 Try.ntmps36 rfl rfl rfl rfl rfl ?_
  refine awl_live' [0] fun ρ hL => ?_
  try simp only [go_sem, simprocAttr] at hL
  have h0 := hL
  clear hL
  refine awl_seq ?_
  refine awl_regS [(some 2, (.assign (.const (.slice none 0 0))), none)] rfl fun K hK => ?_
  try simp only [go_sem, simprocAttr, h0]
  repeat' (refine And.intro (by first | rfl | omega | (simp; done)) ?_)
  refine hK _ _ (awl_live' [0] fun ρ hL => ?_)
  try simp only [go_sem, simprocAttr, h0] at hL
  clear h0
  have h0 := hL
  clear hL
  clear hK K
  refine awl_seq ?_
  refine awl_seq ?_
  refine awl_regS [(some 3, (.move (.tmp 0)), none), (some 4, (.binOp .eql 24 (.tmp 3) (.const (.slice none 0 0)) 24), none)] rfl fun K hK => ?_
  try simp only [go_sem, simprocAttr, h0]
  repeat' (refine And.intro (by first | rfl | omega | (simp; done)) ?_)
  refine hK _ _ (awl_live' [0, 4] fun ρ hL => ?_)
  try simp only [go_sem, simprocAttr, h0] at hL
  clear h0
  obtain ⟨h0, h4⟩ := hL
  clear hK K
  refine awl_cond h4 (fun c1 => ?_) (fun c1 => ?_)
  ·
    try simp only [cnd] at c1
    simp at c1
  ·
    try simp only [cnd] at c1
    refine awl_skip ?_
    refine awl_seq ?_
    refine awl_regS [(some 5, (.buildSlice 24 0 #[]), none), (some 6, (.move (.tmp 0)), none), (some 7, (.call ⟨(.builtin .append), #[(.tmp 5), (.tmp 6)], #[24, 24]⟩), none), (some 2, (.assign (.tmp 7)), none)] rfl fun K hK => ?_
    try simp only [go_sem, simprocAttr, h0, h4]
    repeat' (refine And.intro (by first | rfl | omega | (simp; done)) ?_)
    refine hK _ _ (awl_live' [2] fun ρ hL => ?_)
    try simp only [go_sem, simprocAttr, h0, h4] at hL
    clear h0 h4
    have h2 := hL
    clear hL
    clear hK K
    refine awl_ret ?_
    refine retK [0] [0] rfl (by simp only [go_sem, simprocAttr, h2]; exact rfl) (by decide) (by first | rfl | (simp only [go_sem, simprocAttr, h2]; first | done | rfl)) (by first | rfl | (simp only [go_sem, simprocAttr, h2]; first | done | rfl)) ?_ ?_
    all_goals try simp only [go_sem, simprocAttr, h2]
    all_goals (first | rfl | trivial | (simp; done))
theorem sat_slices_Clone_int_int (xs : List Int) (c : Nat) (hb : xs.length ≤ 1099511627776) : Sat Try.prog 36 [.sl xs.length c (ints xs)] [] (.slice 0 0 xs.length 0) [⟨1, ints xs, true, false⟩] := by
  refine sat_sl (fun h0 _ => ?_) (sat_slices_Clone_int_int_S xs c hb)
  obtain rfl : xs = [] := List.eq_nil_of_length_eq_zero h0
  exact sat_nil_back sat_slices_Clone_int_int_N
set_option maxRecDepth 100000 in
theorem sat_spec_Learn (xs : List Int) (w : Word) (v : Word) (c : Nat) (hb : xs.length ≤ 1099511627776) : Sat Try.prog 15 [.sl xs.length c (ints xs), .agg w.cells, .agg v.cells] [] (.slice 0 0 xs.length 0) [⟨1, ints (learn xs w v), true, false⟩] := by
  refine sat_mk [.tmp 6] 0 26 Try.call15 Try.func15 Try.ntmps15 rfl rfl rfl rfl rfl ?_
  refine awl_live' [0, 1, 2] fun ρ hL => ?_
  try simp only [go_sem, simprocAttr] at hL
  obtain ⟨h0, h1, h2⟩ := hL
  refine awl_seq ?_
  refine awl_regS [(some 4, (.box 35 (.tmp 1)), none), (some 5, (.box 35 (.tmp 2)), none), (some 6, (.assign (.const (.slice none 0 0))), none)] rfl fun K hK => ?_
  try simp only [go_sem, simprocAttr, h0, h1, h2]
  repeat' (refine And.intro (by first | rfl | omega | (simp; done)) ?_)
  refine hK _ _ (awl_live' [0, 4, 5] fun ρ hL => ?_)
  try simp only [go_sem, simprocAttr, h0, h1, h2] at hL
  clear h0 h1 h2
  obtain ⟨h0, h4, h5⟩ := hL
  clear hK K
  refine awl_seq ?_
  refine awl_regS [(some 8, (.buildSlice 24 0 #[]), none), (some 9, (.move (.tmp 0)), none), (some 10, (.call ⟨(.builtin .append), #[(.tmp 8), (.tmp 9)], #[24, 24]⟩), none), (some 7, (.assign (.tmp 10)), none)] rfl fun K hK => ?_
  try simp only [go_sem, simprocAttr, h0, h4, h5]
  repeat' (refine And.intro (by first | rfl | omega | (simp; done)) ?_)
  refine hK _ _ (awl_live' [0, 4, 5, 7] fun ρ hL => ?_)
  try simp only [go_sem, simprocAttr, h0, h4, h5] at hL
  clear h0 h4 h5
  obtain ⟨h0, h4, h5, h7⟩ := hL
  clear hK K
  refine awl_seq ?_
  refine awl_seq ?_
  have w0 : IntKind.i64.wrap ((xs.length : Int) - 1) = (xs.length : Int) - 1 := wrap64 (by omega)
  refine awl_regS [(some 11, (.fieldAddr 35 (.tmp 4) 0), none), (some 12, (.load 3 (.tmp 11)), none), (some 13, (.move (.tmp 0)), none), (some 14, (.call ⟨(.builtin .len), #[(.tmp 13)], #[24]⟩), none), (some 15, (.binOp .sub 3 (.tmp 14) (.const (.int .i64 1)) 3), none), (some 16, (.call ⟨(.value (.func 30)), #[(.tmp 12), (.const (.int .i64 0)), (.tmp 15)], #[3, 3, 3]⟩), none)] rfl fun K hK => ?_
  try simp only [go_sem, simprocAttr, h0, h4, h5, h7, w0]
  repeat' (refine And.intro (by first | rfl | omega | (simp; done)) ?_)
  refine opS_call_ro rfl (sat_spec_l1In ?_ ?_ ?_) ?ha ?hv ?hh ?_
  case ha => simp only [go_sem, simprocAttr, h0, h4, h5, h7, w0]; first | done | rfl
  case hv => first | rfl | (simp only [go_sem]; done)
  case hh => first | rfl | (simp only [go_sem]; done)
  try simp only [go_sem, simprocAttr, h0, h4, h5, h7, w0]
  repeat' (refine And.intro (by first | rfl | omega | (simp; done)) ?_)
  refine hK _ _ (awl_live' [4, 5, 7, 16] fun ρ hL => ?_)
  try simp only [go_sem, simprocAttr, h0, h4, h5, h7, w0] at hL
  clear h0 h4 h5 h7
  obtain ⟨h4, h5, h7, h16⟩ := hL
  clear hK K
  refine awl_cond h16 (fun c1 => ?_) (fun c1 => ?_)
  ·
    try simp only [cnd] at c1
    have hw := inR_iff.1 c1
    obtain ⟨k, hk⟩ := Int.eq_ofNat_of_zero_le hw.1
    have hk2 : k < xs.length := by omega
    refine awl_regD mixed [(some 17, (.move (.tmp 7)), none), (some 18, (.fieldAddr 35 (.tmp 4) 0), none), (some 19, (.load 3 (.tmp 18)), none), (some 20, (.fieldAddr 35 (.tmp 5) 0), none), (some 21, (.load 3 (.tmp 20)), none), (some 22, (.call ⟨(.value (.func 34)), #[(.tmp 21)], #[3]⟩), none), (some 23, (.field 35 (.tmp 22) 0), none), (some 24, (.indexAddr 24 (.tmp 17) (.tmp 19)), none), (none, (.store 3 (.tmp 24) (.tmp 23)), none)] rfl fun K hK => ?_
    try simp only [go_sem, simprocAttr, h4, h5, h7, h16, hk, put_ints hk2]
    repeat' (refine And.intro (by first | omega | kernel_rfl) ?_)
    refine dS_call_ro rfl (sat_spec_Plain ?_) ?ha ?hv ?hh ?_
    case ha => simp only [go_sem, simprocAttr, h4, h5, h7, h16, hk, put_ints hk2]; first | done | rfl
    case hv => first | rfl | (simp only [go_sem]; done)
    case hh => first | rfl | (simp only [go_sem]; done)
    try simp only [go_sem, simprocAttr, h4, h5, h7, h16, hk, put_ints hk2]
    repeat' (refine And.intro (by first | omega | kernel_rfl) ?_)
    refine hK _ _ (awl_live' [7] fun ρ hL => ?_)
    try simp only [go_sem, simprocAttr, h4, h5, h7, h16, hk, put_ints hk2] at hL
    clear h4 h5 h7 h16
    have h7 := hL
    clear hL
    clear hK K
    refine awl_seq ?_
    refine awl_regS [(some 25, (.move (.tmp 7)), none), (some 6, (.assign (.tmp 25)), none)] rfl fun K hK => ?_
    try simp only [go_sem, simprocAttr, h7]
    repeat' (refine And.intro (by first | rfl | omega | (simp; done)) ?_)
    refine hK _ _ (awl_live' [6] fun ρ hL => ?_)
    try simp only [go_sem, simprocAttr, h7] at hL
    clear h7
    have h6 := hL
    clear hL
    clear hK K
    refine awl_ret ?_
    refine retK [2] [2] rfl (by simp only [go_sem, simprocAttr, h6]; exact rfl) (by decide) (by first | rfl | (simp only [go_sem, simprocAttr, h6]; first | done | rfl)) (by first | rfl | (simp only [go_sem, simprocAttr, h6]; first | done | rfl)) ?_ ?_
    all_goals try simp only [go_sem, simprocAttr, h6]
    all_goals (rw [learn, if_pos c1, hk, Int.toNat_natCast]; first | done | rfl)
  ·
    try simp only [cnd] at c1
    refine awl_skip ?_
    refine awl_seq ?_
    refine awl_regS [(some 25, (.move (.tmp 7)), none), (some 6, (.assign (.tmp 25)), none)] rfl fun K hK => ?_
    try simp only [go_sem, simprocAttr, h4, h5, h7, h16]
    repeat' (refine And.intro (by first | rfl | omega | (simp; done)) ?_)
    refine hK _ _ (awl_live' [6] fun ρ hL => ?_)
    try simp only [go_sem, simprocAttr, h4, h5, h7, h16] at hL
    clear h4 h5 h7 h16
    have h6 := hL
    clear hL
    clear hK K
    refine awl_ret ?_
    refine retK [2] [2] rfl (by simp only [go_sem, simprocAttr, h6]; exact rfl) (by decide) (by first | rfl | (simp only [go_sem, simprocAttr, h6]; first | done | rfl)) (by first | rfl | (simp only [go_sem, simprocAttr, h6]; first | done | rfl)) ?_ ?_
    all_goals try simp only [go_sem, simprocAttr, h6]
    all_goals (rw [learn, if_neg (by simp [c1])])
set_option maxRecDepth 100000 in
theorem sat_impl_Learn (xs : List Int) (w : Word) (v : Word) (c : Nat) (hb : xs.length ≤ 1099511627776) : Sat Try.prog 17 [.sl xs.length c (ints xs), .agg w.cells, .agg v.cells] [] (.slice 0 0 xs.length 0) [⟨1, ints (learn xs w v), true, false⟩] := by
  refine sat_mk [.tmp 6] 0 24 Try.call17 Try.func17 Try.ntmps17 rfl rfl rfl rfl rfl ?_
  refine awl_live' [0, 1, 2] fun ρ hL => ?_
  try simp only [go_sem, simprocAttr] at hL
  obtain ⟨h0, h1, h2⟩ := hL
  refine awl_seq ?_
  refine awl_regS [(some 4, (.box 35 (.tmp 1)), none), (some 5, (.box 35 (.tmp 2)), none), (some 6, (.assign (.const (.slice none 0 0))), none)] rfl fun K hK => ?_
  try simp only [go_sem, simprocAttr, h0, h1, h2]
  repeat' (refine And.intro (by first | rfl | omega | (simp; done)) ?_)
  refine hK _ _ (awl_live' [0, 4, 5] fun ρ hL => ?_)
  try simp only [go_sem, simprocAttr, h0, h1, h2] at hL
  clear h0 h1 h2
  obtain ⟨h0, h4, h5⟩ := hL
  clear hK K
  refine awl_seq ?_
  refine awl_regS [(some 8, (.move (.tmp 0)), none), (some 9, (.call ⟨(.value (.func 36)), #[(.tmp 8)], #[24]⟩), none), (some 7, (.assign (.tmp 9)), none)] rfl fun K hK => ?_
  try simp only [go_sem, simprocAttr, h0, h4, h5]
  repeat' (refine And.intro (by first | rfl | omega | (simp; done)) ?_)
  refine opS_call_ro rfl (sat_slices_Clone_int_int ?_ ?_ ?hp0) ?ha ?hv ?hh ?_
  case ha => simp only [go_sem, simprocAttr, h0, h4, h5]; first | done | rfl
  case hp0 => first | assumption | omega | (simp; done)
  case hv => first | rfl | (simp only [go_sem]; done)
  case hh => first | rfl | (simp only [go_sem]; done)
  try simp only [go_sem, simprocAttr, h0, h4, h5]
  repeat' (refine And.intro (by first | rfl | omega | (simp; done)) ?_)
  refine hK _ _ (awl_live' [0, 4, 5, 7] fun ρ hL => ?_)
  try simp only [go_sem, simprocAttr, h0, h4, h5] at hL
  clear h0 h4 h5
  obtain ⟨h0, h4, h5, h7⟩ := hL
  clear hK K
  refine awl_seq ?_
  refine awl_seq ?_
  have w0 : IntKind.i64.wrap ((xs.length : Int) - 1) = (xs.length : Int) - 1 := wrap64 (by omega)
  refine awl_regS [(some 10, (.fieldAddr 35 (.tmp 4) 0), none), (some 11, (.load 3 (.tmp 10)), none), (some 12, (.move (.tmp 0)), none), (some 13, (.call ⟨(.builtin .len), #[(.tmp 12)], #[24]⟩), none), (some 14, (.binOp .sub 3 (.tmp 13) (.const (.int .i64 1)) 3), none), (some 15, (.call ⟨(.value (.func 31)), #[(.tmp 11), (.const (.int .i64 0)), (.tmp 14)], #[3, 3, 3]⟩), none)] rfl fun K hK => ?_
  try simp only [go_sem, simprocAttr, h0, h4, h5, h7, w0]
  repeat' (refine And.intro (by first | rfl | omega | (simp; done)) ?_)
  refine opS_call_ro rfl (sat_impl_in ?_ ?_ ?_) ?ha ?hv ?hh ?_
  case ha => simp only [go_sem, simprocAttr, h0, h4, h5, h7, w0]; first | done | rfl
  case hv => first | rfl | (simp only [go_sem]; done)
  case hh => first | rfl | (simp only [go_sem]; done)
  try simp only [go_sem, simprocAttr, h0, h4, h5, h7, w0]
  repeat' (refine And.intro (by first | rfl | omega | (simp; done)) ?_)
  refine hK _ _ (awl_live' [4, 5, 7, 15] fun ρ hL => ?_)
  try simp only [go_sem, simprocAttr, h0, h4, h5, h7, w0] at hL
  clear h0 h4 h5 h7
  obtain ⟨h4, h5, h7, h15⟩ := hL
  clear hK K
  refine awl_cond h15 (fun c1 => ?_) (fun c1 => ?_)
  ·
    try simp only [cnd] at c1
    have hw := inR_iff.1 c1
    obtain ⟨k, hk⟩ := Int.eq_ofNat_of_zero_le hw.1
    have hk2 : k < xs.length := by omega
    refine awl_regD mixed [(some 16, (.move (.tmp 7)), none), (some 17, (.fieldAddr 35 (.tmp 4) 0), none), (some 18, (.load 3 (.tmp 17)), none), (some 19, (.load 35 (.tmp 5)), none), (some 20, (.call ⟨(.value (.func 37)), #[(.tmp 19)], #[35]⟩), none), (some 21, (.field 35 (.tmp 20) 0), none), (some 22, (.indexAddr 24 (.tmp 16) (.tmp 18)), none), (none, (.store 3 (.tmp 22) (.tmp 21)), none)] rfl fun K hK => ?_
    try simp only [go_sem, simprocAttr, h4, h5, h7, h15, hk, put_ints hk2]
    repeat' (refine And.intro (by first | omega | kernel_rfl) ?_)
    refine dS_call_ro rfl (sat_impl_Bare ?_) ?ha ?hv ?hh ?_
    case ha => simp only [go_sem, simprocAttr, h4, h5, h7, h15, hk, put_ints hk2]; first | done | rfl
    case hv => first | rfl | (simp only [go_sem]; done)
    case hh => first | rfl | (simp only [go_sem]; done)
    try simp only [go_sem, simprocAttr, h4, h5, h7, h15, hk, put_ints hk2]
    repeat' (refine And.intro (by first | omega | kernel_rfl) ?_)
    refine hK _ _ (awl_live' [7] fun ρ hL => ?_)
    try simp only [go_sem, simprocAttr, h4, h5, h7, h15, hk, put_ints hk2] at hL
    clear h4 h5 h7 h15
    have h7 := hL
    clear hL
    clear hK K
    refine awl_seq ?_
    refine awl_regS [(some 23, (.move (.tmp 7)), none), (some 6, (.assign (.tmp 23)), none)] rfl fun K hK => ?_
    try simp only [go_sem, simprocAttr, h7]
    repeat' (refine And.intro (by first | rfl | omega | (simp; done)) ?_)
    refine hK _ _ (awl_live' [6] fun ρ hL => ?_)
    try simp only [go_sem, simprocAttr, h7] at hL
    clear h7
    have h6 := hL
    clear hL
    clear hK K
    refine awl_ret ?_
    refine retK [2] [2] rfl (by simp only [go_sem, simprocAttr, h6]; exact rfl) (by decide) (by first | rfl | (simp only [go_sem, simprocAttr, h6]; first | done | rfl)) (by first | rfl | (simp only [go_sem, simprocAttr, h6]; first | done | rfl)) ?_ ?_
    all_goals try simp only [go_sem, simprocAttr, h6]
    all_goals (rw [learn, if_pos c1, hk, Int.toNat_natCast]; first | done | rfl)
  ·
    try simp only [cnd] at c1
    refine awl_skip ?_
    refine awl_seq ?_
    refine awl_regS [(some 23, (.move (.tmp 7)), none), (some 6, (.assign (.tmp 23)), none)] rfl fun K hK => ?_
    try simp only [go_sem, simprocAttr, h4, h5, h7, h15]
    repeat' (refine And.intro (by first | rfl | omega | (simp; done)) ?_)
    refine hK _ _ (awl_live' [6] fun ρ hL => ?_)
    try simp only [go_sem, simprocAttr, h4, h5, h7, h15] at hL
    clear h4 h5 h7 h15
    have h6 := hL
    clear hL
    clear hK K
    refine awl_ret ?_
    refine retK [2] [2] rfl (by simp only [go_sem, simprocAttr, h6]; exact rfl) (by decide) (by first | rfl | (simp only [go_sem, simprocAttr, h6]; first | done | rfl)) (by first | rfl | (simp only [go_sem, simprocAttr, h6]; first | done | rfl)) ?_ ?_
    all_goals try simp only [go_sem, simprocAttr, h6]
    all_goals (rw [learn, if_neg (by simp [c1])])
set_option maxRecDepth 100000 in
theorem sat_laws_markIntS (xs : List Int) (t : Int) (c : Nat) (hb : xs.length ≤ 1099511627776) (ht : 0 ≤ t ∧ t ≤ 1099511627776) : Sat Try.prog 18 [.slice 0 0 xs.length c, .int .i64 t] [⟨1, ints xs, true, false⟩] (.int .i64 (t + xs.length)) [⟨1, ints (marks t xs.length), true, false⟩] := by
  refine sat_mk [.tmp 4] 1 19 Try.call18 Try.func18 Try.ntmps18 rfl rfl rfl rfl rfl ?_
  refine awl_live' [0, 1] fun ρ hL => ?_
  try simp only [go_sem, simprocAttr, List.length_append, List.length_drop, marks_len] at hL
  obtain ⟨h0, h1⟩ := hL
  refine awl_seq ?_
  refine awl_regS [(some 4, (.assign (.const (.int .i64 0))), none)] rfl fun K hK => ?_
  try simp only [go_sem, simprocAttr, h0, h1, List.length_append, List.length_drop, marks_len]
  repeat' (refine And.intro (by first | rfl | omega | (simp; done)) ?_)
  refine hK _ _ (awl_live' [0, 1] fun ρ hL => ?_)
  try simp only [go_sem, simprocAttr, h0, h1, List.length_append, List.length_drop, marks_len] at hL
  clear h0 h1
  obtain ⟨h0, h1⟩ := hL
  clear hK K
  refine awl_seq ?_
  refine awl_seq ?_
  refine awl_regS [(some 5, (.assign (.const (.int .i64 0))), none)] rfl fun K hK => ?_
  try simp only [go_sem, simprocAttr, h0, h1, List.length_append, List.length_drop, marks_len]
  repeat' (refine And.intro (by first | rfl | omega | (simp; done)) ?_)
  refine hK _ _ (awl_live' [0, 1, 5] fun ρ hL => ?_)
  try simp only [go_sem, simprocAttr, h0, h1, List.length_append, List.length_drop, marks_len] at hL
  clear h0 h1
  obtain ⟨h0, h1, h5⟩ := hL
  clear hK K
  have e1_0 := h0
  refine awl_loopH (fun H0 n σ G => ∃ (i : Nat), n = xs.length - i ∧ (i ≤ xs.length) ∧ liveE [0] σ ρ ∧ σ 1 = .int .i64 (t + (i : Int)) ∧ σ 5 = .int .i64 (i : Int) ∧ G = [⟨1, ints (marks t i ++ xs.drop i), true, false⟩]) (fun H0 σ G => liveE [] σ ρ ∧ σ 1 = .int .i64 (t + (xs.length : Int)) ∧ G = [⟨1, ints (marks t xs.length), true, false⟩]) ((fun (i : Nat) => xs.length - i) 0) ?init (fun n ρ G hI => ?round) (fun ρ G hJ => ?after)
  case init => exact ⟨0, rfl, (Nat.zero_le _), liveE_refl _ _, (by rw [h1]; simp), (h5), rfl⟩
  case round =>
    obtain ⟨i, hn, i1_0, hL, k1, k5, hG⟩ := hI
    subst hG
    try simp only [go_sem, simprocAttr, h0, h1, h5, List.length_append, List.length_drop, marks_len] at hL
    clear h0 h1 h5
    have h0 := hL
    clear hL
    have h1 := k1
    clear k1
    have h5 := k5
    clear k5
    refine awl_seq ?_
    refine awl_seq ?_
    refine awl_regS [(some 6, (.move (.tmp 5)), none), (some 7, (.move (.tmp 0)), none), (some 8, (.call ⟨(.builtin .len), #[(.tmp 7)], #[24]⟩), none), (some 9, (.binOp .lss 3 (.tmp 6) (.tmp 8) 3), none)] rfl fun K hK => ?_
    try simp only [go_sem, simprocAttr, h0, h1, h5, List.length_append, List.length_drop, marks_len]
    repeat' (refine And.intro (by first | rfl | omega | (simp; done)) ?_)
    refine hK _ _ (awl_live' [0, 1, 5, 9] fun ρ hL => ?_)
    try simp only [go_sem, simprocAttr, h0, h1, h5, List.length_append, List.length_drop, marks_len] at hL
    clear h0 h1 h5
    obtain ⟨h0, h1, h5, h9⟩ := hL
    clear hK K
    refine awl_cond h9 (fun c1 => ?_) (fun c1 => ?_)
    ·
      try simp only [cnd] at c1
      have hi1 : i < xs.length := by omega
      refine awl_skip ?_
      refine awl_seq ?_
      refine awl_block fun R hR => ?_
      refine awl_seq ?_
      refine awl_regS [(some 12, (.move (.tmp 0)), none), (some 13, (.move (.tmp 5)), none), (some 14, (.move (.tmp 1)), none), (some 15, (.indexAddr 24 (.tmp 12) (.tmp 13)), none), (none, (.store 3 (.tmp 15) (.tmp 14)), none)] rfl fun K hK => ?_
      try simp only [go_sem, simprocAttr, h0, h1, h5, h9, hi1, List.length_append, List.length_drop, marks_len]
      repeat' (refine And.intro (by first | rfl | omega | (simp; done)) ?_)
      refine hK _ _ (awl_live' [0, 1, 5] fun ρ hL => ?_)
      try simp only [go_sem, simprocAttr, h0, h1, h5, h9, hi1, List.length_append, List.length_drop, marks_len] at hL
      clear h0 h1 h5 h9
      obtain ⟨h0, h1, h5⟩ := hL
      clear hK K
      have w5 : IntKind.i64.wrap (t + (i : Int) + 1) = t + (i : Int) + 1 := wrap64 (by omega)
      refine awl_regS [(some 16, (.move (.tmp 1)), none), (some 17, (.binOp .add 3 (.tmp 16) (.const (.int .i64 1)) 3), none), (some 1, (.assign (.tmp 17)), none)] rfl fun K hK => ?_
      try simp only [go_sem, simprocAttr, h0, h1, h5, hi1, List.length_append, List.length_drop, marks_len, w5]
      repeat' (refine And.intro (by first | rfl | omega | (simp; done)) ?_)
      refine hK _ _ (awl_live' [0, 1, 5] fun ρ hL => ?_)
      try simp only [go_sem, simprocAttr, h0, h1, h5, hi1, List.length_append, List.length_drop, marks_len, w5] at hL
      clear h0 h1 h5
      obtain ⟨h0, h1, h5⟩ := hL
      clear hK K
      refine awl_nil ?_
      refine blk_normal (hR _ _ ?_)
      have w1 : IntKind.i64.wrap ((i : Int) + 1) = ((i + 1 : Nat) : Int) := by rw [wrap64 (by omega)]; omega
      refine awl_regS [(some 10, (.move (.tmp 5)), none), (some 11, (.binOp .add 3 (.tmp 10) (.const (.int .i64 1)) 3), none), (some 5, (.assign (.tmp 11)), none)] rfl fun K hK => ?_
      try simp only [go_sem, simprocAttr, h0, h1, h5, hi1, w1, List.length_append, List.length_drop, marks_len]
      repeat' (refine And.intro (by first | rfl | omega | (simp; done)) ?_)
      refine hK _ _ (awl_live' [0, 1, 5] fun ρ hL => ?_)
      try simp only [go_sem, simprocAttr, h0, h1, h5, hi1, w1, List.length_append, List.length_drop, marks_len] at hL
      clear h0 h1 h5
      obtain ⟨h0, h1, h5⟩ := hL
      clear hK K
      refine awl_nil ?_
      refine loop_again _ ?meas ⟨i + 1, rfl, (by omega), (by simp only [go_sem, simprocAttr, h0, h1, h5, hi1, List.length_append, List.length_drop, marks_len, e1_0]), (by rw [h1]; congr 1; omega), (h5), by rw [put_ints (by simp [marks_len]; omega), marks_set hi1]⟩
      case meas => subst hn; omega
    ·
      try simp only [cnd] at c1
      refine awl_exit ?_
      refine loop_break ?_
      exact ⟨(by simp only [go_sem, simprocAttr, h0, h1, h5, h9, List.length_append, List.length_drop, marks_len, e1_0]), (by rw [h1, show i = xs.length by omega]), by rw [show i = xs.length by omega]; simp⟩
  case after =>
    obtain ⟨hL, k1, hG⟩ := hJ
    subst hG
    clear h0 h1 h5
    clear hL
    have h1 := k1
    clear k1
    refine awl_seq ?_
    refine awl_regS [(some 18, (.move (.tmp 1)), none), (some 4, (.assign (.tmp 18)), none)] rfl fun K hK => ?_
    try simp only [go_sem, simprocAttr, h1, List.length_append, List.length_drop, marks_len]
    repeat' (refine And.intro (by first | rfl | omega | (simp; done)) ?_)
    refine hK _ _ (awl_live' [4] fun ρ hL => ?_)
    try simp only [go_sem, simprocAttr, h1, List.length_append, List.length_drop, marks_len] at hL
    clear h1
    have h4 := hL
    clear hL
    clear hK K
    refine awl_ret ?_
    refine retK [] [0] rfl (by simp only [go_sem, simprocAttr, h4, List.length_append, List.length_drop, marks_len]; exact rfl) (by decide) (by first | rfl | (simp only [go_sem, simprocAttr, h4, List.length_append, List.length_drop, marks_len]; first | done | rfl)) (by first | rfl | (simp only [go_sem, simprocAttr, h4, List.length_append, List.length_drop, marks_len]; first | done | rfl)) ?_ ?_
    all_goals try simp only [go_sem, simprocAttr, h4, List.length_append, List.length_drop, marks_len]
    all_goals (first | rfl | trivial | (simp; done))
set_option maxRecDepth 100000 in
theorem sat_laws_heldIntS (z : Nat) (t : Int) (c : Nat) (hb : z ≤ 1099511627776) (ht : 0 ≤ t ∧ t ≤ 1099511627776) : Sat Try.prog 19 [.sl z c (ints (marks t z)), .int .i64 t] [] (.int .i64 (t + z)) [] := by
  refine sat_mk [.tmp 4] 0 21 Try.call19 Try.func19 Try.ntmps19 rfl rfl rfl rfl rfl ?_
  refine awl_live' [0, 1] fun ρ hL => ?_
  try simp only [go_sem, simprocAttr, marks_len] at hL
  obtain ⟨h0, h1⟩ := hL
  refine awl_seq ?_
  refine awl_regS [(some 4, (.assign (.const (.int .i64 0))), none)] rfl fun K hK => ?_
  try simp only [go_sem, simprocAttr, h0, h1, marks_len]
  repeat' (refine And.intro (by first | rfl | omega | (simp; done)) ?_)
  refine hK _ _ (awl_live' [0, 1] fun ρ hL => ?_)
  try simp only [go_sem, simprocAttr, h0, h1, marks_len] at hL
  clear h0 h1
  obtain ⟨h0, h1⟩ := hL
  clear hK K
  refine awl_seq ?_
  refine awl_seq ?_
  refine awl_regS [(some 5, (.assign (.const (.int .i64 0))), none)] rfl fun K hK => ?_
  try simp only [go_sem, simprocAttr, h0, h1, marks_len]
  repeat' (refine And.intro (by first | rfl | omega | (simp; done)) ?_)
  refine hK _ _ (awl_live' [0, 1, 5] fun ρ hL => ?_)
  try simp only [go_sem, simprocAttr, h0, h1, marks_len] at hL
  clear h0 h1
  obtain ⟨h0, h1, h5⟩ := hL
  clear hK K
  have e1_0 := h0
  refine awl_loopH (fun H0 n σ G => ∃ (i : Nat), n = z - i ∧ (i ≤ z) ∧ liveE [0] σ ρ ∧ σ 1 = .int .i64 (t + (i : Int)) ∧ σ 5 = .int .i64 (i : Int) ∧ G = H0) (fun H0 σ G => liveE [] σ ρ ∧ σ 1 = .int .i64 (t + (z : Int)) ∧ G = H0) ((fun (i : Nat) => z - i) 0) ?init (fun n ρ G hI => ?round) (fun ρ G hJ => ?after)
  case init => exact ⟨0, rfl, (Nat.zero_le _), liveE_refl _ _, (by rw [h1]; simp), (h5), rfl⟩
  case round =>
    obtain ⟨i, hn, i1_0, hL, k1, k5, hG⟩ := hI
    subst hG
    try simp only [go_sem, simprocAttr, h0, h1, h5, marks_len] at hL
    clear h0 h1 h5
    have h0 := hL
    clear hL
    have h1 := k1
    clear k1
    have h5 := k5
    clear k5
    refine awl_seq ?_
    refine awl_seq ?_
    refine awl_regS [(some 6, (.move (.tmp 5)), none), (some 7, (.move (.tmp 0)), none), (some 8, (.call ⟨(.builtin .len), #[(.tmp 7)], #[24]⟩), none), (some 9, (.binOp .lss 3 (.tmp 6) (.tmp 8) 3), none)] rfl fun K hK => ?_
    try simp only [go_sem, simprocAttr, h0, h1, h5, marks_len]
    repeat' (refine And.intro (by first | rfl | omega | (simp; done)) ?_)
    refine hK _ _ (awl_live' [0, 1, 5, 9] fun ρ hL => ?_)
    try simp only [go_sem, simprocAttr, h0, h1, h5, marks_len] at hL
    clear h0 h1 h5
    obtain ⟨h0, h1, h5, h9⟩ := hL
    clear hK K
    refine awl_cond h9 (fun c1 => ?_) (fun c1 => ?_)
    ·
      try simp only [cnd] at c1
      have hi1 : i < z := by omega
      refine awl_skip ?_
      refine awl_seq ?_
      refine awl_block fun R hR => ?_
      refine awl_seq ?_
      refine awl_seq ?_
      have hm : (marks t z).getD i 0 = t + (i : Int) := marks_get hi1
      refine awl_regS [(some 12, (.move (.tmp 0)), none), (some 13, (.move (.tmp 5)), none), (some 14, (.indexAddr 24 (.tmp 12) (.tmp 13)), none), (some 15, (.load 3 (.tmp 14)), none), (some 16, (.move (.tmp 1)), none), (some 17, (.binOp .neq 3 (.tmp 15) (.tmp 16) 3), none)] rfl fun K hK => ?_
      try simp only [go_sem, simprocAttr, h0, h1, h5, h9, hi1, marks_len, hm]
      repeat' (refine And.intro (by first | rfl | omega | (simp; done)) ?_)
      refine hK _ _ (awl_live' [0, 1, 5, 17] fun ρ hL => ?_)
      try simp only [go_sem, simprocAttr, h0, h1, h5, h9, hi1, marks_len, hm] at hL
      clear h0 h1 h5 h9
      obtain ⟨h0, h1, h5, h17⟩ := hL
      clear hK K
      refine awl_cond h17 (fun c2 => ?_) (fun c2 => ?_)
      ·
        try simp only [cnd] at c2
        simp at c2
      ·
        try simp only [cnd] at c2
        refine awl_skip ?_
        have w5 : IntKind.i64.wrap (t + (i : Int) + 1) = t + (i : Int) + 1 := wrap64 (by omega)
        refine awl_regS [(some 18, (.move (.tmp 1)), none), (some 19, (.binOp .add 3 (.tmp 18) (.const (.int .i64 1)) 3), none), (some 1, (.assign (.tmp 19)), none)] rfl fun K hK => ?_
        try simp only [go_sem, simprocAttr, h0, h1, h5, h17, hi1, marks_len, w5]
        repeat' (refine And.intro (by first | rfl | omega | (simp; done)) ?_)
        refine hK _ _ (awl_live' [0, 1, 5] fun ρ hL => ?_)
        try simp only [go_sem, simprocAttr, h0, h1, h5, h17, hi1, marks_len, w5] at hL
        clear h0 h1 h5 h17
        obtain ⟨h0, h1, h5⟩ := hL
        clear hK K
        refine awl_nil ?_
        refine blk_normal (hR _ _ ?_)
        have w1 : IntKind.i64.wrap ((i : Int) + 1) = ((i + 1 : Nat) : Int) := by rw [wrap64 (by omega)]; omega
        refine awl_regS [(some 10, (.move (.tmp 5)), none), (some 11, (.binOp .add 3 (.tmp 10) (.const (.int .i64 1)) 3), none), (some 5, (.assign (.tmp 11)), none)] rfl fun K hK => ?_
        try simp only [go_sem, simprocAttr, h0, h1, h5, hi1, w1, marks_len]
        repeat' (refine And.intro (by first | rfl | omega | (simp; done)) ?_)
        refine hK _ _ (awl_live' [0, 1, 5] fun ρ hL => ?_)
        try simp only [go_sem, simprocAttr, h0, h1, h5, hi1, w1, marks_len] at hL
        clear h0 h1 h5
        obtain ⟨h0, h1, h5⟩ := hL
        clear hK K
        refine awl_nil ?_
        refine loop_again _ ?meas ⟨i + 1, rfl, (by omega), (by simp only [go_sem, simprocAttr, h0, h1, h5, hi1, marks_len, e1_0]), (by rw [h1]; congr 1; omega), (h5), rfl⟩
        case meas => subst hn; omega
    ·
      try simp only [cnd] at c1
      refine awl_exit ?_
      refine loop_break ?_
      exact ⟨(by simp only [go_sem, simprocAttr, h0, h1, h5, h9, marks_len, e1_0]), (by rw [h1, show i = z by omega]), rfl⟩
  case after =>
    obtain ⟨hL, k1, hG⟩ := hJ
    subst hG
    clear h0 h1 h5
    clear hL
    have h1 := k1
    clear k1
    refine awl_seq ?_
    refine awl_regS [(some 20, (.move (.tmp 1)), none), (some 4, (.assign (.tmp 20)), none)] rfl fun K hK => ?_
    try simp only [go_sem, simprocAttr, h1, marks_len]
    repeat' (refine And.intro (by first | rfl | omega | (simp; done)) ?_)
    refine hK _ _ (awl_live' [4] fun ρ hL => ?_)
    try simp only [go_sem, simprocAttr, h1, marks_len] at hL
    clear h1
    have h4 := hL
    clear hL
    clear hK K
    refine awl_ret ?_
    refine ret0 (by simp only [go_sem, simprocAttr, h4, marks_len]; exact rfl) ?_
    try simp only [go_sem, simprocAttr]
    all_goals (first | rfl | trivial | (simp; done))
end Go.Proofs.Ytcjjopfmeipidaa.AM
