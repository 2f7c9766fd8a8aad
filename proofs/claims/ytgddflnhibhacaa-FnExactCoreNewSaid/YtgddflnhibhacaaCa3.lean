/- Words, and what is learnt. No conditions but those each theorem bears. -/
import Derived.Test.YtgddflnhibhacaaFa
import Derived.Test.YtgddflnhibhacaaM4
import Derived.Test.YtgddflnhibhacaaM3
import Derived.Test.YtgddflnhibhacaaCa2
set_option linter.unusedSimpArgs false
set_option linter.unusedVariables false
namespace Go.Proofs.Ytgddflnhibhacaa.AM
open Go

set_option maxHeartbeats 8000000 in
set_option maxRecDepth 100000 in
theorem sat_laws_toKey (k : Key)  : Sat Try.prog 75 [.agg k.cells] [] (.agg k.cells) [] := by
  refine sat_mk [.cell 2 40] 0 17 Try.call75 Try.func75 Try.ntmps75 rfl rfl rfl rfl rfl ?_
  refine awl_live' [0] fun ρ hL => ?_
  try simp only [go_sem, simprocAttr] at hL
  have h0 := hL
  clear hL
  refine awl_seq ?_
  refine awl_regS [(some 1, (.box 29 (.tmp 0)), none), (some 2, (.alloc 40), none)] rfl fun K hK => ?_
  try simp only [go_sem, simprocAttr, h0]
  repeat' (refine And.intro (by first | rfl | omega | (simp; done)) ?_)
  refine hK _ _ (.mk (awl_live' [1, 2] fun ρ hL => ?_))
  try simp only [go_sem, simprocAttr, h0] at hL
  try clear h0
  obtain ⟨h1, h2⟩ := hL
  clear hK K
  refine awl_seq ?_
  refine awl_regS [(some 3, (.alloc 40), none)] rfl fun K hK => ?_
  try simp only [go_sem, simprocAttr, h1, h2]
  repeat' (refine And.intro (by first | rfl | omega | (simp; done)) ?_)
  refine hK _ _ (.mk (awl_live' [1, 2, 3] fun ρ hL => ?_))
  try simp only [go_sem, simprocAttr, h1, h2] at hL
  try clear h1 h2
  obtain ⟨h1, h2, h3⟩ := hL
  clear hK K
  refine awl_seq ?_
  refine awl_regS [(some 4, (.fieldAddr 29 (.tmp 1) 0), none), (some 5, (.load 3 (.tmp 4)), none), (some 6, (.fieldAddr 40 (.tmp 3) 0), none), (none, (.store 3 (.tmp 6) (.tmp 5)), none)] rfl fun K hK => ?_
  try simp only [go_sem, simprocAttr, h1, h2, h3]
  repeat' (refine And.intro (by first | rfl | omega | (simp; done)) ?_)
  refine hK _ _ (.mk (awl_live' [1, 2, 3] fun ρ hL => ?_))
  try simp only [go_sem, simprocAttr, h1, h2, h3] at hL
  try clear h1 h2 h3
  obtain ⟨h1, h2, h3⟩ := hL
  clear hK K
  refine awl_seq ?_
  refine awl_regS [(some 7, (.fieldAddr 29 (.tmp 1) 1), none), (some 8, (.load 3 (.tmp 7)), none), (some 9, (.fieldAddr 40 (.tmp 3) 1), none), (none, (.store 3 (.tmp 9) (.tmp 8)), none)] rfl fun K hK => ?_
  try simp only [go_sem, simprocAttr, h1, h2, h3]
  repeat' (refine And.intro (by first | rfl | omega | (simp; done)) ?_)
  refine hK _ _ (.mk (awl_live' [1, 2, 3] fun ρ hL => ?_))
  try simp only [go_sem, simprocAttr, h1, h2, h3] at hL
  try clear h1 h2 h3
  obtain ⟨h1, h2, h3⟩ := hL
  clear hK K
  refine awl_seq ?_
  refine awl_regS [(some 10, (.fieldAddr 29 (.tmp 1) 2), none), (some 11, (.load 3 (.tmp 10)), none), (some 12, (.fieldAddr 40 (.tmp 3) 2), none), (none, (.store 3 (.tmp 12) (.tmp 11)), none)] rfl fun K hK => ?_
  try simp only [go_sem, simprocAttr, h1, h2, h3]
  repeat' (refine And.intro (by first | rfl | omega | (simp; done)) ?_)
  refine hK _ _ (.mk (awl_live' [1, 2, 3] fun ρ hL => ?_))
  try simp only [go_sem, simprocAttr, h1, h2, h3] at hL
  try clear h1 h2 h3
  obtain ⟨h1, h2, h3⟩ := hL
  clear hK K
  refine awl_seq ?_
  refine awl_regS [(some 13, (.fieldAddr 29 (.tmp 1) 3), none), (some 14, (.load 3 (.tmp 13)), none), (some 15, (.fieldAddr 40 (.tmp 3) 3), none), (none, (.store 3 (.tmp 15) (.tmp 14)), none)] rfl fun K hK => ?_
  try simp only [go_sem, simprocAttr, h1, h2, h3]
  repeat' (refine And.intro (by first | rfl | omega | (simp; done)) ?_)
  refine hK _ _ (.mk (awl_live' [2, 3] fun ρ hL => ?_))
  try simp only [go_sem, simprocAttr, h1, h2, h3] at hL
  try clear h1 h2 h3
  obtain ⟨h2, h3⟩ := hL
  clear hK K
  refine awl_seq ?_
  refine awl_regS [(some 16, (.load 40 (.tmp 3)), none), (none, (.store 40 (.tmp 2) (.tmp 16)), none)] rfl fun K hK => ?_
  try simp only [go_sem, simprocAttr, h2, h3]
  repeat' (refine And.intro (by first | rfl | omega | (simp; done)) ?_)
  refine hK _ _ (.mk (awl_live' [2] fun ρ hL => ?_))
  try simp only [go_sem, simprocAttr, h2, h3] at hL
  try clear h2 h3
  have h2 := hL
  clear hL
  clear hK K
  refine awl_ret ?_
  refine ret0 (by simp only [go_sem, simprocAttr, h2]; exact rfl) ?_
  try simp only [go_sem, simprocAttr]
  all_goals (first | done | rfl | (simp; done) | (simp [inR]; done) | (simp_all [inR]; done) | (simp [inR]; grind))
set_option maxHeartbeats 8000000 in
set_option maxRecDepth 100000 in
theorem sat_laws_toWord (w : Word)  : Sat Try.prog 35 [.agg w.cells] [] (.agg w.cells) [] := by
  refine sat_mk [.cell 2 42] 0 15 Try.call35 Try.func35 Try.ntmps35 rfl rfl rfl rfl rfl ?_
  refine awl_live' [0] fun ρ hL => ?_
  try simp only [go_sem, simprocAttr] at hL
  have h0 := hL
  clear hL
  refine awl_seq ?_
  refine awl_regS [(some 1, (.box 31 (.tmp 0)), none), (some 2, (.alloc 42), none)] rfl fun K hK => ?_
  try simp only [go_sem, simprocAttr, h0]
  repeat' (refine And.intro (by first | rfl | omega | (simp; done)) ?_)
  refine hK _ _ (.mk (awl_live' [1, 2] fun ρ hL => ?_))
  try simp only [go_sem, simprocAttr, h0] at hL
  try clear h0
  obtain ⟨h1, h2⟩ := hL
  clear hK K
  refine awl_seq ?_
  refine awl_regS [(some 3, (.alloc 42), none)] rfl fun K hK => ?_
  try simp only [go_sem, simprocAttr, h1, h2]
  repeat' (refine And.intro (by first | rfl | omega | (simp; done)) ?_)
  refine hK _ _ (.mk (awl_live' [1, 2, 3] fun ρ hL => ?_))
  try simp only [go_sem, simprocAttr, h1, h2] at hL
  try clear h1 h2
  obtain ⟨h1, h2, h3⟩ := hL
  clear hK K
  refine awl_seq ?_
  refine awl_regS [(some 4, (.fieldAddr 31 (.tmp 1) 0), none), (some 5, (.load 3 (.tmp 4)), none), (some 6, (.fieldAddr 42 (.tmp 3) 0), none), (none, (.store 3 (.tmp 6) (.tmp 5)), none)] rfl fun K hK => ?_
  try simp only [go_sem, simprocAttr, h1, h2, h3]
  repeat' (refine And.intro (by first | rfl | omega | (simp; done)) ?_)
  refine hK _ _ (.mk (awl_live' [1, 2, 3] fun ρ hL => ?_))
  try simp only [go_sem, simprocAttr, h1, h2, h3] at hL
  try clear h1 h2 h3
  obtain ⟨h1, h2, h3⟩ := hL
  clear hK K
  refine awl_seq ?_
  refine awl_regS [(some 7, (.fieldAddr 31 (.tmp 1) 1), none), (some 8, (.load 4 (.tmp 7)), none), (some 9, (.fieldAddr 42 (.tmp 3) 1), none), (none, (.store 4 (.tmp 9) (.tmp 8)), none)] rfl fun K hK => ?_
  try simp only [go_sem, simprocAttr, h1, h2, h3]
  repeat' (refine And.intro (by first | rfl | omega | (simp; done)) ?_)
  refine hK _ _ (.mk (awl_live' [1, 2, 3] fun ρ hL => ?_))
  try simp only [go_sem, simprocAttr, h1, h2, h3] at hL
  try clear h1 h2 h3
  obtain ⟨h1, h2, h3⟩ := hL
  clear hK K
  refine awl_seq ?_
  refine awl_regS [(some 10, (.fieldAddr 31 (.tmp 1) 2), none), (some 11, (.load 29 (.tmp 10)), none), (some 12, (.call ⟨(.value (.func 75)), #[(.tmp 11)], #[29]⟩), none), (some 13, (.fieldAddr 42 (.tmp 3) 2), none), (none, (.store 40 (.tmp 13) (.tmp 12)), none)] rfl fun K hK => ?_
  try simp only [go_sem, simprocAttr, h1, h2, h3]
  repeat' (refine And.intro (by first | rfl | omega | (simp; done)) ?_)
  refine opS_call_ro rfl (sat_laws_toKey ?_) ?ha ?hv ?hh ?_
  case ha => simp only [go_sem, simprocAttr, h1, h2, h3]; first | done | rfl
  case hv => first | rfl | (simp only [go_sem]; done)
  case hh => first | rfl | (simp only [go_sem]; done)
  try simp only [go_sem, simprocAttr, h1, h2, h3]
  repeat' (refine And.intro (by first | rfl | omega | (simp; done)) ?_)
  refine hK _ _ (.mk (awl_live' [2, 3] fun ρ hL => ?_))
  try simp only [go_sem, simprocAttr, h1, h2, h3] at hL
  try clear h1 h2 h3
  obtain ⟨h2, h3⟩ := hL
  clear hK K
  refine awl_seq ?_
  refine awl_regS [(some 14, (.load 42 (.tmp 3)), none), (none, (.store 42 (.tmp 2) (.tmp 14)), none)] rfl fun K hK => ?_
  try simp only [go_sem, simprocAttr, h2, h3]
  repeat' (refine And.intro (by first | rfl | omega | (simp; done)) ?_)
  refine hK _ _ (.mk (awl_live' [2] fun ρ hL => ?_))
  try simp only [go_sem, simprocAttr, h2, h3] at hL
  try clear h2 h3
  have h2 := hL
  clear hL
  clear hK K
  refine awl_ret ?_
  refine ret0 (by simp only [go_sem, simprocAttr, h2]; exact rfl) ?_
  try simp only [go_sem, simprocAttr]
  all_goals (first | done | rfl | (simp; done) | (simp [inR]; done) | (simp_all [inR]; done) | (simp [inR]; grind))
set_option maxHeartbeats 8000000 in
set_option maxRecDepth 100000 in
theorem sat_spec_Plain (n : Int)  : Sat Try.prog 147 [.int .i64 n] [] (.agg (plain n).cells) [] := by
  refine sat_mk [.cell 2 42] 0 6 Try.call147 Try.func147 Try.ntmps147 rfl rfl rfl rfl rfl ?_
  refine awl_live' [0] fun ρ hL => ?_
  try simp only [go_sem, simprocAttr] at hL
  have h0 := hL
  clear hL
  refine awl_seq ?_
  refine awl_regS [(some 2, (.alloc 42), none)] rfl fun K hK => ?_
  try simp only [go_sem, simprocAttr, h0]
  repeat' (refine And.intro (by first | rfl | omega | (simp; done)) ?_)
  refine hK _ _ (.mk (awl_live' [0, 2] fun ρ hL => ?_))
  try simp only [go_sem, simprocAttr, h0] at hL
  try clear h0
  obtain ⟨h0, h2⟩ := hL
  clear hK K
  refine awl_seq ?_
  refine awl_regS [(some 3, (.move (.tmp 0)), none), (some 4, (.binOp .and 3 (.tmp 3) (.const (.int .i64 65535)) 3), none), (some 5, (.build 42 #[(0, (.tmp 4))]), none), (none, (.store 42 (.tmp 2) (.tmp 5)), none)] rfl fun K hK => ?_
  try simp only [go_sem, simprocAttr, h0, h2]
  repeat' (refine And.intro (by first | rfl | omega | (simp; done)) ?_)
  refine hK _ _ (.mk (awl_live' [2] fun ρ hL => ?_))
  try simp only [go_sem, simprocAttr, h0, h2] at hL
  try clear h0 h2
  have h2 := hL
  clear hL
  clear hK K
  refine awl_ret ?_
  refine ret0 (by simp only [go_sem, simprocAttr, h2]; exact rfl) ?_
  try simp only [go_sem, simprocAttr]
  all_goals (first | done | rfl | (simp; done) | (simp [inR]; done) | (simp_all [inR]; done) | (simp [inR]; grind))
set_option maxHeartbeats 8000000 in
set_option maxRecDepth 100000 in
theorem sat_impl_Plain (n : Int)  : Sat Try.prog 148 [.int .i64 n] [] (.agg (plain n).cells) [] := by
  refine sat_mk [.cell 2 42] 0 6 Try.call148 Try.func148 Try.ntmps148 rfl rfl rfl rfl rfl ?_
  refine awl_live' [0] fun ρ hL => ?_
  try simp only [go_sem, simprocAttr] at hL
  have h0 := hL
  clear hL
  refine awl_seq ?_
  refine awl_regS [(some 2, (.alloc 42), none)] rfl fun K hK => ?_
  try simp only [go_sem, simprocAttr, h0]
  repeat' (refine And.intro (by first | rfl | omega | (simp; done)) ?_)
  refine hK _ _ (.mk (awl_live' [0, 2] fun ρ hL => ?_))
  try simp only [go_sem, simprocAttr, h0] at hL
  try clear h0
  obtain ⟨h0, h2⟩ := hL
  clear hK K
  refine awl_seq ?_
  refine awl_regS [(some 3, (.move (.tmp 0)), none), (some 4, (.binOp .and 3 (.tmp 3) (.const (.int .i64 65535)) 3), none), (some 5, (.build 42 #[(0, (.tmp 4))]), none), (none, (.store 42 (.tmp 2) (.tmp 5)), none)] rfl fun K hK => ?_
  try simp only [go_sem, simprocAttr, h0, h2]
  repeat' (refine And.intro (by first | rfl | omega | (simp; done)) ?_)
  refine hK _ _ (.mk (awl_live' [2] fun ρ hL => ?_))
  try simp only [go_sem, simprocAttr, h0, h2] at hL
  try clear h0 h2
  have h2 := hL
  clear hL
  clear hK K
  refine awl_ret ?_
  refine ret0 (by simp only [go_sem, simprocAttr, h2]; exact rfl) ?_
  try simp only [go_sem, simprocAttr]
  all_goals (first | done | rfl | (simp; done) | (simp [inR]; done) | (simp_all [inR]; done) | (simp [inR]; grind))
set_option maxHeartbeats 8000000 in
set_option maxRecDepth 100000 in
theorem sat_impl_Bare (w : Word)  : Sat Try.prog 121 [.agg w.cells] [] (.agg (plain w.n).cells) [] := by
  refine sat_mk [.cell 2 42] 0 6 Try.call121 Try.func121 Try.ntmps121 rfl rfl rfl rfl rfl ?_
  refine awl_live' [0] fun ρ hL => ?_
  try simp only [go_sem, simprocAttr] at hL
  have h0 := hL
  clear hL
  refine awl_seq ?_
  refine awl_regS [(some 1, (.box 42 (.tmp 0)), none), (some 2, (.alloc 42), none)] rfl fun K hK => ?_
  try simp only [go_sem, simprocAttr, h0]
  repeat' (refine And.intro (by first | rfl | omega | (simp; done)) ?_)
  refine hK _ _ (.mk (awl_live' [1, 2] fun ρ hL => ?_))
  try simp only [go_sem, simprocAttr, h0] at hL
  try clear h0
  obtain ⟨h1, h2⟩ := hL
  clear hK K
  refine awl_seq ?_
  refine awl_regS [(some 3, (.fieldAddr 42 (.tmp 1) 0), none), (some 4, (.load 3 (.tmp 3)), none), (some 5, (.call ⟨(.value (.func 148)), #[(.tmp 4)], #[3]⟩), none), (none, (.store 42 (.tmp 2) (.tmp 5)), none)] rfl fun K hK => ?_
  try simp only [go_sem, simprocAttr, h1, h2]
  repeat' (refine And.intro (by first | rfl | omega | (simp; done)) ?_)
  refine opS_call_ro rfl (sat_impl_Plain ?_) ?ha ?hv ?hh ?_
  case ha => simp only [go_sem, simprocAttr, h1, h2]; first | done | rfl
  case hv => first | rfl | (simp only [go_sem]; done)
  case hh => first | rfl | (simp only [go_sem]; done)
  try simp only [go_sem, simprocAttr, h1, h2]
  repeat' (refine And.intro (by first | rfl | omega | (simp; done)) ?_)
  refine hK _ _ (.mk (awl_live' [2] fun ρ hL => ?_))
  try simp only [go_sem, simprocAttr, h1, h2] at hL
  try clear h1 h2
  have h2 := hL
  clear hL
  clear hK K
  refine awl_ret ?_
  refine ret0 (by simp only [go_sem, simprocAttr, h2]; exact rfl) ?_
  try simp only [go_sem, simprocAttr]
  all_goals (first | done | rfl | (simp; done) | (simp [inR]; done) | (simp_all [inR]; done) | (simp [inR]; grind))
set_option maxHeartbeats 8000000 in
set_option maxRecDepth 100000 in
theorem sat_laws_markIntS (xs : List Int) (t : Int) (c : Nat) (hb : xs.length ≤ 1099511627776) (ht : 0 ≤ t ∧ t ≤ 1099511627776) : Sat Try.prog 16 [.slice 0 0 xs.length c, .int .i64 t] [⟨1, ints xs, true, false⟩] (.int .i64 (t + xs.length)) [⟨1, ints (marks t xs.length), true, false⟩] := by
  refine sat_mk [.tmp 4] 1 19 Try.call16 Try.func16 Try.ntmps16 rfl rfl rfl rfl rfl ?_
  refine awl_live' [0, 1] fun ρ hL => ?_
  try simp only [go_sem, simprocAttr, List.length_append, List.length_drop, marks_len] at hL
  obtain ⟨h0, h1⟩ := hL
  refine awl_seq ?_
  refine awl_regS [(some 4, (.assign (.const (.int .i64 0))), none)] rfl fun K hK => ?_
  try simp only [go_sem, simprocAttr, h0, h1, List.length_append, List.length_drop, marks_len]
  repeat' (refine And.intro (by first | rfl | omega | (simp; done)) ?_)
  refine hK _ _ (.mk (awl_live' [0, 1] fun ρ hL => ?_))
  try simp only [go_sem, simprocAttr, h0, h1, List.length_append, List.length_drop, marks_len] at hL
  try clear h0 h1
  obtain ⟨h0, h1⟩ := hL
  clear hK K
  refine awl_seq ?_
  refine awl_seq ?_
  refine awl_regS [(some 5, (.assign (.const (.int .i64 0))), none)] rfl fun K hK => ?_
  try simp only [go_sem, simprocAttr, h0, h1, List.length_append, List.length_drop, marks_len]
  repeat' (refine And.intro (by first | rfl | omega | (simp; done)) ?_)
  refine hK _ _ (.mk (awl_live' [0, 1, 5] fun ρ hL => ?_))
  try simp only [go_sem, simprocAttr, h0, h1, List.length_append, List.length_drop, marks_len] at hL
  try clear h0 h1
  obtain ⟨h0, h1, h5⟩ := hL
  clear hK K
  have e1_0 := h0
  refine awl_loopH (fun H0 n σ G => ∃ (i : Nat), n = xs.length - i ∧ (i ≤ xs.length) ∧ liveE [0] σ ρ ∧ σ 1 = .int .i64 (t + (i : Int)) ∧ σ 5 = .int .i64 (i : Int) ∧ G = [⟨1, ints (marks t i ++ xs.drop i), true, false⟩]) (fun H0 σ G => liveE [] σ ρ ∧ σ 1 = .int .i64 (t + (xs.length : Int)) ∧ G = [⟨1, ints (marks t xs.length), true, false⟩]) ((fun (i : Nat) => xs.length - i) 0) ?init1 (fun n ρ G hI => ?round1) (fun ρ G hJ => ?after1)
  case init1 => exact ⟨0, rfl, (Nat.zero_le _), liveE_refl _ _, (by rw [h1]; simp), (h5), rfl⟩
  case round1 =>
    obtain ⟨i, hn, i1_0, hL, k1, k5, hG⟩ := hI
    subst hG
    try simp only [go_sem, simprocAttr, h0, h1, h5, List.length_append, List.length_drop, marks_len] at hL
    clear h0 h1 h5
    have h0 := hL
    clear hL
    have h1 := k1
    clear k1
    have h5 := k5
    clear k5
    refine awl_seq ?_
    refine awl_seq ?_
    refine awl_regS [(some 6, (.move (.tmp 5)), none), (some 7, (.move (.tmp 0)), none), (some 8, (.call ⟨(.builtin .len), #[(.tmp 7)], #[22]⟩), none), (some 9, (.binOp .lss 3 (.tmp 6) (.tmp 8) 3), none)] rfl fun K hK => ?_
    try simp only [go_sem, simprocAttr, h0, h1, h5, List.length_append, List.length_drop, marks_len]
    repeat' (refine And.intro (by first | rfl | omega | (simp; done)) ?_)
    refine hK _ _ (.mk (awl_live' [0, 1, 5, 9] fun ρ hL => ?_))
    try simp only [go_sem, simprocAttr, h0, h1, h5, List.length_append, List.length_drop, marks_len] at hL
    try clear h0 h1 h5
    obtain ⟨h0, h1, h5, h9⟩ := hL
    clear hK K
    refine awl_cond h9 (fun c1 => ?_) (fun c1 => ?_)
    ·
      try simp only [cnd] at c1
      have hi1 : i < xs.length := by omega
      refine awl_skip ?_
      refine awl_seq ?_
      refine awl_block fun R1 hw1 hR1 => ?_
      refine awl_seq ?_
      refine awl_regS [(some 12, (.move (.tmp 0)), none), (some 13, (.move (.tmp 5)), none), (some 14, (.move (.tmp 1)), none), (some 15, (.indexAddr 22 (.tmp 12) (.tmp 13)), none), (none, (.store 3 (.tmp 15) (.tmp 14)), none)] rfl fun K hK => ?_
      try simp only [go_sem, simprocAttr, h0, h1, h5, h9, hi1, List.length_append, List.length_drop, marks_len]
      repeat' (refine And.intro (by first | rfl | omega | (simp; done)) ?_)
      refine hK _ _ (.mk (awl_live' [0, 1, 5] fun ρ hL => ?_))
      try simp only [go_sem, simprocAttr, h0, h1, h5, h9, hi1, List.length_append, List.length_drop, marks_len] at hL
      try clear h0 h1 h5 h9
      obtain ⟨h0, h1, h5⟩ := hL
      clear hK K
      have w5 : IntKind.i64.wrap (t + (i : Int) + 1) = t + (i : Int) + 1 := wrap64 (by omega)
      refine awl_regS [(some 16, (.move (.tmp 1)), none), (some 17, (.binOp .add 3 (.tmp 16) (.const (.int .i64 1)) 3), none), (some 1, (.assign (.tmp 17)), none)] rfl fun K hK => ?_
      try simp only [go_sem, simprocAttr, h0, h1, h5, hi1, List.length_append, List.length_drop, marks_len, w5]
      repeat' (refine And.intro (by first | rfl | omega | (simp; done)) ?_)
      refine hK _ _ (.mk (awl_live' [0, 1, 5] fun ρ hL => ?_))
      try simp only [go_sem, simprocAttr, h0, h1, h5, hi1, List.length_append, List.length_drop, marks_len, w5] at hL
      try clear h0 h1 h5
      obtain ⟨h0, h1, h5⟩ := hL
      clear hK K
      refine awl_nil ?_
      refine blk_normal (hR1 _ _ (.mk ?_))
      have w1 : IntKind.i64.wrap ((i : Int) + 1) = ((i + 1 : Nat) : Int) := by rw [wrap64 (by omega)]; omega
      refine awl_regS [(some 10, (.move (.tmp 5)), none), (some 11, (.binOp .add 3 (.tmp 10) (.const (.int .i64 1)) 3), none), (some 5, (.assign (.tmp 11)), none)] rfl fun K hK => ?_
      try simp only [go_sem, simprocAttr, h0, h1, h5, hi1, w1, List.length_append, List.length_drop, marks_len]
      repeat' (refine And.intro (by first | rfl | omega | (simp; done)) ?_)
      refine hK _ _ (.mk (awl_live' [0, 1, 5] fun ρ hL => ?_))
      try simp only [go_sem, simprocAttr, h0, h1, h5, hi1, w1, List.length_append, List.length_drop, marks_len] at hL
      try clear h0 h1 h5
      obtain ⟨h0, h1, h5⟩ := hL
      clear hK K
      refine awl_nil ?_
      refine loop_again _ ?meas ⟨i + 1, rfl, (by omega), (by simp only [go_sem, simprocAttr, h0, h1, h5, hi1, List.length_append, List.length_drop, marks_len, e1_0]), (by rw [h1]; congr 1; omega), (h5), by rw [put_ints (by simp [marks_len]; omega), marks_set hi1]⟩
      case meas => subst hn; omega
    ·
      try simp only [cnd] at c1
      refine awl_exit ?_
      refine loop_break ?_
      exact ⟨(by simp only [go_sem, simprocAttr, h0, h1, h5, h9, List.length_append, List.length_drop, marks_len, e1_0]), (by rw [h1, show i = xs.length by omega]), by rw [show i = xs.length by omega]; simp⟩
  case after1 =>
    obtain ⟨hL, k1, hG⟩ := hJ
    subst hG
    clear h0 h1 h5
    clear hL
    have h1 := k1
    clear k1
    refine awl_seq ?_
    refine awl_regS [(some 18, (.move (.tmp 1)), none), (some 4, (.assign (.tmp 18)), none)] rfl fun K hK => ?_
    try simp only [go_sem, simprocAttr, h1, List.length_append, List.length_drop, marks_len]
    repeat' (refine And.intro (by first | rfl | omega | (simp; done)) ?_)
    refine hK _ _ (.mk (awl_live' [4] fun ρ hL => ?_))
    try simp only [go_sem, simprocAttr, h1, List.length_append, List.length_drop, marks_len] at hL
    try clear h1
    have h4 := hL
    clear hL
    clear hK K
    refine awl_ret ?_
    refine retK [] [0] rfl (by simp only [go_sem, simprocAttr, h4, List.length_append, List.length_drop, marks_len]; exact rfl) (by decide) (by first | rfl | (simp only [go_sem, simprocAttr, h4, List.length_append, List.length_drop, marks_len]; first | done | rfl)) (by first | rfl | (simp only [go_sem, simprocAttr, h4, List.length_append, List.length_drop, marks_len]; first | done | rfl)) ?_ ?_
    all_goals try simp only [go_sem, simprocAttr, h4, List.length_append, List.length_drop, marks_len]
    all_goals try clear hR1
    all_goals (first | done | rfl | (simp; done) | (simp [inR]; done) | (simp_all [inR]; done) | (simp [inR]; grind))
set_option maxHeartbeats 8000000 in
set_option maxRecDepth 100000 in
theorem sat_laws_heldIntS (z : Nat) (t : Int) (c : Nat) (hb : z ≤ 1099511627776) (ht : 0 ≤ t ∧ t ≤ 1099511627776) : Sat Try.prog 17 [.sl z c (ints (marks t z)), .int .i64 t] [] (.int .i64 (t + z)) [] := by
  refine sat_mk [.tmp 4] 0 21 Try.call17 Try.func17 Try.ntmps17 rfl rfl rfl rfl rfl ?_
  refine awl_live' [0, 1] fun ρ hL => ?_
  try simp only [go_sem, simprocAttr, marks_len] at hL
  obtain ⟨h0, h1⟩ := hL
  refine awl_seq ?_
  refine awl_regS [(some 4, (.assign (.const (.int .i64 0))), none)] rfl fun K hK => ?_
  try simp only [go_sem, simprocAttr, h0, h1, marks_len]
  repeat' (refine And.intro (by first | rfl | omega | (simp; done)) ?_)
  refine hK _ _ (.mk (awl_live' [0, 1] fun ρ hL => ?_))
  try simp only [go_sem, simprocAttr, h0, h1, marks_len] at hL
  try clear h0 h1
  obtain ⟨h0, h1⟩ := hL
  clear hK K
  refine awl_seq ?_
  refine awl_seq ?_
  refine awl_regS [(some 5, (.assign (.const (.int .i64 0))), none)] rfl fun K hK => ?_
  try simp only [go_sem, simprocAttr, h0, h1, marks_len]
  repeat' (refine And.intro (by first | rfl | omega | (simp; done)) ?_)
  refine hK _ _ (.mk (awl_live' [0, 1, 5] fun ρ hL => ?_))
  try simp only [go_sem, simprocAttr, h0, h1, marks_len] at hL
  try clear h0 h1
  obtain ⟨h0, h1, h5⟩ := hL
  clear hK K
  have e1_0 := h0
  refine awl_loopH (fun H0 n σ G => ∃ (i : Nat), n = z - i ∧ (i ≤ z) ∧ liveE [0] σ ρ ∧ σ 1 = .int .i64 (t + (i : Int)) ∧ σ 5 = .int .i64 (i : Int) ∧ G = H0) (fun H0 σ G => liveE [] σ ρ ∧ σ 1 = .int .i64 (t + (z : Int)) ∧ G = H0) ((fun (i : Nat) => z - i) 0) ?init1 (fun n ρ G hI => ?round1) (fun ρ G hJ => ?after1)
  case init1 => exact ⟨0, rfl, (Nat.zero_le _), liveE_refl _ _, (by rw [h1]; simp), (h5), rfl⟩
  case round1 =>
    obtain ⟨i, hn, i1_0, hL, k1, k5, hG⟩ := hI
    subst hG
    try simp only [go_sem, simprocAttr, h0, h1, h5, marks_len] at hL
    clear h0 h1 h5
    have h0 := hL
    clear hL
    have h1 := k1
    clear k1
    have h5 := k5
    clear k5
    refine awl_seq ?_
    refine awl_seq ?_
    refine awl_regS [(some 6, (.move (.tmp 5)), none), (some 7, (.move (.tmp 0)), none), (some 8, (.call ⟨(.builtin .len), #[(.tmp 7)], #[22]⟩), none), (some 9, (.binOp .lss 3 (.tmp 6) (.tmp 8) 3), none)] rfl fun K hK => ?_
    try simp only [go_sem, simprocAttr, h0, h1, h5, marks_len]
    repeat' (refine And.intro (by first | rfl | omega | (simp; done)) ?_)
    refine hK _ _ (.mk (awl_live' [0, 1, 5, 9] fun ρ hL => ?_))
    try simp only [go_sem, simprocAttr, h0, h1, h5, marks_len] at hL
    try clear h0 h1 h5
    obtain ⟨h0, h1, h5, h9⟩ := hL
    clear hK K
    refine awl_cond h9 (fun c1 => ?_) (fun c1 => ?_)
    ·
      try simp only [cnd] at c1
      have hi1 : i < z := by omega
      refine awl_skip ?_
      refine awl_seq ?_
      refine awl_block fun R1 hw1 hR1 => ?_
      refine awl_seq ?_
      refine awl_seq ?_
      have hm : (marks t z).getD i 0 = t + (i : Int) := marks_get hi1
      refine awl_regS [(some 12, (.move (.tmp 0)), none), (some 13, (.move (.tmp 5)), none), (some 14, (.indexAddr 22 (.tmp 12) (.tmp 13)), none), (some 15, (.load 3 (.tmp 14)), none), (some 16, (.move (.tmp 1)), none), (some 17, (.binOp .neq 3 (.tmp 15) (.tmp 16) 3), none)] rfl fun K hK => ?_
      try simp only [go_sem, simprocAttr, h0, h1, h5, h9, hi1, marks_len, hm]
      repeat' (refine And.intro (by first | rfl | omega | (simp; done)) ?_)
      refine hK _ _ (.mk (awl_live' [0, 1, 5, 17] fun ρ hL => ?_))
      try simp only [go_sem, simprocAttr, h0, h1, h5, h9, hi1, marks_len, hm] at hL
      try clear h0 h1 h5 h9
      obtain ⟨h0, h1, h5, h17⟩ := hL
      clear hK K
      refine awl_cond h17 (fun c2 => ?_) (fun c2 => ?_)
      ·
        try simp only [cnd] at c2
        simp at c2
      ·
        try simp only [cnd] at c2
        refine awl_skip ?_
        have w5 : IntKind.i64.wrap (t + (i : Int) + 1) = t + (i : Int) + 1 := wrap64 (by omega)
        refine awl_regS [(some 18, (.move (.tmp 1)), none), (some 19, (.binOp .add 3 (.tmp 18) (.const (.int .i64 1)) 3), none), (some 1, (.assign (.tmp 19)), none)] rfl fun K hK => ?_
        try simp only [go_sem, simprocAttr, h0, h1, h5, h17, hi1, marks_len, w5]
        repeat' (refine And.intro (by first | rfl | omega | (simp; done)) ?_)
        refine hK _ _ (.mk (awl_live' [0, 1, 5] fun ρ hL => ?_))
        try simp only [go_sem, simprocAttr, h0, h1, h5, h17, hi1, marks_len, w5] at hL
        try clear h0 h1 h5 h17
        obtain ⟨h0, h1, h5⟩ := hL
        clear hK K
        refine awl_nil ?_
        refine blk_normal (hR1 _ _ (.mk ?_))
        have w1 : IntKind.i64.wrap ((i : Int) + 1) = ((i + 1 : Nat) : Int) := by rw [wrap64 (by omega)]; omega
        refine awl_regS [(some 10, (.move (.tmp 5)), none), (some 11, (.binOp .add 3 (.tmp 10) (.const (.int .i64 1)) 3), none), (some 5, (.assign (.tmp 11)), none)] rfl fun K hK => ?_
        try simp only [go_sem, simprocAttr, h0, h1, h5, hi1, w1, marks_len]
        repeat' (refine And.intro (by first | rfl | omega | (simp; done)) ?_)
        refine hK _ _ (.mk (awl_live' [0, 1, 5] fun ρ hL => ?_))
        try simp only [go_sem, simprocAttr, h0, h1, h5, hi1, w1, marks_len] at hL
        try clear h0 h1 h5
        obtain ⟨h0, h1, h5⟩ := hL
        clear hK K
        refine awl_nil ?_
        refine loop_again _ ?meas ⟨i + 1, rfl, (by omega), (by simp only [go_sem, simprocAttr, h0, h1, h5, hi1, marks_len, e1_0]), (by rw [h1]; congr 1; omega), (h5), rfl⟩
        case meas => subst hn; omega
    ·
      try simp only [cnd] at c1
      refine awl_exit ?_
      refine loop_break ?_
      exact ⟨(by simp only [go_sem, simprocAttr, h0, h1, h5, h9, marks_len, e1_0]), (by rw [h1, show i = z by omega]), rfl⟩
  case after1 =>
    obtain ⟨hL, k1, hG⟩ := hJ
    subst hG
    clear h0 h1 h5
    clear hL
    have h1 := k1
    clear k1
    refine awl_seq ?_
    refine awl_regS [(some 20, (.move (.tmp 1)), none), (some 4, (.assign (.tmp 20)), none)] rfl fun K hK => ?_
    try simp only [go_sem, simprocAttr, h1, marks_len]
    repeat' (refine And.intro (by first | rfl | omega | (simp; done)) ?_)
    refine hK _ _ (.mk (awl_live' [4] fun ρ hL => ?_))
    try simp only [go_sem, simprocAttr, h1, marks_len] at hL
    try clear h1
    have h4 := hL
    clear hL
    clear hK K
    refine awl_ret ?_
    refine ret0 (by simp only [go_sem, simprocAttr, h4, marks_len]; exact rfl) ?_
    try simp only [go_sem, simprocAttr]
    all_goals try clear hR1
    all_goals (first | done | rfl | (simp; done) | (simp [inR]; done) | (simp_all [inR]; done) | (simp [inR]; grind))
end Go.Proofs.Ytgddflnhibhacaa.AM
