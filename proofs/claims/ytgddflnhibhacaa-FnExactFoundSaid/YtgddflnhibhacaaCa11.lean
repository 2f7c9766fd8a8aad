/- Entries and cores in order; what the laws make of them. No conditions but those each theorem bears. -/
import Derived.Test.YtgddflnhibhacaaFa
import Derived.Test.YtgddflnhibhacaaM4
import Derived.Test.YtgddflnhibhacaaCa10
set_option linter.unusedSimpArgs false
set_option linter.unusedVariables false
namespace Go.Proofs.Ytgddflnhibhacaa.AM
open Go

set_option maxHeartbeats 8000000 in
set_option maxRecDepth 100000 in
theorem sat_slices_IndexFunc_impl_Entry_impl_Entry (xs : List Ent) (g : FuncId) (cap : List AV) (p : Ent → Bool) (hb : xs.length ≤ 1099511627776) (hc : ∀ (Hb : Heap) (inv : Nat → Option Nat) (n : Nat), cap.map (bor Hb inv (n + 2)) = cap) (hg : ∀ x : Ent, Sat Try.prog g (.agg (Ent.cells x) :: cap) [] (.bool (p x)) []) : Sat Try.prog 125 [.sl xs.length xs.length (rows xs), .func g [] cap] [] (.int .i64 (firstAt p xs 0)) [] := by
  refine sat_mk [.tmp 4] 0 19 Try.call125 Try.func125 Try.ntmps125 rfl rfl rfl rfl rfl ?_
  refine awl_live' [0, 1] fun ρ hL => ?_
  try simp only [go_sem, simprocAttr, hc] at hL
  obtain ⟨h0, h1⟩ := hL
  refine awl_seq ?_
  refine awl_regS [(some 4, (.assign (.const (.int .i64 0))), none)] rfl fun K hK => ?_
  try simp only [go_sem, simprocAttr, h0, h1, hc]
  repeat' (refine And.intro (by first | rfl | omega | (simp; done)) ?_)
  refine hK _ _ (.mk (awl_live' [0, 1] fun ρ hL => ?_))
  try simp only [go_sem, simprocAttr, h0, h1, hc] at hL
  try clear h0 h1
  obtain ⟨h0, h1⟩ := hL
  clear hK K
  refine awl_seq ?_
  refine awl_seq ?_
  refine awl_regS [(some 6, (.move (.tmp 0)), none), (some 7, (.call ⟨(.builtin .len), #[(.tmp 6)], #[59]⟩), none), (some 8, (.move (.const (.int .i64 0))), none)] rfl fun K hK => ?_
  try simp only [go_sem, simprocAttr, h0, h1, hc]
  repeat' (refine And.intro (by first | rfl | omega | (simp; done)) ?_)
  refine hK _ _ (.mk (awl_live' [0, 1, 7, 8] fun ρ hL => ?_))
  try simp only [go_sem, simprocAttr, h0, h1, hc] at hL
  try clear h0 h1
  obtain ⟨h0, h1, h7, h8⟩ := hL
  clear hK K
  have e1_0 := h0
  have e1_1 := h1
  have e1_7 := h7
  refine awl_loopH (fun H0 n σ G => ∃ (i : Nat), n = xs.length - i ∧ (i ≤ xs.length) ∧ (firstAt p (xs.drop i) i = firstAt p xs 0) ∧ liveE [0, 1, 7] σ ρ ∧ σ 8 = .int .i64 (i : Int) ∧ G = H0) (fun H0 σ G => (firstAt p xs 0 = -1) ∧ liveE [] σ ρ ∧ G = H0) ((fun (i : Nat) => xs.length - i) 0) ?init1 (fun n ρ G hI => ?round1) (fun ρ G hJ => ?after1)
  case init1 => exact ⟨0, rfl, (Nat.zero_le _), (by simp), liveE_refl _ _, (h8), rfl⟩
  case round1 =>
    obtain ⟨i, hn, i1_0, i1_1, hL, k8, hG⟩ := hI
    subst hG
    try simp only [go_sem, simprocAttr, h0, h1, h7, h8, hc] at hL
    clear h0 h1 h7 h8
    obtain ⟨h0, h1, h7⟩ := hL
    have h8 := k8
    clear k8
    refine awl_seq ?_
    refine awl_regS [(some 9, (.binOp .lss 3 (.tmp 8) (.tmp 7) 3), none)] rfl fun K hK => ?_
    try simp only [go_sem, simprocAttr, h0, h1, h7, h8, hc]
    repeat' (refine And.intro (by first | rfl | omega | (simp; done)) ?_)
    refine hK _ _ (.mk (awl_live' [0, 1, 7, 8, 9] fun ρ hL => ?_))
    try simp only [go_sem, simprocAttr, h0, h1, h7, h8, hc] at hL
    try clear h0 h1 h7 h8
    obtain ⟨h0, h1, h7, h8, h9⟩ := hL
    clear hK K
    refine awl_seq ?_
    refine awl_cond h9 (fun c1 => ?_) (fun c1 => ?_)
    ·
      try simp only [cnd] at c1
      have hi1 : i < xs.length := by omega
      refine awl_skip ?_
      refine awl_seq ?_
      refine awl_block fun R1 hw1 hR1 => ?_
      refine awl_seq ?_
      refine awl_regS [(some 10, (.move (.tmp 8)), none), (some 5, (.assign (.tmp 10)), none)] rfl fun K hK => ?_
      try simp only [go_sem, simprocAttr, h0, h1, h7, h8, h9, hi1, hc]
      repeat' (refine And.intro (by first | rfl | omega | (simp; done)) ?_)
      refine hK _ _ (.mk (awl_live' [0, 1, 5, 7, 8] fun ρ hL => ?_))
      try simp only [go_sem, simprocAttr, h0, h1, h7, h8, h9, hi1, hc] at hL
      try clear h0 h1 h7 h8 h9
      obtain ⟨h0, h1, h5, h7, h8⟩ := hL
      clear hK K
      refine awl_seq ?_
      refine awl_regS [(some 11, (.move (.tmp 1)), none), (some 12, (.move (.tmp 0)), none), (some 13, (.move (.tmp 5)), none), (some 14, (.indexAddr 59 (.tmp 12) (.tmp 13)), none), (some 15, (.load 96 (.tmp 14)), none), (some 16, (.call ⟨(.value (.tmp 11)), #[(.tmp 15)], #[96]⟩), none)] rfl fun K hK => ?_
      try simp only [go_sem, simprocAttr, h0, h1, h5, h7, h8, hi1, hc]
      repeat' (refine And.intro (by first | rfl | omega | (simp; done)) ?_)
      refine opS_call_ro (by simp only [go_sem, simprocAttr, h0, h1, h5, h7, h8, hi1, hc]; exact rfl) (hg (xs.getD i noEnt)) ?ha ?hv ?hh ?_
      case ha => simp only [go_sem, simprocAttr, h0, h1, h5, h7, h8, hi1, hc]; first | done | rfl
      case hv => first | rfl | (simp only [go_sem]; done)
      case hh => first | rfl | (simp only [go_sem]; done)
      try simp only [go_sem, simprocAttr, h0, h1, h5, h7, h8, hi1, hc]
      repeat' (refine And.intro (by first | rfl | omega | (simp; done)) ?_)
      refine hK _ _ (.mk (awl_live' [0, 1, 5, 7, 8, 16] fun ρ hL => ?_))
      try simp only [go_sem, simprocAttr, h0, h1, h5, h7, h8, hi1, hc] at hL
      try clear h0 h1 h5 h7 h8
      obtain ⟨h0, h1, h5, h7, h8, h16⟩ := hL
      clear hK K
      refine awl_cond h16 (fun c2 => ?_) (fun c2 => ?_)
      ·
        try simp only [cnd] at c2
        refine awl_seq ?_
        refine awl_regS [(some 17, (.move (.tmp 5)), none), (some 4, (.assign (.tmp 17)), none)] rfl fun K hK => ?_
        try simp only [go_sem, simprocAttr, h0, h1, h5, h7, h8, h16, hi1, hc]
        repeat' (refine And.intro (by first | rfl | omega | (simp; done)) ?_)
        refine hK _ _ (.mk (awl_live' [4] fun ρ hL => ?_))
        try simp only [go_sem, simprocAttr, h0, h1, h5, h7, h8, h16, hi1, hc] at hL
        try clear h0 h1 h5 h7 h8 h16
        have h4 := hL
        clear hL
        clear hK K
        refine awl_ret ?_
        refine blk_ret ?_
        refine loop_ret ?_
        refine ret0 (by simp only [go_sem, simprocAttr, h4, hi1, hc]; exact rfl) ?_
        try simp only [go_sem, simprocAttr]
        all_goals try clear hR1
        all_goals (have := firstAt_drop (p := p) (d := noEnt) xs i 0 hi1; rw [← i1_1]; simp only [Nat.zero_add] at this; rw [this, if_pos (by simpa using c2)])
      ·
        try simp only [cnd] at c2
        refine awl_skip ?_
        refine awl_nil ?_
        refine blk_normal (hR1 _ _ (.mk ?_))
        have w1 : IntKind.i64.wrap ((i : Int) + 1) = ((i + 1 : Nat) : Int) := by rw [wrap64 (by omega)]; omega
        refine awl_regS [(some 18, (.binOp .add 3 (.tmp 8) (.const (.int .i64 1)) 3), none), (some 8, (.move (.tmp 18)), none)] rfl fun K hK => ?_
        try simp only [go_sem, simprocAttr, h0, h1, h5, h7, h8, h16, hi1, w1, hc]
        repeat' (refine And.intro (by first | rfl | omega | (simp; done)) ?_)
        refine hK _ _ (.mk (awl_live' [0, 1, 7, 8] fun ρ hL => ?_))
        try simp only [go_sem, simprocAttr, h0, h1, h5, h7, h8, h16, hi1, w1, hc] at hL
        try clear h0 h1 h5 h7 h8 h16
        obtain ⟨h0, h1, h7, h8⟩ := hL
        clear hK K
        refine awl_nil ?_
        refine loop_again _ ?meas ⟨i + 1, rfl, (by omega), (by have := firstAt_drop (p := p) (d := noEnt) xs i 0 hi1; rw [← i1_1]; simp only [Nat.zero_add] at this; rw [this, if_neg (by simpa using c2)]), (by simp only [go_sem, simprocAttr, h0, h1, h7, h8, hi1, hc, e1_0, e1_1, e1_7]), (h8), rfl⟩
        case meas => subst hn; omega
    ·
      try simp only [cnd] at c1
      refine awl_exit ?_
      refine loop_break ?_
      exact ⟨(by rw [← i1_1, List.drop_of_length_le (by omega)]; rfl), (by simp only [go_sem, simprocAttr, h0, h1, h7, h8, h9, hc, e1_0, e1_1, e1_7]), rfl⟩
  case after1 =>
    obtain ⟨j1_0, hL, hG⟩ := hJ
    subst hG
    clear h0 h1 h7 h8
    clear hL
    refine awl_seq ?_
    refine awl_regS [(some 4, (.assign (.const (.int .i64 (-1)))), none)] rfl fun K hK => ?_
    try simp only [go_sem, simprocAttr, hc]
    repeat' (refine And.intro (by first | rfl | omega | (simp; done)) ?_)
    refine hK _ _ (.mk (awl_live' [4] fun ρ hL => ?_))
    try simp only [go_sem, simprocAttr, hc] at hL
    have h4 := hL
    clear hL
    clear hK K
    refine awl_ret ?_
    refine ret0 (by simp only [go_sem, simprocAttr, h4, hc]; exact rfl) ?_
    try simp only [go_sem, simprocAttr]
    all_goals try clear hR1
    all_goals (rw [j1_0])
set_option maxHeartbeats 8000000 in
set_option maxRecDepth 100000 in
theorem sat_slices_ContainsFunc_impl_Entry_impl_Entry (xs : List Ent) (g : FuncId) (cap : List AV) (p : Ent → Bool) (hb : xs.length ≤ 1099511627776) (hc : ∀ (Hb : Heap) (inv : Nat → Option Nat) (n : Nat), cap.map (bor Hb inv (n + 2)) = cap) (hg : ∀ x : Ent, Sat Try.prog g (.agg (Ent.cells x) :: cap) [] (.bool (p x)) []) : Sat Try.prog 83 [.sl xs.length xs.length (rows xs), .func g [] cap] [] (.bool (xs.any p)) [] := by
  refine sat_mk [.tmp 4] 0 9 Try.call83 Try.func83 Try.ntmps83 rfl rfl rfl rfl rfl ?_
  refine awl_live' [0, 1] fun ρ hL => ?_
  try simp only [go_sem, simprocAttr, hc] at hL
  obtain ⟨h0, h1⟩ := hL
  refine awl_seq ?_
  refine awl_regS [(some 4, (.assign (.const (.bool false))), none)] rfl fun K hK => ?_
  try simp only [go_sem, simprocAttr, h0, h1, hc]
  repeat' (refine And.intro (by first | rfl | omega | (simp; done)) ?_)
  refine hK _ _ (.mk (awl_live' [0, 1] fun ρ hL => ?_))
  try simp only [go_sem, simprocAttr, h0, h1, hc] at hL
  try clear h0 h1
  obtain ⟨h0, h1⟩ := hL
  clear hK K
  refine awl_seq ?_
  refine awl_regS [(some 5, (.move (.tmp 0)), none), (some 6, (.move (.tmp 1)), none), (some 7, (.call ⟨(.value (.func 125)), #[(.tmp 5), (.tmp 6)], #[59, 107]⟩), none), (some 8, (.binOp .geq 3 (.tmp 7) (.const (.int .i64 0)) 3), none), (some 4, (.assign (.tmp 8)), none)] rfl fun K hK => ?_
  try simp only [go_sem, simprocAttr, h0, h1, hc]
  repeat' (refine And.intro (by first | rfl | omega | (simp; done)) ?_)
  refine opS_call_ro rfl (sat_slices_IndexFunc_impl_Entry_impl_Entry xs g cap p ?hp0 ?hp1 ?hp2) ?ha ?hv ?hh ?_
  case ha => simp only [go_sem, simprocAttr, h0, h1, hc]; first | done | rfl
  case hp0 => first | assumption | omega | (simp; done)
  case hp1 => first | assumption | omega | (simp; done)
  case hp2 => first | assumption | omega | (simp; done)
  case hv => first | rfl | (simp only [go_sem]; done)
  case hh => first | rfl | (simp only [go_sem]; done)
  try simp only [go_sem, simprocAttr, h0, h1, hc]
  repeat' (refine And.intro (by first | rfl | omega | (simp; done)) ?_)
  refine hK _ _ (.mk (awl_live' [4] fun ρ hL => ?_))
  try simp only [go_sem, simprocAttr, h0, h1, hc] at hL
  try clear h0 h1
  have h4 := hL
  clear hL
  clear hK K
  refine awl_ret ?_
  refine ret0 (by simp only [go_sem, simprocAttr, h4, hc]; exact rfl) ?_
  try simp only [go_sem, simprocAttr]
  all_goals (have := firstAt_neg (p := p) xs 0; cases h : xs.any p <;> simp_all)
set_option maxHeartbeats 8000000 in
set_option maxRecDepth 100000 in
theorem sat_laws_toIns (x : Ins)  : Sat Try.prog 143 [.agg x.cells] [] (.agg x.cells) [] := by
  refine sat_mk [.cell 2 94] 0 20 Try.call143 Try.func143 Try.ntmps143 rfl rfl rfl rfl rfl ?_
  refine awl_live' [0] fun ρ hL => ?_
  try simp only [go_sem, simprocAttr] at hL
  have h0 := hL
  clear hL
  refine awl_seq ?_
  refine awl_regS [(some 1, (.box 130 (.tmp 0)), none), (some 2, (.alloc 94), none)] rfl fun K hK => ?_
  try simp only [go_sem, simprocAttr, h0]
  repeat' (refine And.intro (by first | rfl | omega | (simp; done)) ?_)
  refine hK _ _ (.mk (awl_live' [1, 2] fun ρ hL => ?_))
  try simp only [go_sem, simprocAttr, h0] at hL
  try clear h0
  obtain ⟨h1, h2⟩ := hL
  clear hK K
  refine awl_seq ?_
  refine awl_regS [(some 3, (.alloc 94), none)] rfl fun K hK => ?_
  try simp only [go_sem, simprocAttr, h1, h2]
  repeat' (refine And.intro (by first | rfl | omega | (simp; done)) ?_)
  refine hK _ _ (.mk (awl_live' [1, 2, 3] fun ρ hL => ?_))
  try simp only [go_sem, simprocAttr, h1, h2] at hL
  try clear h1 h2
  obtain ⟨h1, h2, h3⟩ := hL
  clear hK K
  refine awl_seq ?_
  refine awl_regS [(some 4, (.fieldAddr 130 (.tmp 1) 0), none), (some 5, (.load 3 (.tmp 4)), none), (some 6, (.fieldAddr 94 (.tmp 3) 0), none), (none, (.store 3 (.tmp 6) (.tmp 5)), none)] rfl fun K hK => ?_
  try simp only [go_sem, simprocAttr, h1, h2, h3]
  repeat' (refine And.intro (by first | rfl | omega | (simp; done)) ?_)
  refine hK _ _ (.mk (awl_live' [1, 2, 3] fun ρ hL => ?_))
  try simp only [go_sem, simprocAttr, h1, h2, h3] at hL
  try clear h1 h2 h3
  obtain ⟨h1, h2, h3⟩ := hL
  clear hK K
  refine awl_seq ?_
  refine awl_regS [(some 7, (.fieldAddr 130 (.tmp 1) 1), none), (some 8, (.load 3 (.tmp 7)), none), (some 9, (.fieldAddr 94 (.tmp 3) 1), none), (none, (.store 3 (.tmp 9) (.tmp 8)), none)] rfl fun K hK => ?_
  try simp only [go_sem, simprocAttr, h1, h2, h3]
  repeat' (refine And.intro (by first | rfl | omega | (simp; done)) ?_)
  refine hK _ _ (.mk (awl_live' [1, 2, 3] fun ρ hL => ?_))
  try simp only [go_sem, simprocAttr, h1, h2, h3] at hL
  try clear h1 h2 h3
  obtain ⟨h1, h2, h3⟩ := hL
  clear hK K
  refine awl_seq ?_
  refine awl_regS [(some 10, (.fieldAddr 130 (.tmp 1) 2), none), (some 11, (.load 3 (.tmp 10)), none), (some 12, (.fieldAddr 94 (.tmp 3) 2), none), (none, (.store 3 (.tmp 12) (.tmp 11)), none)] rfl fun K hK => ?_
  try simp only [go_sem, simprocAttr, h1, h2, h3]
  repeat' (refine And.intro (by first | rfl | omega | (simp; done)) ?_)
  refine hK _ _ (.mk (awl_live' [1, 2, 3] fun ρ hL => ?_))
  try simp only [go_sem, simprocAttr, h1, h2, h3] at hL
  try clear h1 h2 h3
  obtain ⟨h1, h2, h3⟩ := hL
  clear hK K
  refine awl_seq ?_
  refine awl_regS [(some 13, (.fieldAddr 130 (.tmp 1) 3), none), (some 14, (.load 3 (.tmp 13)), none), (some 15, (.fieldAddr 94 (.tmp 3) 3), none), (none, (.store 3 (.tmp 15) (.tmp 14)), none)] rfl fun K hK => ?_
  try simp only [go_sem, simprocAttr, h1, h2, h3]
  repeat' (refine And.intro (by first | rfl | omega | (simp; done)) ?_)
  refine hK _ _ (.mk (awl_live' [1, 2, 3] fun ρ hL => ?_))
  try simp only [go_sem, simprocAttr, h1, h2, h3] at hL
  try clear h1 h2 h3
  obtain ⟨h1, h2, h3⟩ := hL
  clear hK K
  refine awl_seq ?_
  refine awl_regS [(some 16, (.fieldAddr 130 (.tmp 1) 4), none), (some 17, (.load 3 (.tmp 16)), none), (some 18, (.fieldAddr 94 (.tmp 3) 4), none), (none, (.store 3 (.tmp 18) (.tmp 17)), none)] rfl fun K hK => ?_
  try simp only [go_sem, simprocAttr, h1, h2, h3]
  repeat' (refine And.intro (by first | rfl | omega | (simp; done)) ?_)
  refine hK _ _ (.mk (awl_live' [2, 3] fun ρ hL => ?_))
  try simp only [go_sem, simprocAttr, h1, h2, h3] at hL
  try clear h1 h2 h3
  obtain ⟨h2, h3⟩ := hL
  clear hK K
  refine awl_seq ?_
  refine awl_regS [(some 19, (.load 94 (.tmp 3)), none), (none, (.store 94 (.tmp 2) (.tmp 19)), none)] rfl fun K hK => ?_
  try simp only [go_sem, simprocAttr, h2, h3]
  repeat' (refine And.intro (by first | rfl | omega | (simp; done)) ?_)
  refine hK _ _ (.mk (awl_live' [2] fun ρ hL => ?_))
  try simp only [go_sem, simprocAttr, h2, h3] at hL
  try clear h2 h3
  have h2 := hL
  clear hL
  clear hK K
  refine awl_ret ?_
  refine ret0 (by simp only [go_sem, simprocAttr, h2]; exact rfl) ?_
  try simp only [go_sem, simprocAttr]
  all_goals (first | done | rfl | (simp; done) | (simp [inR]; done) | (simp_all [inR]; done) | (simp [inR]; grind))
set_option maxHeartbeats 8000000 in
set_option maxRecDepth 100000 in
theorem sat_laws_toEffect (x : Fx)  : Sat Try.prog 144 [.agg x.cells] [] (.agg x.cells) [] := by
  refine sat_mk [.cell 2 92] 0 29 Try.call144 Try.func144 Try.ntmps144 rfl rfl rfl rfl rfl ?_
  refine awl_live' [0] fun ρ hL => ?_
  try simp only [go_sem, simprocAttr] at hL
  have h0 := hL
  clear hL
  refine awl_seq ?_
  refine awl_regS [(some 1, (.box 132 (.tmp 0)), none), (some 2, (.alloc 92), none)] rfl fun K hK => ?_
  try simp only [go_sem, simprocAttr, h0]
  repeat' (refine And.intro (by first | rfl | omega | (simp; done)) ?_)
  refine hK _ _ (.mk (awl_live' [1, 2] fun ρ hL => ?_))
  try simp only [go_sem, simprocAttr, h0] at hL
  try clear h0
  obtain ⟨h1, h2⟩ := hL
  clear hK K
  refine awl_seq ?_
  refine awl_regS [(some 3, (.alloc 92), none)] rfl fun K hK => ?_
  try simp only [go_sem, simprocAttr, h1, h2]
  repeat' (refine And.intro (by first | rfl | omega | (simp; done)) ?_)
  refine hK _ _ (.mk (awl_live' [1, 2, 3] fun ρ hL => ?_))
  try simp only [go_sem, simprocAttr, h1, h2] at hL
  try clear h1 h2
  obtain ⟨h1, h2, h3⟩ := hL
  clear hK K
  refine awl_seq ?_
  refine awl_regS [(some 4, (.fieldAddr 132 (.tmp 1) 0), none), (some 5, (.load 3 (.tmp 4)), none), (some 6, (.fieldAddr 92 (.tmp 3) 0), none), (none, (.store 3 (.tmp 6) (.tmp 5)), none)] rfl fun K hK => ?_
  try simp only [go_sem, simprocAttr, h1, h2, h3]
  repeat' (refine And.intro (by first | rfl | omega | (simp; done)) ?_)
  refine hK _ _ (.mk (awl_live' [1, 2, 3] fun ρ hL => ?_))
  try simp only [go_sem, simprocAttr, h1, h2, h3] at hL
  try clear h1 h2 h3
  obtain ⟨h1, h2, h3⟩ := hL
  clear hK K
  refine awl_seq ?_
  refine awl_regS [(some 7, (.fieldAddr 132 (.tmp 1) 1), none), (some 8, (.load 3 (.tmp 7)), none), (some 9, (.fieldAddr 92 (.tmp 3) 1), none), (none, (.store 3 (.tmp 9) (.tmp 8)), none)] rfl fun K hK => ?_
  try simp only [go_sem, simprocAttr, h1, h2, h3]
  repeat' (refine And.intro (by first | rfl | omega | (simp; done)) ?_)
  refine hK _ _ (.mk (awl_live' [1, 2, 3] fun ρ hL => ?_))
  try simp only [go_sem, simprocAttr, h1, h2, h3] at hL
  try clear h1 h2 h3
  obtain ⟨h1, h2, h3⟩ := hL
  clear hK K
  refine awl_seq ?_
  refine awl_regS [(some 10, (.fieldAddr 132 (.tmp 1) 2), none), (some 11, (.load 31 (.tmp 10)), none), (some 12, (.call ⟨(.value (.func 35)), #[(.tmp 11)], #[31]⟩), none), (some 13, (.fieldAddr 92 (.tmp 3) 2), none), (none, (.store 42 (.tmp 13) (.tmp 12)), none)] rfl fun K hK => ?_
  try simp only [go_sem, simprocAttr, h1, h2, h3]
  repeat' (refine And.intro (by first | rfl | omega | (simp; done)) ?_)
  refine opS_call_ro rfl (sat_laws_toWord ?_) ?ha ?hv ?hh ?_
  case ha => simp only [go_sem, simprocAttr, h1, h2, h3]; first | done | rfl
  case hv => first | rfl | (simp only [go_sem]; done)
  case hh => first | rfl | (simp only [go_sem]; done)
  try simp only [go_sem, simprocAttr, h1, h2, h3]
  repeat' (refine And.intro (by first | rfl | omega | (simp; done)) ?_)
  refine hK _ _ (.mk (awl_live' [1, 2, 3] fun ρ hL => ?_))
  try simp only [go_sem, simprocAttr, h1, h2, h3] at hL
  try clear h1 h2 h3
  obtain ⟨h1, h2, h3⟩ := hL
  clear hK K
  refine awl_seq ?_
  refine awl_regS [(some 14, (.fieldAddr 132 (.tmp 1) 3), none), (some 15, (.load 31 (.tmp 14)), none), (some 16, (.call ⟨(.value (.func 35)), #[(.tmp 15)], #[31]⟩), none), (some 17, (.fieldAddr 92 (.tmp 3) 3), none), (none, (.store 42 (.tmp 17) (.tmp 16)), none)] rfl fun K hK => ?_
  try simp only [go_sem, simprocAttr, h1, h2, h3]
  repeat' (refine And.intro (by first | rfl | omega | (simp; done)) ?_)
  refine opS_call_ro rfl (sat_laws_toWord ?_) ?ha ?hv ?hh ?_
  case ha => simp only [go_sem, simprocAttr, h1, h2, h3]; first | done | rfl
  case hv => first | rfl | (simp only [go_sem]; done)
  case hh => first | rfl | (simp only [go_sem]; done)
  try simp only [go_sem, simprocAttr, h1, h2, h3]
  repeat' (refine And.intro (by first | rfl | omega | (simp; done)) ?_)
  refine hK _ _ (.mk (awl_live' [1, 2, 3] fun ρ hL => ?_))
  try simp only [go_sem, simprocAttr, h1, h2, h3] at hL
  try clear h1 h2 h3
  obtain ⟨h1, h2, h3⟩ := hL
  clear hK K
  refine awl_seq ?_
  refine awl_regS [(some 18, (.fieldAddr 132 (.tmp 1) 4), none), (some 19, (.load 3 (.tmp 18)), none), (some 20, (.fieldAddr 92 (.tmp 3) 4), none), (none, (.store 3 (.tmp 20) (.tmp 19)), none)] rfl fun K hK => ?_
  try simp only [go_sem, simprocAttr, h1, h2, h3]
  repeat' (refine And.intro (by first | rfl | omega | (simp; done)) ?_)
  refine hK _ _ (.mk (awl_live' [1, 2, 3] fun ρ hL => ?_))
  try simp only [go_sem, simprocAttr, h1, h2, h3] at hL
  try clear h1 h2 h3
  obtain ⟨h1, h2, h3⟩ := hL
  clear hK K
  refine awl_seq ?_
  refine awl_regS [(some 21, (.fieldAddr 132 (.tmp 1) 5), none), (some 22, (.load 31 (.tmp 21)), none), (some 23, (.call ⟨(.value (.func 35)), #[(.tmp 22)], #[31]⟩), none), (some 24, (.fieldAddr 92 (.tmp 3) 5), none), (none, (.store 42 (.tmp 24) (.tmp 23)), none)] rfl fun K hK => ?_
  try simp only [go_sem, simprocAttr, h1, h2, h3]
  repeat' (refine And.intro (by first | rfl | omega | (simp; done)) ?_)
  refine opS_call_ro rfl (sat_laws_toWord ?_) ?ha ?hv ?hh ?_
  case ha => simp only [go_sem, simprocAttr, h1, h2, h3]; first | done | rfl
  case hv => first | rfl | (simp only [go_sem]; done)
  case hh => first | rfl | (simp only [go_sem]; done)
  try simp only [go_sem, simprocAttr, h1, h2, h3]
  repeat' (refine And.intro (by first | rfl | omega | (simp; done)) ?_)
  refine hK _ _ (.mk (awl_live' [1, 2, 3] fun ρ hL => ?_))
  try simp only [go_sem, simprocAttr, h1, h2, h3] at hL
  try clear h1 h2 h3
  obtain ⟨h1, h2, h3⟩ := hL
  clear hK K
  refine awl_seq ?_
  refine awl_regS [(some 25, (.fieldAddr 132 (.tmp 1) 6), none), (some 26, (.load 3 (.tmp 25)), none), (some 27, (.fieldAddr 92 (.tmp 3) 6), none), (none, (.store 3 (.tmp 27) (.tmp 26)), none)] rfl fun K hK => ?_
  try simp only [go_sem, simprocAttr, h1, h2, h3]
  repeat' (refine And.intro (by first | rfl | omega | (simp; done)) ?_)
  refine hK _ _ (.mk (awl_live' [2, 3] fun ρ hL => ?_))
  try simp only [go_sem, simprocAttr, h1, h2, h3] at hL
  try clear h1 h2 h3
  obtain ⟨h2, h3⟩ := hL
  clear hK K
  refine awl_seq ?_
  refine awl_regS [(some 28, (.load 92 (.tmp 3)), none), (none, (.store 92 (.tmp 2) (.tmp 28)), none)] rfl fun K hK => ?_
  try simp only [go_sem, simprocAttr, h2, h3]
  repeat' (refine And.intro (by first | rfl | omega | (simp; done)) ?_)
  refine hK _ _ (.mk (awl_live' [2] fun ρ hL => ?_))
  try simp only [go_sem, simprocAttr, h2, h3] at hL
  try clear h2 h3
  have h2 := hL
  clear hL
  clear hK K
  refine awl_ret ?_
  refine ret0 (by simp only [go_sem, simprocAttr, h2]; exact rfl) ?_
  try simp only [go_sem, simprocAttr]
  all_goals (first | done | rfl | (simp; done) | (simp [inR]; done) | (simp_all [inR]; done) | (simp [inR]; grind))
set_option maxHeartbeats 8000000 in
set_option maxRecDepth 100000 in
theorem sat_laws_toEntry (x : Ent)  : Sat Try.prog 115 [.agg x.cells] [] (.agg x.cells) [] := by
  refine sat_mk [.cell 2 96] 0 24 Try.call115 Try.func115 Try.ntmps115 rfl rfl rfl rfl rfl ?_
  refine awl_live' [0] fun ρ hL => ?_
  try simp only [go_sem, simprocAttr] at hL
  have h0 := hL
  clear hL
  refine awl_seq ?_
  refine awl_regS [(some 1, (.box 134 (.tmp 0)), none), (some 2, (.alloc 96), none)] rfl fun K hK => ?_
  try simp only [go_sem, simprocAttr, h0]
  repeat' (refine And.intro (by first | rfl | omega | (simp; done)) ?_)
  refine hK _ _ (.mk (awl_live' [1, 2] fun ρ hL => ?_))
  try simp only [go_sem, simprocAttr, h0] at hL
  try clear h0
  obtain ⟨h1, h2⟩ := hL
  clear hK K
  refine awl_seq ?_
  refine awl_regS [(some 3, (.alloc 96), none)] rfl fun K hK => ?_
  try simp only [go_sem, simprocAttr, h1, h2]
  repeat' (refine And.intro (by first | rfl | omega | (simp; done)) ?_)
  refine hK _ _ (.mk (awl_live' [1, 2, 3] fun ρ hL => ?_))
  try simp only [go_sem, simprocAttr, h1, h2] at hL
  try clear h1 h2
  obtain ⟨h1, h2, h3⟩ := hL
  clear hK K
  refine awl_seq ?_
  refine awl_regS [(some 4, (.fieldAddr 134 (.tmp 1) 0), none), (some 5, (.load 31 (.tmp 4)), none), (some 6, (.call ⟨(.value (.func 35)), #[(.tmp 5)], #[31]⟩), none), (some 7, (.fieldAddr 96 (.tmp 3) 0), none), (none, (.store 42 (.tmp 7) (.tmp 6)), none)] rfl fun K hK => ?_
  try simp only [go_sem, simprocAttr, h1, h2, h3]
  repeat' (refine And.intro (by first | rfl | omega | (simp; done)) ?_)
  refine opS_call_ro rfl (sat_laws_toWord ?_) ?ha ?hv ?hh ?_
  case ha => simp only [go_sem, simprocAttr, h1, h2, h3]; first | done | rfl
  case hv => first | rfl | (simp only [go_sem]; done)
  case hh => first | rfl | (simp only [go_sem]; done)
  try simp only [go_sem, simprocAttr, h1, h2, h3]
  repeat' (refine And.intro (by first | rfl | omega | (simp; done)) ?_)
  refine hK _ _ (.mk (awl_live' [1, 2, 3] fun ρ hL => ?_))
  try simp only [go_sem, simprocAttr, h1, h2, h3] at hL
  try clear h1 h2 h3
  obtain ⟨h1, h2, h3⟩ := hL
  clear hK K
  refine awl_seq ?_
  refine awl_regS [(some 8, (.fieldAddr 134 (.tmp 1) 1), none), (some 9, (.load 130 (.tmp 8)), none), (some 10, (.call ⟨(.value (.func 143)), #[(.tmp 9)], #[130]⟩), none), (some 11, (.fieldAddr 96 (.tmp 3) 1), none), (none, (.store 94 (.tmp 11) (.tmp 10)), none)] rfl fun K hK => ?_
  try simp only [go_sem, simprocAttr, h1, h2, h3]
  repeat' (refine And.intro (by first | rfl | omega | (simp; done)) ?_)
  refine opS_call_ro rfl (sat_laws_toIns ?_) ?ha ?hv ?hh ?_
  case ha => simp only [go_sem, simprocAttr, h1, h2, h3]; first | done | rfl
  case hv => first | rfl | (simp only [go_sem]; done)
  case hh => first | rfl | (simp only [go_sem]; done)
  try simp only [go_sem, simprocAttr, h1, h2, h3]
  repeat' (refine And.intro (by first | rfl | omega | (simp; done)) ?_)
  refine hK _ _ (.mk (awl_live' [1, 2, 3] fun ρ hL => ?_))
  try simp only [go_sem, simprocAttr, h1, h2, h3] at hL
  try clear h1 h2 h3
  obtain ⟨h1, h2, h3⟩ := hL
  clear hK K
  refine awl_seq ?_
  refine awl_regS [(some 12, (.fieldAddr 134 (.tmp 1) 2), none), (some 13, (.load 4 (.tmp 12)), none), (some 14, (.fieldAddr 96 (.tmp 3) 2), none), (none, (.store 4 (.tmp 14) (.tmp 13)), none)] rfl fun K hK => ?_
  try simp only [go_sem, simprocAttr, h1, h2, h3]
  repeat' (refine And.intro (by first | rfl | omega | (simp; done)) ?_)
  refine hK _ _ (.mk (awl_live' [1, 2, 3] fun ρ hL => ?_))
  try simp only [go_sem, simprocAttr, h1, h2, h3] at hL
  try clear h1 h2 h3
  obtain ⟨h1, h2, h3⟩ := hL
  clear hK K
  refine awl_seq ?_
  refine awl_regS [(some 15, (.fieldAddr 134 (.tmp 1) 3), none), (some 16, (.load 132 (.tmp 15)), none), (some 17, (.call ⟨(.value (.func 144)), #[(.tmp 16)], #[132]⟩), none), (some 18, (.fieldAddr 96 (.tmp 3) 3), none), (none, (.store 92 (.tmp 18) (.tmp 17)), none)] rfl fun K hK => ?_
  try simp only [go_sem, simprocAttr, h1, h2, h3]
  repeat' (refine And.intro (by first | rfl | omega | (simp; done)) ?_)
  refine opS_call_ro rfl (sat_laws_toEffect ?_) ?ha ?hv ?hh ?_
  case ha => simp only [go_sem, simprocAttr, h1, h2, h3]; first | done | rfl
  case hv => first | rfl | (simp only [go_sem]; done)
  case hh => first | rfl | (simp only [go_sem]; done)
  try simp only [go_sem, simprocAttr, h1, h2, h3]
  repeat' (refine And.intro (by first | rfl | omega | (simp; done)) ?_)
  refine hK _ _ (.mk (awl_live' [1, 2, 3] fun ρ hL => ?_))
  try simp only [go_sem, simprocAttr, h1, h2, h3] at hL
  try clear h1 h2 h3
  obtain ⟨h1, h2, h3⟩ := hL
  clear hK K
  refine awl_seq ?_
  refine awl_regS [(some 19, (.fieldAddr 134 (.tmp 1) 4), none), (some 20, (.load 31 (.tmp 19)), none), (some 21, (.call ⟨(.value (.func 35)), #[(.tmp 20)], #[31]⟩), none), (some 22, (.fieldAddr 96 (.tmp 3) 4), none), (none, (.store 42 (.tmp 22) (.tmp 21)), none)] rfl fun K hK => ?_
  try simp only [go_sem, simprocAttr, h1, h2, h3]
  repeat' (refine And.intro (by first | rfl | omega | (simp; done)) ?_)
  refine opS_call_ro rfl (sat_laws_toWord ?_) ?ha ?hv ?hh ?_
  case ha => simp only [go_sem, simprocAttr, h1, h2, h3]; first | done | rfl
  case hv => first | rfl | (simp only [go_sem]; done)
  case hh => first | rfl | (simp only [go_sem]; done)
  try simp only [go_sem, simprocAttr, h1, h2, h3]
  repeat' (refine And.intro (by first | rfl | omega | (simp; done)) ?_)
  refine hK _ _ (.mk (awl_live' [2, 3] fun ρ hL => ?_))
  try simp only [go_sem, simprocAttr, h1, h2, h3] at hL
  try clear h1 h2 h3
  obtain ⟨h2, h3⟩ := hL
  clear hK K
  refine awl_seq ?_
  refine awl_regS [(some 23, (.load 96 (.tmp 3)), none), (none, (.store 96 (.tmp 2) (.tmp 23)), none)] rfl fun K hK => ?_
  try simp only [go_sem, simprocAttr, h2, h3]
  repeat' (refine And.intro (by first | rfl | omega | (simp; done)) ?_)
  refine hK _ _ (.mk (awl_live' [2] fun ρ hL => ?_))
  try simp only [go_sem, simprocAttr, h2, h3] at hL
  try clear h2 h3
  have h2 := hL
  clear hL
  clear hK K
  refine awl_ret ?_
  refine ret0 (by simp only [go_sem, simprocAttr, h2]; exact rfl) ?_
  try simp only [go_sem, simprocAttr]
  all_goals (first | done | rfl | (simp; done) | (simp [inR]; done) | (simp_all [inR]; done) | (simp [inR]; grind))
end Go.Proofs.Ytgddflnhibhacaa.AM
