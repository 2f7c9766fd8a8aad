/- Reading memory, finding, and what is ready. No conditions but those each theorem bears. -/
import Derived.Test.YtgddflnhibhacaaFa
import Derived.Test.YtgddflnhibhacaaSp8
import Derived.Test.YtgddflnhibhacaaCa14
set_option linter.unusedSimpArgs false
set_option linter.unusedVariables false
namespace Go.Proofs.Ytgddflnhibhacaa.AM
open Go

set_option maxHeartbeats 8000000 in
set_option maxRecDepth 100000 in
theorem sat_spec_Filter (m : Mem) (w : Word) (hf : m.fit) : Sat Try.prog 73 [.agg m.cells, .agg w.cells] [] (.agg (Word.cells (filt m w))) [] := by
  refine sat_mk [.cell 4 42] 0 29 Try.call73 Try.func73 Try.ntmps73 rfl rfl rfl rfl rfl ?_
  refine awl_live' [0, 1] fun ρ hL => ?_
  try simp only [go_sem, simprocAttr] at hL
  obtain ⟨h0, h1⟩ := hL
  refine awl_seq ?_
  refine awl_regS [(some 2, (.box 44 (.tmp 0)), none), (some 3, (.box 42 (.tmp 1)), none), (some 4, (.alloc 42), none)] rfl fun K hK => ?_
  try simp only [go_sem, simprocAttr, h0, h1]
  repeat' (refine And.intro (by first | rfl | omega | (simp; done)) ?_)
  refine hK _ _ (.mk (awl_live' [2, 3, 4] fun ρ hL => ?_))
  try simp only [go_sem, simprocAttr, h0, h1] at hL
  try clear h0 h1
  obtain ⟨h2, h3, h4⟩ := hL
  clear hK K
  refine awl_seq ?_
  refine awl_seq ?_
  have hg := hf.2
  have w0 : IntKind.i64.wrap ((m.gone.length : Int) - 1) = (m.gone.length : Int) - 1 := wrap64 (by omega)
  refine awl_regS [(some 5, (.fieldAddr 42 (.tmp 3) 1), none), (some 6, (.load 4 (.tmp 5)), none), (some 7, (.move (.tmp 6)), none), (some 8, (.fieldAddr 42 (.tmp 3) 2), some (7, true)), (some 9, (.fieldAddr 40 (.tmp 8) 0), some (7, true)), (some 10, (.load 3 (.tmp 9)), some (7, true)), (some 11, (.fieldAddr 44 (.tmp 2) 1), some (7, true)), (some 12, (.load 32 (.tmp 11)), some (7, true)), (some 13, (.call ⟨(.builtin .len), #[(.tmp 12)], #[32]⟩), some (7, true)), (some 14, (.binOp .sub 3 (.tmp 13) (.const (.int .i64 1)) 3), some (7, true)), (some 15, (.call ⟨(.value (.func 89)), #[(.tmp 10), (.const (.int .i64 0)), (.tmp 14)], #[3, 3, 3]⟩), some (7, true)), (some 16, (.pick (.tmp 7) (.tmp 15) (.const (.bool false))), none), (some 17, (.move (.tmp 16)), none), (some 18, (.fieldAddr 44 (.tmp 2) 1), some (17, true)), (some 19, (.load 32 (.tmp 18)), some (17, true)), (some 20, (.fieldAddr 42 (.tmp 3) 2), some (17, true)), (some 21, (.fieldAddr 40 (.tmp 20) 0), some (17, true)), (some 22, (.load 3 (.tmp 21)), some (17, true)), (some 23, (.indexAddr 32 (.tmp 19) (.tmp 22)), some (17, true)), (some 24, (.load 4 (.tmp 23)), some (17, true)), (some 25, (.pick (.tmp 17) (.tmp 24) (.const (.bool false))), none)] rfl fun K hK => ?_
  try simp only [go_sem, simprocAttr, h2, h3, h4, w0]
  repeat' (refine And.intro (by first | rfl | omega | (simp; done)) ?_)
  refine awpS_live [2, 3, 4, 7] fun ρ hL => ?_
  try simp only [go_sem, simprocAttr, h2, h3, h4, w0] at hL
  try clear h2 h3 h4
  obtain ⟨h2, h3, h4, h7⟩ := hL
  refine grp_andN (tc := 7) (tv := 15) (td := 16) (v := ?v1) 8 rfl [2, 3, 4] h7 rfl (fun hb K1 hK1 => ?run) (fun hb => ?skip) (fun ρ hP hL => ?_)
  case skip =>
    exact awpS_skip (want := true) (b := _) (by rw [hb]; rfl) _ [] ρ h7 (fun _ _ => rfl) (by simp) rfl
  case run =>
    simp only [List.take_succ_cons, List.take_zero]
    rw [hb] at h7
    try simp only [go_sem, simprocAttr, h2, h3, h4, h7, w0]
    repeat' (refine And.intro (by first | rfl | omega | (simp; done)) ?_)
    refine opS_call_ro rfl (sat_spec_l1In ?_ ?_ ?_) ?ha ?hv ?hh ?_
    case ha => simp only [go_sem, simprocAttr, h2, h3, h4, h7, w0]; first | done | rfl
    case hv => first | rfl | (simp only [go_sem]; done)
    case hh => first | rfl | (simp only [go_sem]; done)
    try simp only [go_sem, simprocAttr, h2, h3, h4, h7, w0]
    repeat' (refine And.intro (by first | rfl | omega | (simp; done)) ?_)
    exact hK1 _ (by simp only [go_sem, simprocAttr, h2, h3, h4, h7, w0]) (by simp only [go_sem, simprocAttr, h2, h3, h4, h7, w0]; exact rfl) (by simp only [go_sem, simprocAttr, h2, h3, h4, h7, w0])
  simp only [List.drop_succ_cons, List.drop_zero]
  try simp only [go_sem, simprocAttr, h2, h3, h4, h7, w0] at hL
  try clear h2 h3 h4 h7
  obtain ⟨h2, h3, h4⟩ := hL
  have h16 := hP
  clear hP
  try simp only [go_sem, simprocAttr, h2, h3, h4, h16, w0]
  repeat' (refine And.intro (by first | rfl | omega | (simp; done)) ?_)
  refine awpS_live [2, 3, 4, 17] fun ρ hL => ?_
  try simp only [go_sem, simprocAttr, h2, h3, h4, h16, w0] at hL
  try clear h2 h3 h4 h16
  obtain ⟨h2, h3, h4, h17⟩ := hL
  refine grp_andN (tc := 17) (tv := 24) (td := 25) (v := ?v2) 7 rfl [3, 4] h17 rfl (fun hb K1 hK1 => ?run) (fun hb => ?skip) (fun ρ hP hL => ?_)
  case skip =>
    exact awpS_skip (want := true) (b := _) (by rw [hb]; rfl) _ [] ρ h17 (fun _ _ => rfl) (by simp) rfl
  case run =>
    simp only [List.take_succ_cons, List.take_zero]
    rw [hb] at h17
    have hw := inR_iff.1 (Bool.and_eq_true_iff.1 hb).2
    have hn2 : w.key.base.toNat < m.gone.length := by omega
    try simp only [go_sem, simprocAttr, h2, h3, h4, h17, hn2, w0]
    repeat' (refine And.intro (by first | rfl | omega | (simp; done)) ?_)
    exact hK1 _ (by simp only [go_sem, simprocAttr, h2, h3, h4, h17, hn2, w0]) (by simp only [go_sem, simprocAttr, h2, h3, h4, h17, hn2, w0]; exact rfl) (by simp only [go_sem, simprocAttr, h2, h3, h4, h17, hn2, w0])
  simp only [List.drop_succ_cons, List.drop_zero]
  try simp only [go_sem, simprocAttr, h2, h3, h4, h17, w0] at hL
  try clear h2 h3 h4 h17
  obtain ⟨h3, h4⟩ := hL
  have h25 := hP
  clear hP
  try simp only [go_sem, simprocAttr, h3, h4, h25, w0]
  repeat' (refine And.intro (by first | rfl | omega | (simp; done)) ?_)
  refine hK _ _ (.mk (awl_live' [3, 4, 25] fun ρ hL => ?_))
  try simp only [go_sem, simprocAttr, h3, h4, h25, w0] at hL
  try clear h3 h4 h25
  obtain ⟨h3, h4, h25⟩ := hL
  clear hK K
  refine awl_cond h25 (fun c1 => ?_) (fun c1 => ?_)
  ·
    try simp only [cnd] at c1
    refine awl_seq ?_
    refine awl_regS [(some 26, (.load 42 (.tmp 3)), none), (some 27, (.call ⟨(.value (.func 119)), #[(.tmp 26)], #[42]⟩), none), (none, (.store 42 (.tmp 4) (.tmp 27)), none)] rfl fun K hK => ?_
    try simp only [go_sem, simprocAttr, h3, h4, h25]
    repeat' (refine And.intro (by first | rfl | omega | (simp; done)) ?_)
    refine opS_call_ro rfl (sat_spec_Bare ?_) ?ha ?hv ?hh ?_
    case ha => simp only [go_sem, simprocAttr, h3, h4, h25]; first | done | rfl
    case hv => first | rfl | (simp only [go_sem]; done)
    case hh => first | rfl | (simp only [go_sem]; done)
    try simp only [go_sem, simprocAttr, h3, h4, h25]
    repeat' (refine And.intro (by first | rfl | omega | (simp; done)) ?_)
    refine hK _ _ (.mk (awl_live' [4] fun ρ hL => ?_))
    try simp only [go_sem, simprocAttr, h3, h4, h25] at hL
    try clear h3 h4 h25
    have h4 := hL
    clear hL
    clear hK K
    refine awl_ret ?_
    refine ret0 (by simp only [go_sem, simprocAttr, h4]; exact rfl) ?_
    try simp only [go_sem, simprocAttr]
    all_goals (rw [filt, if_pos ⟨c1.1.1, c1.1.2, c1.2⟩] <;> rfl)
  ·
    try simp only [cnd] at c1
    refine awl_skip ?_
    refine awl_seq ?_
    refine awl_regS [(some 28, (.load 42 (.tmp 3)), none), (none, (.store 42 (.tmp 4) (.tmp 28)), none)] rfl fun K hK => ?_
    try simp only [go_sem, simprocAttr, h3, h4, h25]
    repeat' (refine And.intro (by first | rfl | omega | (simp; done)) ?_)
    refine hK _ _ (.mk (awl_live' [4] fun ρ hL => ?_))
    try simp only [go_sem, simprocAttr, h3, h4, h25] at hL
    try clear h3 h4 h25
    have h4 := hL
    clear hL
    clear hK K
    refine awl_ret ?_
    refine ret0 (by simp only [go_sem, simprocAttr, h4]; exact rfl) ?_
    try simp only [go_sem, simprocAttr]
    all_goals (rw [filt, if_neg (by rintro ⟨a, b, d⟩; rw [a, b, d] at c1; simp at c1)])
set_option maxHeartbeats 8000000 in
set_option maxRecDepth 100000 in
theorem sat_spec_Read (m : Mem) (by_ : Word) (n : Int) (hf : m.fit) : Sat Try.prog 71 [.agg m.cells, .agg by_.cells, .int .i64 n] [] (.tuple [.agg (Word.cells (read m by_ n).1), .int .i64 (read m by_ n).2]) [] := by
  refine sat_mk [.cell 6 42, .tmp 7] 0 36 Try.call71 Try.func71 Try.ntmps71 rfl rfl rfl rfl rfl ?_
  refine awl_live' [0, 1, 2] fun ρ hL => ?_
  try simp only [go_sem, simprocAttr] at hL
  obtain ⟨h0, h1, h2⟩ := hL
  refine awl_seq ?_
  refine awl_regS [(some 3, (.box 44 (.tmp 0)), none), (some 4, (.box 42 (.tmp 1)), none), (some 6, (.alloc 42), none), (some 7, (.assign (.const (.int .i64 0))), none)] rfl fun K hK => ?_
  try simp only [go_sem, simprocAttr, h0, h1, h2]
  repeat' (refine And.intro (by first | rfl | omega | (simp; done)) ?_)
  refine hK _ _ (.mk (awl_live' [2, 3, 4, 6] fun ρ hL => ?_))
  try simp only [go_sem, simprocAttr, h0, h1, h2] at hL
  try clear h0 h1 h2
  obtain ⟨h2, h3, h4, h6⟩ := hL
  clear hK K
  refine awl_seq ?_
  refine awl_regS [(some 9, (.load 42 (.tmp 4)), none), (some 10, (.move (.tmp 2)), none), (some 11, (.call ⟨(.value (.func 118)), #[(.tmp 9), (.tmp 10), (.const (.int .i64 1))], #[42, 3, 3]⟩), none), (some 8, (.assign (.tmp 11)), none)] rfl fun K hK => ?_
  try simp only [go_sem, simprocAttr, h2, h3, h4, h6]
  repeat' (refine And.intro (by first | rfl | omega | (simp; done)) ?_)
  refine opS_call_ro rfl (sat_spec_Try by_ n 1) ?ha ?hv ?hh ?_
  case ha => simp only [go_sem, simprocAttr, h2, h3, h4, h6]; first | done | rfl
  case hv => first | rfl | (simp only [go_sem]; done)
  case hh => first | rfl | (simp only [go_sem]; done)
  try simp only [go_sem, simprocAttr, h2, h3, h4, h6]
  repeat' (refine And.intro (by first | rfl | omega | (simp; done)) ?_)
  refine hK _ _ (.mk (awl_live' [2, 3, 4, 6, 8] fun ρ hL => ?_))
  try simp only [go_sem, simprocAttr, h2, h3, h4, h6] at hL
  try clear h2 h3 h4 h6
  obtain ⟨h2, h3, h4, h6, h8⟩ := hL
  clear hK K
  refine awl_seq ?_
  refine awl_seq ?_
  have hg := hf.1
  have w0 : IntKind.i64.wrap ((m.words.length : Int) - 1) = (m.words.length : Int) - 1 := wrap64 (by omega)
  refine awl_regS [(some 12, (.move (.tmp 8)), none), (some 13, (.binOp .eql 3 (.tmp 12) (.const (.int .i64 0)) 3), none), (some 14, (.move (.tmp 13)), none), (some 15, (.move (.tmp 2)), some (14, true)), (some 16, (.fieldAddr 44 (.tmp 3) 0), some (14, true)), (some 17, (.load 38 (.tmp 16)), some (14, true)), (some 18, (.call ⟨(.builtin .len), #[(.tmp 17)], #[38]⟩), some (14, true)), (some 19, (.binOp .sub 3 (.tmp 18) (.const (.int .i64 1)) 3), some (14, true)), (some 20, (.call ⟨(.value (.func 89)), #[(.tmp 15), (.const (.int .i64 0)), (.tmp 19)], #[3, 3, 3]⟩), some (14, true)), (some 21, (.unOp .not 4 (.tmp 20)), some (14, true)), (some 22, (.pick (.tmp 14) (.tmp 21) (.const (.bool false))), none)] rfl fun K hK => ?_
  try simp only [go_sem, simprocAttr, h2, h3, h4, h6, h8, w0]
  repeat' (refine And.intro (by first | rfl | omega | (simp; done)) ?_)
  refine awpS_live [2, 3, 4, 6, 8, 14] fun ρ hL => ?_
  try simp only [go_sem, simprocAttr, h2, h3, h4, h6, h8, w0] at hL
  try clear h2 h3 h4 h6 h8
  obtain ⟨h2, h3, h4, h6, h8, h14⟩ := hL
  refine grp_andN (tc := 14) (tv := 21) (td := 22) (v := ?v1) 7 rfl [2, 3, 4, 6, 8] h14 rfl (fun hb K1 hK1 => ?run) (fun hb => ?skip) (fun ρ hP hL => ?_)
  case skip =>
    exact awpS_skip (want := true) (b := _) (by rw [hb]; rfl) _ [] ρ h14 (fun _ _ => rfl) (by simp) rfl
  case run =>
    simp only [List.take_succ_cons, List.take_zero]
    rw [hb] at h14
    try simp only [go_sem, simprocAttr, h2, h3, h4, h6, h8, h14, w0]
    repeat' (refine And.intro (by first | rfl | omega | (simp; done)) ?_)
    refine opS_call_ro rfl (sat_spec_l1In ?_ ?_ ?_) ?ha ?hv ?hh ?_
    case ha => simp only [go_sem, simprocAttr, h2, h3, h4, h6, h8, h14, w0]; first | done | rfl
    case hv => first | rfl | (simp only [go_sem]; done)
    case hh => first | rfl | (simp only [go_sem]; done)
    try simp only [go_sem, simprocAttr, h2, h3, h4, h6, h8, h14, w0]
    repeat' (refine And.intro (by first | rfl | omega | (simp; done)) ?_)
    exact hK1 _ (by simp only [go_sem, simprocAttr, h2, h3, h4, h6, h8, h14, w0]) (by simp only [go_sem, simprocAttr, h2, h3, h4, h6, h8, h14, w0]; exact rfl) (by simp only [go_sem, simprocAttr, h2, h3, h4, h6, h8, h14, w0])
  simp only [List.drop_succ_cons, List.drop_zero]
  try simp only [go_sem, simprocAttr, h2, h3, h4, h6, h8, h14, w0] at hL
  try clear h2 h3 h4 h6 h8 h14
  obtain ⟨h2, h3, h4, h6, h8⟩ := hL
  have h22 := hP
  clear hP
  try simp only [go_sem, simprocAttr, h2, h3, h4, h6, h8, h22, w0]
  repeat' (refine And.intro (by first | rfl | omega | (simp; done)) ?_)
  refine hK _ _ (.mk (awl_live' [2, 3, 4, 6, 8, 22] fun ρ hL => ?_))
  try simp only [go_sem, simprocAttr, h2, h3, h4, h6, h8, h22, w0] at hL
  try clear h2 h3 h4 h6 h8 h22
  obtain ⟨h2, h3, h4, h6, h8, h22⟩ := hL
  clear hK K
  have j1_2 := h2
  have j1_3 := h3
  have j1_4 := h4
  have j1_6 := h6
  refine awl_joinH (fun H0 σ G => liveE [2, 3, 4, 6] σ ρ ∧ σ 8 = .int .i64 (readT m by_ n) ∧ G = H0) ?inner1 (fun ρ G hJ => ?after1)
  case inner1 =>
    refine awl_cond h22 (fun c1 => ?_) (fun c1 => ?_)
    ·
      try simp only [cnd] at c1
      refine awl_regS [(some 8, (.assign (.const (.int .i64 4))), none)] rfl fun K hK => ?_
      try simp only [go_sem, simprocAttr, h2, h3, h4, h6, h8, h22]
      repeat' (refine And.intro (by first | rfl | omega | (simp; done)) ?_)
      refine hK _ _ (.mk (awl_live' [2, 3, 4, 6, 8] fun ρ hL => ?_))
      try simp only [go_sem, simprocAttr, h2, h3, h4, h6, h8, h22] at hL
      try clear h2 h3 h4 h6 h8 h22
      obtain ⟨h2, h3, h4, h6, h8⟩ := hL
      clear hK K
      refine awl_nil ?_
      show wkQ _ _ _ _
      refine .mk ⟨(by simp only [go_sem, simprocAttr, h2, h3, h4, h6, h8, j1_2, j1_3, j1_4, j1_6]), (by rw [h8]; congr 1; unfold readT; split <;> simp_all), rfl⟩
    ·
      try simp only [cnd] at c1
      refine awl_skip ?_
      refine awl_nil ?_
      show wkQ _ _ _ _
      refine .mk ⟨(by simp only [go_sem, simprocAttr, h2, h3, h4, h6, h8, h22, j1_2, j1_3, j1_4, j1_6]), (by rw [h8]; congr 1; unfold readT; split <;> simp_all), rfl⟩
  case after1 =>
    obtain ⟨hL, k8, hG⟩ := hJ
    subst hG
    try simp only [go_sem, simprocAttr, h2, h3, h4, h6, h8, h22] at hL
    clear h2 h3 h4 h6 h8 h22
    obtain ⟨h2, h3, h4, h6⟩ := hL
    have h8 := k8
    clear k8
    refine awl_seq ?_
    refine awl_seq ?_
    refine awl_regS [(some 23, (.move (.tmp 8)), none), (some 24, (.binOp .neq 3 (.tmp 23) (.const (.int .i64 0)) 3), none)] rfl fun K hK => ?_
    try simp only [go_sem, simprocAttr, h2, h3, h4, h6, h8]
    repeat' (refine And.intro (by first | rfl | omega | (simp; done)) ?_)
    refine hK _ _ (.mk (awl_live' [2, 3, 4, 6, 8, 24] fun ρ hL => ?_))
    try simp only [go_sem, simprocAttr, h2, h3, h4, h6, h8] at hL
    try clear h2 h3 h4 h6 h8
    obtain ⟨h2, h3, h4, h6, h8, h24⟩ := hL
    clear hK K
    refine awl_cond h24 (fun c2 => ?_) (fun c2 => ?_)
    ·
      try simp only [cnd] at c2
      refine awl_seq ?_
      refine awl_regS [(some 25, (.build 42 #[]), none), (some 26, (.move (.tmp 8)), none), (none, (.store 42 (.tmp 6) (.tmp 25)), none), (some 7, (.assign (.tmp 26)), none)] rfl fun K hK => ?_
      try simp only [go_sem, simprocAttr, h2, h3, h4, h6, h8, h24]
      repeat' (refine And.intro (by first | rfl | omega | (simp; done)) ?_)
      refine hK _ _ (.mk (awl_live' [6, 7] fun ρ hL => ?_))
      try simp only [go_sem, simprocAttr, h2, h3, h4, h6, h8, h24] at hL
      try clear h2 h3 h4 h6 h8 h24
      obtain ⟨h6, h7⟩ := hL
      clear hK K
      refine awl_ret ?_
      refine ret0 (by simp only [go_sem, simprocAttr, h6, h7]; exact rfl) ?_
      try simp only [go_sem, simprocAttr]
      all_goals (rw [read_no (by omega)]; rfl)
    ·
      try simp only [cnd] at c2
      refine awl_skip ?_
      refine awl_seq ?_
      have hr0 : readT m by_ n = 0 := by omega
      have hr := inR_iff.1 (read_in hr0)
      have hn2 : n.toNat < m.words.length := by omega
      refine awl_regD mixed [(some 27, (.load 44 (.tmp 3)), none), (some 28, (.load 42 (.tmp 4)), none), (some 29, (.fieldAddr 44 (.tmp 3) 0), none), (some 30, (.load 38 (.tmp 29)), none), (some 31, (.move (.tmp 2)), none), (some 32, (.indexAddr 38 (.tmp 30) (.tmp 31)), none), (some 33, (.load 42 (.tmp 32)), none), (some 34, (.call ⟨(.value (.func 74)), #[(.tmp 28), (.tmp 33)], #[42, 42]⟩), none), (some 35, (.call ⟨(.value (.func 73)), #[(.tmp 27), (.tmp 34)], #[44, 42]⟩), none), (none, (.store 42 (.tmp 6) (.tmp 35)), none), (some 7, (.assign (.const (.int .i64 0))), none)] rfl fun K hK => ?_
      try simp only [go_sem, simprocAttr, h2, h3, h4, h6, h8, h24, hn2]
      repeat' (refine And.intro (by first | omega | (exact ⟨[0, 0, 0, 4, 0, 28, 60, 126, 255, 511, 1023], by kernel_rfl⟩) | kernel_rfl) ?_)
      refine dS_call_ro rfl (sat_spec_Taken by_ (m.words.getD n.toNat noWord)) ?ha ?hv ?hh ?_
      case ha => simp only [go_sem, simprocAttr, h2, h3, h4, h6, h8, h24, hn2]; first | done | rfl
      case hv => first | rfl | (simp only [go_sem]; done)
      case hh => first | rfl | (simp only [go_sem]; done)
      try simp only [go_sem, simprocAttr, h2, h3, h4, h6, h8, h24, hn2]
      repeat' (refine And.intro (by first | omega | (exact ⟨[0, 0, 0, 4, 0, 28, 60, 126, 255, 511, 1023], by kernel_rfl⟩) | kernel_rfl) ?_)
      refine dS_call_ro rfl (sat_spec_Filter m (taken by_ (m.words.getD n.toNat noWord)) hf) ?ha ?hv ?hh ?_
      case ha => simp only [go_sem, simprocAttr, h2, h3, h4, h6, h8, h24, hn2]; first | done | rfl
      case hv => first | rfl | (simp only [go_sem]; done)
      case hh => first | rfl | (simp only [go_sem]; done)
      try simp only [go_sem, simprocAttr, h2, h3, h4, h6, h8, h24, hn2]
      repeat' (refine And.intro (by first | omega | (exact ⟨[0, 0, 0, 4, 0, 28, 60, 126, 255, 511, 1023], by kernel_rfl⟩) | kernel_rfl) ?_)
      refine hK _ _ (.mk (awl_live' [6, 7] fun ρ hL => ?_))
      try simp only [go_sem, simprocAttr, h2, h3, h4, h6, h8, h24, hn2] at hL
      try clear h2 h3 h4 h6 h8 h24
      obtain ⟨h6, h7⟩ := hL
      clear hK K
      refine awl_ret ?_
      refine ret0 (by simp only [go_sem, simprocAttr, h6, h7]; exact rfl) ?_
      try simp only [go_sem, simprocAttr]
      all_goals (rw [read_ok hr0])
set_option maxHeartbeats 8000000 in
set_option maxRecDepth 100000 in
theorem sat_impl_Filter (m : Mem) (w : Word) (hf : m.fit) : Sat Try.prog 77 [.agg m.cells, .agg w.cells] [] (.agg (Word.cells (filt m w))) [] := by
  refine sat_mk [.cell 4 42] 0 29 Try.call77 Try.func77 Try.ntmps77 rfl rfl rfl rfl rfl ?_
  refine awl_live' [0, 1] fun ρ hL => ?_
  try simp only [go_sem, simprocAttr] at hL
  obtain ⟨h0, h1⟩ := hL
  refine awl_seq ?_
  refine awl_regS [(some 2, (.box 44 (.tmp 0)), none), (some 3, (.box 42 (.tmp 1)), none), (some 4, (.alloc 42), none)] rfl fun K hK => ?_
  try simp only [go_sem, simprocAttr, h0, h1]
  repeat' (refine And.intro (by first | rfl | omega | (simp; done)) ?_)
  refine hK _ _ (.mk (awl_live' [2, 3, 4] fun ρ hL => ?_))
  try simp only [go_sem, simprocAttr, h0, h1] at hL
  try clear h0 h1
  obtain ⟨h2, h3, h4⟩ := hL
  clear hK K
  refine awl_seq ?_
  refine awl_seq ?_
  have hg := hf.2
  have w0 : IntKind.i64.wrap ((m.gone.length : Int) - 1) = (m.gone.length : Int) - 1 := wrap64 (by omega)
  refine awl_regS [(some 5, (.fieldAddr 42 (.tmp 3) 1), none), (some 6, (.load 4 (.tmp 5)), none), (some 7, (.move (.tmp 6)), none), (some 8, (.fieldAddr 42 (.tmp 3) 2), some (7, true)), (some 9, (.fieldAddr 40 (.tmp 8) 0), some (7, true)), (some 10, (.load 3 (.tmp 9)), some (7, true)), (some 11, (.fieldAddr 44 (.tmp 2) 1), some (7, true)), (some 12, (.load 32 (.tmp 11)), some (7, true)), (some 13, (.call ⟨(.builtin .len), #[(.tmp 12)], #[32]⟩), some (7, true)), (some 14, (.binOp .sub 3 (.tmp 13) (.const (.int .i64 1)) 3), some (7, true)), (some 15, (.call ⟨(.value (.func 91)), #[(.tmp 10), (.const (.int .i64 0)), (.tmp 14)], #[3, 3, 3]⟩), some (7, true)), (some 16, (.pick (.tmp 7) (.tmp 15) (.const (.bool false))), none), (some 17, (.move (.tmp 16)), none), (some 18, (.fieldAddr 44 (.tmp 2) 1), some (17, true)), (some 19, (.load 32 (.tmp 18)), some (17, true)), (some 20, (.fieldAddr 42 (.tmp 3) 2), some (17, true)), (some 21, (.fieldAddr 40 (.tmp 20) 0), some (17, true)), (some 22, (.load 3 (.tmp 21)), some (17, true)), (some 23, (.indexAddr 32 (.tmp 19) (.tmp 22)), some (17, true)), (some 24, (.load 4 (.tmp 23)), some (17, true)), (some 25, (.pick (.tmp 17) (.tmp 24) (.const (.bool false))), none)] rfl fun K hK => ?_
  try simp only [go_sem, simprocAttr, h2, h3, h4, w0]
  repeat' (refine And.intro (by first | rfl | omega | (simp; done)) ?_)
  refine awpS_live [2, 3, 4, 7] fun ρ hL => ?_
  try simp only [go_sem, simprocAttr, h2, h3, h4, w0] at hL
  try clear h2 h3 h4
  obtain ⟨h2, h3, h4, h7⟩ := hL
  refine grp_andN (tc := 7) (tv := 15) (td := 16) (v := ?v1) 8 rfl [2, 3, 4] h7 rfl (fun hb K1 hK1 => ?run) (fun hb => ?skip) (fun ρ hP hL => ?_)
  case skip =>
    exact awpS_skip (want := true) (b := _) (by rw [hb]; rfl) _ [] ρ h7 (fun _ _ => rfl) (by simp) rfl
  case run =>
    simp only [List.take_succ_cons, List.take_zero]
    rw [hb] at h7
    try simp only [go_sem, simprocAttr, h2, h3, h4, h7, w0]
    repeat' (refine And.intro (by first | rfl | omega | (simp; done)) ?_)
    refine opS_call_ro rfl (sat_impl_in ?_ ?_ ?_) ?ha ?hv ?hh ?_
    case ha => simp only [go_sem, simprocAttr, h2, h3, h4, h7, w0]; first | done | rfl
    case hv => first | rfl | (simp only [go_sem]; done)
    case hh => first | rfl | (simp only [go_sem]; done)
    try simp only [go_sem, simprocAttr, h2, h3, h4, h7, w0]
    repeat' (refine And.intro (by first | rfl | omega | (simp; done)) ?_)
    exact hK1 _ (by simp only [go_sem, simprocAttr, h2, h3, h4, h7, w0]) (by simp only [go_sem, simprocAttr, h2, h3, h4, h7, w0]; exact rfl) (by simp only [go_sem, simprocAttr, h2, h3, h4, h7, w0])
  simp only [List.drop_succ_cons, List.drop_zero]
  try simp only [go_sem, simprocAttr, h2, h3, h4, h7, w0] at hL
  try clear h2 h3 h4 h7
  obtain ⟨h2, h3, h4⟩ := hL
  have h16 := hP
  clear hP
  try simp only [go_sem, simprocAttr, h2, h3, h4, h16, w0]
  repeat' (refine And.intro (by first | rfl | omega | (simp; done)) ?_)
  refine awpS_live [2, 3, 4, 17] fun ρ hL => ?_
  try simp only [go_sem, simprocAttr, h2, h3, h4, h16, w0] at hL
  try clear h2 h3 h4 h16
  obtain ⟨h2, h3, h4, h17⟩ := hL
  refine grp_andN (tc := 17) (tv := 24) (td := 25) (v := ?v2) 7 rfl [3, 4] h17 rfl (fun hb K1 hK1 => ?run) (fun hb => ?skip) (fun ρ hP hL => ?_)
  case skip =>
    exact awpS_skip (want := true) (b := _) (by rw [hb]; rfl) _ [] ρ h17 (fun _ _ => rfl) (by simp) rfl
  case run =>
    simp only [List.take_succ_cons, List.take_zero]
    rw [hb] at h17
    have hw := inR_iff.1 (Bool.and_eq_true_iff.1 hb).2
    have hn2 : w.key.base.toNat < m.gone.length := by omega
    try simp only [go_sem, simprocAttr, h2, h3, h4, h17, hn2, w0]
    repeat' (refine And.intro (by first | rfl | omega | (simp; done)) ?_)
    exact hK1 _ (by simp only [go_sem, simprocAttr, h2, h3, h4, h17, hn2, w0]) (by simp only [go_sem, simprocAttr, h2, h3, h4, h17, hn2, w0]; exact rfl) (by simp only [go_sem, simprocAttr, h2, h3, h4, h17, hn2, w0])
  simp only [List.drop_succ_cons, List.drop_zero]
  try simp only [go_sem, simprocAttr, h2, h3, h4, h17, w0] at hL
  try clear h2 h3 h4 h17
  obtain ⟨h3, h4⟩ := hL
  have h25 := hP
  clear hP
  try simp only [go_sem, simprocAttr, h3, h4, h25, w0]
  repeat' (refine And.intro (by first | rfl | omega | (simp; done)) ?_)
  refine hK _ _ (.mk (awl_live' [3, 4, 25] fun ρ hL => ?_))
  try simp only [go_sem, simprocAttr, h3, h4, h25, w0] at hL
  try clear h3 h4 h25
  obtain ⟨h3, h4, h25⟩ := hL
  clear hK K
  refine awl_cond h25 (fun c1 => ?_) (fun c1 => ?_)
  ·
    try simp only [cnd] at c1
    refine awl_seq ?_
    refine awl_regS [(some 26, (.load 42 (.tmp 3)), none), (some 27, (.call ⟨(.value (.func 121)), #[(.tmp 26)], #[42]⟩), none), (none, (.store 42 (.tmp 4) (.tmp 27)), none)] rfl fun K hK => ?_
    try simp only [go_sem, simprocAttr, h3, h4, h25]
    repeat' (refine And.intro (by first | rfl | omega | (simp; done)) ?_)
    refine opS_call_ro rfl (sat_impl_Bare ?_) ?ha ?hv ?hh ?_
    case ha => simp only [go_sem, simprocAttr, h3, h4, h25]; first | done | rfl
    case hv => first | rfl | (simp only [go_sem]; done)
    case hh => first | rfl | (simp only [go_sem]; done)
    try simp only [go_sem, simprocAttr, h3, h4, h25]
    repeat' (refine And.intro (by first | rfl | omega | (simp; done)) ?_)
    refine hK _ _ (.mk (awl_live' [4] fun ρ hL => ?_))
    try simp only [go_sem, simprocAttr, h3, h4, h25] at hL
    try clear h3 h4 h25
    have h4 := hL
    clear hL
    clear hK K
    refine awl_ret ?_
    refine ret0 (by simp only [go_sem, simprocAttr, h4]; exact rfl) ?_
    try simp only [go_sem, simprocAttr]
    all_goals (rw [filt, if_pos ⟨c1.1.1, c1.1.2, c1.2⟩] <;> rfl)
  ·
    try simp only [cnd] at c1
    refine awl_skip ?_
    refine awl_seq ?_
    refine awl_regS [(some 28, (.load 42 (.tmp 3)), none), (none, (.store 42 (.tmp 4) (.tmp 28)), none)] rfl fun K hK => ?_
    try simp only [go_sem, simprocAttr, h3, h4, h25]
    repeat' (refine And.intro (by first | rfl | omega | (simp; done)) ?_)
    refine hK _ _ (.mk (awl_live' [4] fun ρ hL => ?_))
    try simp only [go_sem, simprocAttr, h3, h4, h25] at hL
    try clear h3 h4 h25
    have h4 := hL
    clear hL
    clear hK K
    refine awl_ret ?_
    refine ret0 (by simp only [go_sem, simprocAttr, h4]; exact rfl) ?_
    try simp only [go_sem, simprocAttr]
    all_goals (rw [filt, if_neg (by rintro ⟨a, b, d⟩; rw [a, b, d] at c1; simp at c1)])
set_option maxHeartbeats 8000000 in
set_option maxRecDepth 100000 in
theorem sat_impl_Read (m : Mem) (by_ : Word) (n : Int) (hf : m.fit) : Sat Try.prog 76 [.agg m.cells, .agg by_.cells, .int .i64 n] [] (.tuple [.agg (Word.cells (read m by_ n).1), .int .i64 (read m by_ n).2]) [] := by
  refine sat_mk [.cell 6 42, .tmp 7] 0 36 Try.call76 Try.func76 Try.ntmps76 rfl rfl rfl rfl rfl ?_
  refine awl_live' [0, 1, 2] fun ρ hL => ?_
  try simp only [go_sem, simprocAttr] at hL
  obtain ⟨h0, h1, h2⟩ := hL
  refine awl_seq ?_
  refine awl_regS [(some 3, (.box 44 (.tmp 0)), none), (some 4, (.box 42 (.tmp 1)), none), (some 6, (.alloc 42), none), (some 7, (.assign (.const (.int .i64 0))), none)] rfl fun K hK => ?_
  try simp only [go_sem, simprocAttr, h0, h1, h2]
  repeat' (refine And.intro (by first | rfl | omega | (simp; done)) ?_)
  refine hK _ _ (.mk (awl_live' [2, 3, 4, 6] fun ρ hL => ?_))
  try simp only [go_sem, simprocAttr, h0, h1, h2] at hL
  try clear h0 h1 h2
  obtain ⟨h2, h3, h4, h6⟩ := hL
  clear hK K
  refine awl_seq ?_
  refine awl_regS [(some 9, (.load 42 (.tmp 4)), none), (some 10, (.move (.tmp 2)), none), (some 11, (.call ⟨(.value (.func 120)), #[(.tmp 9), (.tmp 10), (.const (.int .i64 1))], #[42, 3, 3]⟩), none), (some 8, (.assign (.tmp 11)), none)] rfl fun K hK => ?_
  try simp only [go_sem, simprocAttr, h2, h3, h4, h6]
  repeat' (refine And.intro (by first | rfl | omega | (simp; done)) ?_)
  refine opS_call_ro rfl (sat_impl_Try by_ n 1 (by decide)) ?ha ?hv ?hh ?_
  case ha => simp only [go_sem, simprocAttr, h2, h3, h4, h6]; first | done | rfl
  case hv => first | rfl | (simp only [go_sem]; done)
  case hh => first | rfl | (simp only [go_sem]; done)
  try simp only [go_sem, simprocAttr, h2, h3, h4, h6]
  repeat' (refine And.intro (by first | rfl | omega | (simp; done)) ?_)
  refine hK _ _ (.mk (awl_live' [2, 3, 4, 6, 8] fun ρ hL => ?_))
  try simp only [go_sem, simprocAttr, h2, h3, h4, h6] at hL
  try clear h2 h3 h4 h6
  obtain ⟨h2, h3, h4, h6, h8⟩ := hL
  clear hK K
  refine awl_seq ?_
  refine awl_seq ?_
  have hg := hf.1
  have w0 : IntKind.i64.wrap ((m.words.length : Int) - 1) = (m.words.length : Int) - 1 := wrap64 (by omega)
  refine awl_regS [(some 12, (.move (.tmp 8)), none), (some 13, (.binOp .eql 3 (.tmp 12) (.const (.int .i64 0)) 3), none), (some 14, (.move (.tmp 13)), none), (some 15, (.move (.tmp 2)), some (14, true)), (some 16, (.fieldAddr 44 (.tmp 3) 0), some (14, true)), (some 17, (.load 38 (.tmp 16)), some (14, true)), (some 18, (.call ⟨(.builtin .len), #[(.tmp 17)], #[38]⟩), some (14, true)), (some 19, (.binOp .sub 3 (.tmp 18) (.const (.int .i64 1)) 3), some (14, true)), (some 20, (.call ⟨(.value (.func 91)), #[(.tmp 15), (.const (.int .i64 0)), (.tmp 19)], #[3, 3, 3]⟩), some (14, true)), (some 21, (.unOp .not 4 (.tmp 20)), some (14, true)), (some 22, (.pick (.tmp 14) (.tmp 21) (.const (.bool false))), none)] rfl fun K hK => ?_
  try simp only [go_sem, simprocAttr, h2, h3, h4, h6, h8, w0]
  repeat' (refine And.intro (by first | rfl | omega | (simp; done)) ?_)
  refine awpS_live [2, 3, 4, 6, 8, 14] fun ρ hL => ?_
  try simp only [go_sem, simprocAttr, h2, h3, h4, h6, h8, w0] at hL
  try clear h2 h3 h4 h6 h8
  obtain ⟨h2, h3, h4, h6, h8, h14⟩ := hL
  refine grp_andN (tc := 14) (tv := 21) (td := 22) (v := ?v1) 7 rfl [2, 3, 4, 6, 8] h14 rfl (fun hb K1 hK1 => ?run) (fun hb => ?skip) (fun ρ hP hL => ?_)
  case skip =>
    exact awpS_skip (want := true) (b := _) (by rw [hb]; rfl) _ [] ρ h14 (fun _ _ => rfl) (by simp) rfl
  case run =>
    simp only [List.take_succ_cons, List.take_zero]
    rw [hb] at h14
    try simp only [go_sem, simprocAttr, h2, h3, h4, h6, h8, h14, w0]
    repeat' (refine And.intro (by first | rfl | omega | (simp; done)) ?_)
    refine opS_call_ro rfl (sat_impl_in ?_ ?_ ?_) ?ha ?hv ?hh ?_
    case ha => simp only [go_sem, simprocAttr, h2, h3, h4, h6, h8, h14, w0]; first | done | rfl
    case hv => first | rfl | (simp only [go_sem]; done)
    case hh => first | rfl | (simp only [go_sem]; done)
    try simp only [go_sem, simprocAttr, h2, h3, h4, h6, h8, h14, w0]
    repeat' (refine And.intro (by first | rfl | omega | (simp; done)) ?_)
    exact hK1 _ (by simp only [go_sem, simprocAttr, h2, h3, h4, h6, h8, h14, w0]) (by simp only [go_sem, simprocAttr, h2, h3, h4, h6, h8, h14, w0]; exact rfl) (by simp only [go_sem, simprocAttr, h2, h3, h4, h6, h8, h14, w0])
  simp only [List.drop_succ_cons, List.drop_zero]
  try simp only [go_sem, simprocAttr, h2, h3, h4, h6, h8, h14, w0] at hL
  try clear h2 h3 h4 h6 h8 h14
  obtain ⟨h2, h3, h4, h6, h8⟩ := hL
  have h22 := hP
  clear hP
  try simp only [go_sem, simprocAttr, h2, h3, h4, h6, h8, h22, w0]
  repeat' (refine And.intro (by first | rfl | omega | (simp; done)) ?_)
  refine hK _ _ (.mk (awl_live' [2, 3, 4, 6, 8, 22] fun ρ hL => ?_))
  try simp only [go_sem, simprocAttr, h2, h3, h4, h6, h8, h22, w0] at hL
  try clear h2 h3 h4 h6 h8 h22
  obtain ⟨h2, h3, h4, h6, h8, h22⟩ := hL
  clear hK K
  have j1_2 := h2
  have j1_3 := h3
  have j1_4 := h4
  have j1_6 := h6
  refine awl_joinH (fun H0 σ G => liveE [2, 3, 4, 6] σ ρ ∧ σ 8 = .int .i64 (readT m by_ n) ∧ G = H0) ?inner1 (fun ρ G hJ => ?after1)
  case inner1 =>
    refine awl_cond h22 (fun c1 => ?_) (fun c1 => ?_)
    ·
      try simp only [cnd] at c1
      refine awl_regS [(some 8, (.assign (.const (.int .i64 4))), none)] rfl fun K hK => ?_
      try simp only [go_sem, simprocAttr, h2, h3, h4, h6, h8, h22]
      repeat' (refine And.intro (by first | rfl | omega | (simp; done)) ?_)
      refine hK _ _ (.mk (awl_live' [2, 3, 4, 6, 8] fun ρ hL => ?_))
      try simp only [go_sem, simprocAttr, h2, h3, h4, h6, h8, h22] at hL
      try clear h2 h3 h4 h6 h8 h22
      obtain ⟨h2, h3, h4, h6, h8⟩ := hL
      clear hK K
      refine awl_nil ?_
      show wkQ _ _ _ _
      refine .mk ⟨(by simp only [go_sem, simprocAttr, h2, h3, h4, h6, h8, j1_2, j1_3, j1_4, j1_6]), (by rw [h8]; congr 1; unfold readT; split <;> simp_all), rfl⟩
    ·
      try simp only [cnd] at c1
      refine awl_skip ?_
      refine awl_nil ?_
      show wkQ _ _ _ _
      refine .mk ⟨(by simp only [go_sem, simprocAttr, h2, h3, h4, h6, h8, h22, j1_2, j1_3, j1_4, j1_6]), (by rw [h8]; congr 1; unfold readT; split <;> simp_all), rfl⟩
  case after1 =>
    obtain ⟨hL, k8, hG⟩ := hJ
    subst hG
    try simp only [go_sem, simprocAttr, h2, h3, h4, h6, h8, h22] at hL
    clear h2 h3 h4 h6 h8 h22
    obtain ⟨h2, h3, h4, h6⟩ := hL
    have h8 := k8
    clear k8
    refine awl_seq ?_
    refine awl_seq ?_
    refine awl_regS [(some 23, (.move (.tmp 8)), none), (some 24, (.binOp .neq 3 (.tmp 23) (.const (.int .i64 0)) 3), none)] rfl fun K hK => ?_
    try simp only [go_sem, simprocAttr, h2, h3, h4, h6, h8]
    repeat' (refine And.intro (by first | rfl | omega | (simp; done)) ?_)
    refine hK _ _ (.mk (awl_live' [2, 3, 4, 6, 8, 24] fun ρ hL => ?_))
    try simp only [go_sem, simprocAttr, h2, h3, h4, h6, h8] at hL
    try clear h2 h3 h4 h6 h8
    obtain ⟨h2, h3, h4, h6, h8, h24⟩ := hL
    clear hK K
    refine awl_cond h24 (fun c2 => ?_) (fun c2 => ?_)
    ·
      try simp only [cnd] at c2
      refine awl_seq ?_
      refine awl_regS [(some 25, (.build 42 #[]), none), (some 26, (.move (.tmp 8)), none), (none, (.store 42 (.tmp 6) (.tmp 25)), none), (some 7, (.assign (.tmp 26)), none)] rfl fun K hK => ?_
      try simp only [go_sem, simprocAttr, h2, h3, h4, h6, h8, h24]
      repeat' (refine And.intro (by first | rfl | omega | (simp; done)) ?_)
      refine hK _ _ (.mk (awl_live' [6, 7] fun ρ hL => ?_))
      try simp only [go_sem, simprocAttr, h2, h3, h4, h6, h8, h24] at hL
      try clear h2 h3 h4 h6 h8 h24
      obtain ⟨h6, h7⟩ := hL
      clear hK K
      refine awl_ret ?_
      refine ret0 (by simp only [go_sem, simprocAttr, h6, h7]; exact rfl) ?_
      try simp only [go_sem, simprocAttr]
      all_goals (rw [read_no (by omega)]; rfl)
    ·
      try simp only [cnd] at c2
      refine awl_skip ?_
      refine awl_seq ?_
      have hr0 : readT m by_ n = 0 := by omega
      have hr := inR_iff.1 (read_in hr0)
      have hn2 : n.toNat < m.words.length := by omega
      refine awl_regD mixed [(some 27, (.load 44 (.tmp 3)), none), (some 28, (.load 42 (.tmp 4)), none), (some 29, (.fieldAddr 44 (.tmp 3) 0), none), (some 30, (.load 38 (.tmp 29)), none), (some 31, (.move (.tmp 2)), none), (some 32, (.indexAddr 38 (.tmp 30) (.tmp 31)), none), (some 33, (.load 42 (.tmp 32)), none), (some 34, (.call ⟨(.value (.func 78)), #[(.tmp 28), (.tmp 33)], #[42, 42]⟩), none), (some 35, (.call ⟨(.value (.func 77)), #[(.tmp 27), (.tmp 34)], #[44, 42]⟩), none), (none, (.store 42 (.tmp 6) (.tmp 35)), none), (some 7, (.assign (.const (.int .i64 0))), none)] rfl fun K hK => ?_
      try simp only [go_sem, simprocAttr, h2, h3, h4, h6, h8, h24, hn2]
      repeat' (refine And.intro (by first | omega | (exact ⟨[0, 0, 0, 4, 0, 28, 60, 126, 255, 511, 1023], by kernel_rfl⟩) | kernel_rfl) ?_)
      refine dS_call_ro rfl (sat_impl_Taken by_ (m.words.getD n.toNat noWord)) ?ha ?hv ?hh ?_
      case ha => simp only [go_sem, simprocAttr, h2, h3, h4, h6, h8, h24, hn2]; first | done | rfl
      case hv => first | rfl | (simp only [go_sem]; done)
      case hh => first | rfl | (simp only [go_sem]; done)
      try simp only [go_sem, simprocAttr, h2, h3, h4, h6, h8, h24, hn2]
      repeat' (refine And.intro (by first | omega | (exact ⟨[0, 0, 0, 4, 0, 28, 60, 126, 255, 511, 1023], by kernel_rfl⟩) | kernel_rfl) ?_)
      refine dS_call_ro rfl (sat_impl_Filter m (taken by_ (m.words.getD n.toNat noWord)) hf) ?ha ?hv ?hh ?_
      case ha => simp only [go_sem, simprocAttr, h2, h3, h4, h6, h8, h24, hn2]; first | done | rfl
      case hv => first | rfl | (simp only [go_sem]; done)
      case hh => first | rfl | (simp only [go_sem]; done)
      try simp only [go_sem, simprocAttr, h2, h3, h4, h6, h8, h24, hn2]
      repeat' (refine And.intro (by first | omega | (exact ⟨[0, 0, 0, 4, 0, 28, 60, 126, 255, 511, 1023], by kernel_rfl⟩) | kernel_rfl) ?_)
      refine hK _ _ (.mk (awl_live' [6, 7] fun ρ hL => ?_))
      try simp only [go_sem, simprocAttr, h2, h3, h4, h6, h8, h24, hn2] at hL
      try clear h2 h3 h4 h6 h8 h24
      obtain ⟨h6, h7⟩ := hL
      clear hK K
      refine awl_ret ?_
      refine ret0 (by simp only [go_sem, simprocAttr, h6, h7]; exact rfl) ?_
      try simp only [go_sem, simprocAttr]
      all_goals (rw [read_ok hr0])
set_option maxHeartbeats 8000000 in
set_option maxRecDepth 100000 in
theorem sat_spec_Found (c : Cor) (i : Int) (by_ : Word) (a : Int) (hf : c.fit) : Sat Try.prog 34 [.agg c.cells, .int .i64 i, .agg by_.cells, .int .i64 a] [] (.tuple [.agg (Word.cells (found c i by_ a).1), .int .i64 (found c i by_ a).2]) [] := by
  refine sat_mk [.cell 8 42, .tmp 9] 0 74 Try.call34 Try.func34 Try.ntmps34 rfl rfl rfl rfl rfl ?_
  refine awl_live' [0, 1, 2, 3] fun ρ hL => ?_
  try simp only [go_sem, simprocAttr] at hL
  obtain ⟨h0, h1, h2, h3⟩ := hL
  refine awl_seq ?_
  have hf1 := hf.2.1
  refine awl_regS [(some 4, (.box 61 (.tmp 0)), none), (some 6, (.box 42 (.tmp 2)), none), (some 8, (.alloc 42), none), (some 9, (.assign (.const (.int .i64 0))), none)] rfl fun K hK => ?_
  try simp only [go_sem, simprocAttr, h0, h1, h2, h3]
  repeat' (refine And.intro (by first | rfl | omega | (simp; done)) ?_)
  refine hK _ _ (.mk (awl_live' [1, 3, 4, 6, 8] fun ρ hL => ?_))
  try simp only [go_sem, simprocAttr, h0, h1, h2, h3] at hL
  try clear h0 h1 h2 h3
  obtain ⟨h1, h3, h4, h6, h8⟩ := hL
  clear hK K
  refine awl_seq ?_
  refine awl_regS [(some 15, (.fieldAddr 61 (.tmp 4) 0), none), (some 16, (.fieldAddr 46 (.tmp 15) 2), none), (some 17, (.load 44 (.tmp 16)), none), (some 18, (.load 42 (.tmp 6)), none), (some 19, (.move (.tmp 3)), none), (some 20, (.call ⟨(.value (.func 71)), #[(.tmp 17), (.tmp 18), (.tmp 19)], #[44, 42, 3]⟩), none), (some 14, (.move (.tmp 20)), none), (some 21, (.extract (.tmp 14) 0), none), (some 22, (.extract (.tmp 14) 1), none), (some 10, (.alloc 42), none), (none, (.store 42 (.tmp 10) (.tmp 21)), none), (some 11, (.assign (.tmp 22)), none)] rfl fun K hK => ?_
  try simp only [go_sem, simprocAttr, h1, h3, h4, h6, h8]
  repeat' (refine And.intro (by first | rfl | omega | (simp; done)) ?_)
  refine opS_call_ro rfl (sat_spec_Read c.s.mem by_ a hf.1.2) ?ha ?hv ?hh ?_
  case ha => simp only [go_sem, simprocAttr, h1, h3, h4, h6, h8]; first | done | rfl
  case hv => first | rfl | (simp only [go_sem]; done)
  case hh => first | rfl | (simp only [go_sem]; done)
  try simp only [go_sem, simprocAttr, h1, h3, h4, h6, h8]
  repeat' (refine And.intro (by first | rfl | omega | (simp; done)) ?_)
  refine hK _ _ (.mk (awl_live' [1, 3, 4, 6, 8, 10, 11] fun ρ hL => ?_))
  try simp only [go_sem, simprocAttr, h1, h3, h4, h6, h8] at hL
  try clear h1 h3 h4 h6 h8
  obtain ⟨h1, h3, h4, h6, h8, h10, h11⟩ := hL
  clear hK K
  refine awl_seq ?_
  refine awl_seq ?_
  refine awl_regS [(some 23, (.move (.tmp 11)), none), (some 24, (.binOp .neq 3 (.tmp 23) (.const (.int .i64 0)) 3), none)] rfl fun K hK => ?_
  try simp only [go_sem, simprocAttr, h1, h3, h4, h6, h8, h10, h11]
  repeat' (refine And.intro (by first | rfl | omega | (simp; done)) ?_)
  refine hK _ _ (.mk (awl_live' [1, 3, 4, 6, 8, 10, 11, 24] fun ρ hL => ?_))
  try simp only [go_sem, simprocAttr, h1, h3, h4, h6, h8, h10, h11] at hL
  try clear h1 h3 h4 h6 h8 h10 h11
  obtain ⟨h1, h3, h4, h6, h8, h10, h11, h24⟩ := hL
  clear hK K
  refine awl_cond h24 (fun c1 => ?_) (fun c1 => ?_)
  ·
    try simp only [cnd] at c1
    refine awl_seq ?_
    refine awl_regS [(some 25, (.build 42 #[]), none), (some 26, (.move (.tmp 11)), none), (none, (.store 42 (.tmp 8) (.tmp 25)), none), (some 9, (.assign (.tmp 26)), none)] rfl fun K hK => ?_
    try simp only [go_sem, simprocAttr, h1, h3, h4, h6, h8, h10, h11, h24]
    repeat' (refine And.intro (by first | rfl | omega | (simp; done)) ?_)
    refine hK _ _ (.mk (awl_live' [8, 9] fun ρ hL => ?_))
    try simp only [go_sem, simprocAttr, h1, h3, h4, h6, h8, h10, h11, h24] at hL
    try clear h1 h3 h4 h6 h8 h10 h11 h24
    obtain ⟨h8, h9⟩ := hL
    clear hK K
    refine awl_ret ?_
    refine ret0 (by simp only [go_sem, simprocAttr, h8, h9]; exact rfl) ?_
    try simp only [go_sem, simprocAttr]
    all_goals (rw [found_no c1]; rfl)
  ·
    try simp only [cnd] at c1
    refine awl_skip ?_
    refine awl_seq ?_
    refine awl_seq ?_
    have w0 : IntKind.i64.wrap (max 0 (min i (c.rob.length : Int)) - 1) = max 0 (min i (c.rob.length : Int)) - 1 := wrap64 (by omega)
    refine awl_regS [(some 27, (.move (.tmp 1)), none), (some 28, (.fieldAddr 61 (.tmp 4) 1), none), (some 29, (.load 59 (.tmp 28)), none), (some 30, (.call ⟨(.builtin .len), #[(.tmp 29)], #[59]⟩), none), (some 31, (.call ⟨(.value (.func 65)), #[(.tmp 27), (.tmp 30)], #[3, 3]⟩), none), (some 32, (.call ⟨(.value (.func 72)), #[(.const (.int .i64 0)), (.tmp 31)], #[3, 3]⟩), none), (some 33, (.binOp .sub 3 (.tmp 32) (.const (.int .i64 1)) 3), none), (some 12, (.assign (.tmp 33)), none)] rfl fun K hK => ?_
    try simp only [go_sem, simprocAttr, h1, h3, h4, h6, h8, h10, h11, h24, w0]
    repeat' (refine And.intro (by first | rfl | omega | (simp; done)) ?_)
    refine opS_call_ro rfl (sat_spec_l1Min ?_ ?_) ?ha ?hv ?hh ?_
    case ha => simp only [go_sem, simprocAttr, h1, h3, h4, h6, h8, h10, h11, h24, w0]; first | done | rfl
    case hv => first | rfl | (simp only [go_sem]; done)
    case hh => first | rfl | (simp only [go_sem]; done)
    try simp only [go_sem, simprocAttr, h1, h3, h4, h6, h8, h10, h11, h24, w0]
    repeat' (refine And.intro (by first | rfl | omega | (simp; done)) ?_)
    refine opS_call_ro rfl (sat_spec_l1Max ?_ ?_) ?ha ?hv ?hh ?_
    case ha => simp only [go_sem, simprocAttr, h1, h3, h4, h6, h8, h10, h11, h24, w0]; first | done | rfl
    case hv => first | rfl | (simp only [go_sem]; done)
    case hh => first | rfl | (simp only [go_sem]; done)
    try simp only [go_sem, simprocAttr, h1, h3, h4, h6, h8, h10, h11, h24, w0]
    repeat' (refine And.intro (by first | rfl | omega | (simp; done)) ?_)
    refine hK _ _ (.mk (awl_live' [3, 4, 6, 8, 10, 12] fun ρ hL => ?_))
    try simp only [go_sem, simprocAttr, h1, h3, h4, h6, h8, h10, h11, h24, w0] at hL
    try clear h1 h3 h4 h6 h8 h10 h11 h24
    obtain ⟨h3, h4, h6, h8, h10, h12⟩ := hL
    clear hK K
    have e1_3 := h3
    have e1_4 := h4
    have e1_6 := h6
    have e1_8 := h8
    have e1_10 := h10
    refine awl_loopH (fun H0 n σ G => ∃ (m : Nat), n = m ∧ (m ≤ c.rob.length) ∧ (lastAt (puts a) noEnt c.rob m = lastAt (puts a) noEnt c.rob (upTo i c.rob.length)) ∧ liveE [3, 4, 6, 8, 10] σ ρ ∧ σ 12 = .int .i64 ((m : Int) - 1) ∧ G = H0) (fun H0 σ G => (lastAt (puts a) noEnt c.rob (upTo i c.rob.length) = -1) ∧ liveE [8, 10] σ ρ ∧ G = H0) ((fun (m : Nat) => m) (upTo i c.rob.length)) ?init1 (fun n ρ G hI => ?round1) (fun ρ G hJ => ?after1)
    case init1 => exact ⟨(upTo i c.rob.length), rfl, (upTo_le _ _), (rfl), liveE_refl _ _, (by rw [h12]; congr 1; unfold upTo; omega), rfl⟩
    case round1 =>
      obtain ⟨m, hn, i1_0, i1_1, hL, k12, hG⟩ := hI
      subst hG
      try simp only [go_sem, simprocAttr, h3, h4, h6, h8, h10, h12] at hL
      clear h3 h4 h6 h8 h10 h12
      obtain ⟨h3, h4, h6, h8, h10⟩ := hL
      have h12 := k12
      clear k12
      refine awl_seq ?_
      refine awl_seq ?_
      refine awl_regS [(some 34, (.move (.tmp 12)), none), (some 35, (.binOp .geq 3 (.tmp 34) (.const (.int .i64 0)) 3), none)] rfl fun K hK => ?_
      try simp only [go_sem, simprocAttr, h3, h4, h6, h8, h10, h12]
      repeat' (refine And.intro (by first | rfl | omega | (simp; done)) ?_)
      refine hK _ _ (.mk (awl_live' [3, 4, 6, 8, 10, 12, 35] fun ρ hL => ?_))
      try simp only [go_sem, simprocAttr, h3, h4, h6, h8, h10, h12] at hL
      try clear h3 h4 h6 h8 h10 h12
      obtain ⟨h3, h4, h6, h8, h10, h12, h35⟩ := hL
      clear hK K
      refine awl_cond h35 (fun c2 => ?_) (fun c2 => ?_)
      ·
        try simp only [cnd] at c2
        refine awl_skip ?_
        refine awl_seq ?_
        refine awl_block fun R1 hw1 hR1 => ?_
        refine awl_seq ?_
        obtain ⟨q, rfl⟩ : ∃ q : Nat, m = q + 1 := ⟨m - 1, by omega⟩
        have hq : (((q + 1 : Nat) : Int)) - 1 = (q : Int) := by omega
        rw [hq] at h12
        have hq2 : q < c.rob.length := by omega
        refine awl_regS [(some 38, (.fieldAddr 61 (.tmp 4) 1), none), (some 39, (.load 59 (.tmp 38)), none), (some 40, (.move (.tmp 12)), none), (some 41, (.indexAddr 59 (.tmp 39) (.tmp 40)), none), (some 42, (.load 96 (.tmp 41)), none), (some 13, (.alloc 96), none), (none, (.store 96 (.tmp 13) (.tmp 42)), none)] rfl fun K hK => ?_
        try simp only [go_sem, simprocAttr, h3, h4, h6, h8, h10, h12, h35, hq2]
        repeat' (refine And.intro (by first | rfl | omega | (simp; done)) ?_)
        refine hK _ _ (.mk (awl_live' [3, 4, 6, 8, 10, 12, 13] fun ρ hL => ?_))
        try simp only [go_sem, simprocAttr, h3, h4, h6, h8, h10, h12, h35, hq2] at hL
        try clear h3 h4 h6 h8 h10 h12 h35
        obtain ⟨h3, h4, h6, h8, h10, h12, h13⟩ := hL
        clear hK K
        refine awl_seq ?_
        refine awl_regS [(some 43, (.fieldAddr 96 (.tmp 13) 1), none), (some 44, (.fieldAddr 94 (.tmp 43) 0), none), (some 45, (.load 3 (.tmp 44)), none), (some 46, (.binOp .eql 3 (.tmp 45) (.const (.int .i64 11)) 3), none), (some 47, (.move (.tmp 46)), none), (some 48, (.fieldAddr 96 (.tmp 13) 2), some (47, true)), (some 49, (.load 4 (.tmp 48)), some (47, true)), (some 50, (.pick (.tmp 47) (.tmp 49) (.const (.bool false))), none), (some 51, (.move (.tmp 50)), none), (some 52, (.fieldAddr 96 (.tmp 13) 3), some (51, true)), (some 53, (.fieldAddr 92 (.tmp 52) 0), some (51, true)), (some 54, (.load 3 (.tmp 53)), some (51, true)), (some 55, (.binOp .eql 3 (.tmp 54) (.const (.int .i64 0)) 3), some (51, true)), (some 56, (.pick (.tmp 51) (.tmp 55) (.const (.bool false))), none), (some 57, (.move (.tmp 56)), none), (some 58, (.fieldAddr 96 (.tmp 13) 3), some (57, true)), (some 59, (.fieldAddr 92 (.tmp 58) 4), some (57, true)), (some 60, (.load 3 (.tmp 59)), some (57, true)), (some 61, (.move (.tmp 3)), some (57, true)), (some 62, (.binOp .eql 3 (.tmp 60) (.tmp 61) 3), some (57, true)), (some 63, (.pick (.tmp 57) (.tmp 62) (.const (.bool false))), none)] rfl fun K hK => ?_
        try simp only [go_sem, simprocAttr, h3, h4, h6, h8, h10, h12, h13]
        repeat' (refine And.intro (by first | rfl | omega | (simp; done)) ?_)
        refine awpS_live [3, 4, 6, 8, 10, 12, 13, 47] fun ρ hL => ?_
        try simp only [go_sem, simprocAttr, h3, h4, h6, h8, h10, h12, h13] at hL
        try clear h3 h4 h6 h8 h10 h12 h13
        obtain ⟨h3, h4, h6, h8, h10, h12, h13, h47⟩ := hL
        refine grp_andN (tc := 47) (tv := 49) (td := 50) (v := ?v1) 2 rfl [3, 4, 6, 8, 10, 12, 13] h47 rfl (fun hb K1 hK1 => ?run) (fun hb => ?skip) (fun ρ hP hL => ?_)
        case skip =>
          exact awpS_skip (want := true) (b := _) (by rw [hb]; rfl) _ [] ρ h47 (fun _ _ => rfl) (by simp) rfl
        case run =>
          simp only [List.take_succ_cons, List.take_zero]
          rw [hb] at h47
          try simp only [go_sem, simprocAttr, h3, h4, h6, h8, h10, h12, h13, h47]
          repeat' (refine And.intro (by first | rfl | omega | (simp; done)) ?_)
          exact hK1 _ (by simp only [go_sem, simprocAttr, h3, h4, h6, h8, h10, h12, h13, h47]) (by simp only [go_sem, simprocAttr, h3, h4, h6, h8, h10, h12, h13, h47]; exact rfl) (by simp only [go_sem, simprocAttr, h3, h4, h6, h8, h10, h12, h13, h47])
        simp only [List.drop_succ_cons, List.drop_zero]
        try simp only [go_sem, simprocAttr, h3, h4, h6, h8, h10, h12, h13, h47] at hL
        try clear h3 h4 h6 h8 h10 h12 h13 h47
        obtain ⟨h3, h4, h6, h8, h10, h12, h13⟩ := hL
        have h50 := hP
        clear hP
        try simp only [go_sem, simprocAttr, h3, h4, h6, h8, h10, h12, h13, h50]
        repeat' (refine And.intro (by first | rfl | omega | (simp; done)) ?_)
        refine awpS_live [3, 4, 6, 8, 10, 12, 13, 51] fun ρ hL => ?_
        try simp only [go_sem, simprocAttr, h3, h4, h6, h8, h10, h12, h13, h50] at hL
        try clear h3 h4 h6 h8 h10 h12 h13 h50
        obtain ⟨h3, h4, h6, h8, h10, h12, h13, h51⟩ := hL
        refine grp_andN (tc := 51) (tv := 55) (td := 56) (v := ?v2) 4 rfl [3, 4, 6, 8, 10, 12, 13] h51 rfl (fun hb K1 hK1 => ?run) (fun hb => ?skip) (fun ρ hP hL => ?_)
        case skip =>
          exact awpS_skip (want := true) (b := _) (by rw [hb]; rfl) _ [] ρ h51 (fun _ _ => rfl) (by simp) rfl
        case run =>
          simp only [List.take_succ_cons, List.take_zero]
          rw [hb] at h51
          try simp only [go_sem, simprocAttr, h3, h4, h6, h8, h10, h12, h13, h51]
          repeat' (refine And.intro (by first | rfl | omega | (simp; done)) ?_)
          exact hK1 _ (by simp only [go_sem, simprocAttr, h3, h4, h6, h8, h10, h12, h13, h51]) (by simp only [go_sem, simprocAttr, h3, h4, h6, h8, h10, h12, h13, h51]; exact rfl) (by simp only [go_sem, simprocAttr, h3, h4, h6, h8, h10, h12, h13, h51])
        simp only [List.drop_succ_cons, List.drop_zero]
        try simp only [go_sem, simprocAttr, h3, h4, h6, h8, h10, h12, h13, h51] at hL
        try clear h3 h4 h6 h8 h10 h12 h13 h51
        obtain ⟨h3, h4, h6, h8, h10, h12, h13⟩ := hL
        have h56 := hP
        clear hP
        try simp only [go_sem, simprocAttr, h3, h4, h6, h8, h10, h12, h13, h56]
        repeat' (refine And.intro (by first | rfl | omega | (simp; done)) ?_)
        refine awpS_live [3, 4, 6, 8, 10, 12, 13, 57] fun ρ hL => ?_
        try simp only [go_sem, simprocAttr, h3, h4, h6, h8, h10, h12, h13, h56] at hL
        try clear h3 h4 h6 h8 h10 h12 h13 h56
        obtain ⟨h3, h4, h6, h8, h10, h12, h13, h57⟩ := hL
        refine grp_andN (tc := 57) (tv := 62) (td := 63) (v := ?v3) 5 rfl [3, 4, 6, 8, 10, 12, 13] h57 rfl (fun hb K1 hK1 => ?run) (fun hb => ?skip) (fun ρ hP hL => ?_)
        case skip =>
          exact awpS_skip (want := true) (b := _) (by rw [hb]; rfl) _ [] ρ h57 (fun _ _ => rfl) (by simp) rfl
        case run =>
          simp only [List.take_succ_cons, List.take_zero]
          rw [hb] at h57
          try simp only [go_sem, simprocAttr, h3, h4, h6, h8, h10, h12, h13, h57]
          repeat' (refine And.intro (by first | rfl | omega | (simp; done)) ?_)
          exact hK1 _ (by simp only [go_sem, simprocAttr, h3, h4, h6, h8, h10, h12, h13, h57]) (by simp only [go_sem, simprocAttr, h3, h4, h6, h8, h10, h12, h13, h57]; exact rfl) (by simp only [go_sem, simprocAttr, h3, h4, h6, h8, h10, h12, h13, h57])
        simp only [List.drop_succ_cons, List.drop_zero]
        try simp only [go_sem, simprocAttr, h3, h4, h6, h8, h10, h12, h13, h57] at hL
        try clear h3 h4 h6 h8 h10 h12 h13 h57
        obtain ⟨h3, h4, h6, h8, h10, h12, h13⟩ := hL
        have h63 := hP
        clear hP
        try simp only [go_sem, simprocAttr, h3, h4, h6, h8, h10, h12, h13, h63]
        repeat' (refine And.intro (by first | rfl | omega | (simp; done)) ?_)
        refine hK _ _ (.mk (awl_live' [3, 4, 6, 8, 10, 12, 13, 63] fun ρ hL => ?_))
        try simp only [go_sem, simprocAttr, h3, h4, h6, h8, h10, h12, h13, h63] at hL
        try clear h3 h4 h6 h8 h10 h12 h13 h63
        obtain ⟨h3, h4, h6, h8, h10, h12, h13, h63⟩ := hL
        clear hK K
        refine awl_cond h63 (fun c3 => ?_) (fun c3 => ?_)
        ·
          try simp only [cnd] at c3
          refine awl_seq ?_
          refine awl_regD mixed [(some 64, (.fieldAddr 61 (.tmp 4) 0), none), (some 65, (.fieldAddr 46 (.tmp 64) 2), none), (some 66, (.load 44 (.tmp 65)), none), (some 67, (.load 42 (.tmp 6)), none), (some 68, (.fieldAddr 96 (.tmp 13) 3), none), (some 69, (.fieldAddr 92 (.tmp 68) 5), none), (some 70, (.load 42 (.tmp 69)), none), (some 71, (.call ⟨(.value (.func 74)), #[(.tmp 67), (.tmp 70)], #[42, 42]⟩), none), (some 72, (.call ⟨(.value (.func 73)), #[(.tmp 66), (.tmp 71)], #[44, 42]⟩), none), (none, (.store 42 (.tmp 8) (.tmp 72)), none), (some 9, (.assign (.const (.int .i64 0))), none)] rfl fun K hK => ?_
          try simp only [go_sem, simprocAttr, h3, h4, h6, h8, h10, h12, h13, h63]
          repeat' (refine And.intro (by first | omega | (exact ⟨[0, 1, 3, 0, 0, 16, 48, 120, 255, 511, 1023], by kernel_rfl⟩) | kernel_rfl) ?_)
          refine dS_call_ro rfl (sat_spec_Taken by_ (c.rob.getD q noEnt).e.put) ?ha ?hv ?hh ?_
          case ha => simp only [go_sem, simprocAttr, h3, h4, h6, h8, h10, h12, h13, h63]; first | done | rfl
          case hv => first | rfl | (simp only [go_sem]; done)
          case hh => first | rfl | (simp only [go_sem]; done)
          try simp only [go_sem, simprocAttr, h3, h4, h6, h8, h10, h12, h13, h63]
          repeat' (refine And.intro (by first | omega | (exact ⟨[0, 1, 3, 0, 0, 16, 48, 120, 255, 511, 1023], by kernel_rfl⟩) | kernel_rfl) ?_)
          refine dS_call_ro rfl (sat_spec_Filter c.s.mem (taken by_ (c.rob.getD q noEnt).e.put) hf.1.2) ?ha ?hv ?hh ?_
          case ha => simp only [go_sem, simprocAttr, h3, h4, h6, h8, h10, h12, h13, h63]; first | done | rfl
          case hv => first | rfl | (simp only [go_sem]; done)
          case hh => first | rfl | (simp only [go_sem]; done)
          try simp only [go_sem, simprocAttr, h3, h4, h6, h8, h10, h12, h13, h63]
          repeat' (refine And.intro (by first | omega | (exact ⟨[0, 1, 3, 0, 0, 16, 48, 120, 255, 511, 1023], by kernel_rfl⟩) | kernel_rfl) ?_)
          refine hK _ _ (.mk (awl_live' [8, 9] fun ρ hL => ?_))
          try simp only [go_sem, simprocAttr, h3, h4, h6, h8, h10, h12, h13, h63] at hL
          try clear h3 h4 h6 h8 h10 h12 h13 h63
          obtain ⟨h8, h9⟩ := hL
          clear hK K
          refine awl_ret ?_
          refine blk_ret ?_
          refine loop_ret ?_
          refine ret0 (by simp only [go_sem, simprocAttr, h8, h9]; exact rfl) ?_
          try simp only [go_sem, simprocAttr]
          all_goals try clear hR1
          all_goals (rw [found_hit (fun h => h c1) (q := q) (by rw [← i1_1, lastAt_hit (by simp only [puts, Bool.and_eq_true, decide_eq_true_eq]; exact c3)])])
        ·
          try simp only [cnd] at c3
          refine awl_skip ?_
          refine awl_nil ?_
          refine blk_normal (hR1 _ _ (.mk ?_))
          have wq : IntKind.i64.wrap ((q : Int) - 1) = (q : Int) - 1 := wrap64 (by omega)
          refine awl_regS [(some 36, (.move (.tmp 12)), none), (some 37, (.binOp .sub 3 (.tmp 36) (.const (.int .i64 1)) 3), none), (some 12, (.assign (.tmp 37)), none)] rfl fun K hK => ?_
          try simp only [go_sem, simprocAttr, h3, h4, h6, h8, h10, h12, h13, h63, wq]
          repeat' (refine And.intro (by first | rfl | omega | (simp; done)) ?_)
          refine hK _ _ (.mk (awl_live' [3, 4, 6, 8, 10, 12] fun ρ hL => ?_))
          try simp only [go_sem, simprocAttr, h3, h4, h6, h8, h10, h12, h13, h63, wq] at hL
          try clear h3 h4 h6 h8 h10 h12 h13 h63
          obtain ⟨h3, h4, h6, h8, h10, h12⟩ := hL
          clear hK K
          refine awl_nil ?_
          refine loop_againW (Wk.keep [0, 1, 2, 3] rfl) _ ?meas ⟨q, rfl, (by omega), (by rw [← i1_1, lastAt_miss (puts_no c3)]), (by simp only [go_sem, simprocAttr, h3, h4, h6, h8, h10, h12, e1_3, e1_4, e1_6, e1_8, e1_10]), (by simp only [go_sem, simprocAttr, h3, h4, h6, h8, h10, h12, e1_3, e1_4, e1_6, e1_8, e1_10]; first | done | rfl), (by simp only [go_sem, simprocAttr, h3, h4, h6, h8, h10, h12, e1_3, e1_4, e1_6, e1_8, e1_10]; first | done | rfl)⟩
          case meas => subst hn; omega
      ·
        try simp only [cnd] at c2
        refine awl_exit ?_
        refine loop_break ?_
        exact ⟨(by rw [← i1_1, show m = 0 by omega]; rfl), (by simp only [go_sem, simprocAttr, h3, h4, h6, h8, h10, h12, h35, e1_3, e1_4, e1_6, e1_8, e1_10]), rfl⟩
    case after1 =>
      obtain ⟨j1_0, hL, hG⟩ := hJ
      subst hG
      try simp only [go_sem, simprocAttr, h3, h4, h6, h8, h10, h12] at hL
      clear h3 h4 h6 h8 h10 h12
      obtain ⟨h8, h10⟩ := hL
      refine awl_seq ?_
      refine awl_regS [(some 73, (.load 42 (.tmp 10)), none), (none, (.store 42 (.tmp 8) (.tmp 73)), none), (some 9, (.assign (.const (.int .i64 0))), none)] rfl fun K hK => ?_
      try simp only [go_sem, simprocAttr, h8, h10]
      repeat' (refine And.intro (by first | rfl | omega | (simp; done)) ?_)
      refine hK _ _ (.mk (awl_live' [8, 9] fun ρ hL => ?_))
      try simp only [go_sem, simprocAttr, h8, h10] at hL
      try clear h8 h10
      obtain ⟨h8, h9⟩ := hL
      clear hK K
      refine awl_ret ?_
      refine ret0 (by simp only [go_sem, simprocAttr, h8, h9]; exact rfl) ?_
      try simp only [go_sem, simprocAttr]
      all_goals try clear hR1
      all_goals (rw [found_miss (fun h => h c1) j1_0])
set_option maxHeartbeats 8000000 in
set_option maxRecDepth 100000 in
theorem sat_impl_Found (c : Cor) (i : Int) (by_ : Word) (a : Int) (hf : c.fit) : Sat Try.prog 36 [.agg c.cells, .int .i64 i, .agg by_.cells, .int .i64 a] [] (.tuple [.agg (Word.cells (found c i by_ a).1), .int .i64 (found c i by_ a).2]) [] := by
  refine sat_mk [.cell 8 42, .tmp 9] 0 73 Try.call36 Try.func36 Try.ntmps36 rfl rfl rfl rfl rfl ?_
  refine awl_live' [0, 1, 2, 3] fun ρ hL => ?_
  try simp only [go_sem, simprocAttr] at hL
  obtain ⟨h0, h1, h2, h3⟩ := hL
  refine awl_seq ?_
  have hf1 := hf.2.1
  refine awl_regS [(some 4, (.box 61 (.tmp 0)), none), (some 6, (.box 42 (.tmp 2)), none), (some 8, (.alloc 42), none), (some 9, (.assign (.const (.int .i64 0))), none)] rfl fun K hK => ?_
  try simp only [go_sem, simprocAttr, h0, h1, h2, h3]
  repeat' (refine And.intro (by first | rfl | omega | (simp; done)) ?_)
  refine hK _ _ (.mk (awl_live' [1, 3, 4, 6, 8] fun ρ hL => ?_))
  try simp only [go_sem, simprocAttr, h0, h1, h2, h3] at hL
  try clear h0 h1 h2 h3
  obtain ⟨h1, h3, h4, h6, h8⟩ := hL
  clear hK K
  refine awl_seq ?_
  refine awl_regS [(some 15, (.fieldAddr 61 (.tmp 4) 0), none), (some 16, (.fieldAddr 46 (.tmp 15) 2), none), (some 17, (.load 44 (.tmp 16)), none), (some 18, (.load 42 (.tmp 6)), none), (some 19, (.move (.tmp 3)), none), (some 20, (.call ⟨(.value (.func 76)), #[(.tmp 17), (.tmp 18), (.tmp 19)], #[44, 42, 3]⟩), none), (some 14, (.move (.tmp 20)), none), (some 21, (.extract (.tmp 14) 0), none), (some 22, (.extract (.tmp 14) 1), none), (some 10, (.alloc 42), none), (none, (.store 42 (.tmp 10) (.tmp 21)), none), (some 11, (.assign (.tmp 22)), none)] rfl fun K hK => ?_
  try simp only [go_sem, simprocAttr, h1, h3, h4, h6, h8]
  repeat' (refine And.intro (by first | rfl | omega | (simp; done)) ?_)
  refine opS_call_ro rfl (sat_impl_Read c.s.mem by_ a hf.1.2) ?ha ?hv ?hh ?_
  case ha => simp only [go_sem, simprocAttr, h1, h3, h4, h6, h8]; first | done | rfl
  case hv => first | rfl | (simp only [go_sem]; done)
  case hh => first | rfl | (simp only [go_sem]; done)
  try simp only [go_sem, simprocAttr, h1, h3, h4, h6, h8]
  repeat' (refine And.intro (by first | rfl | omega | (simp; done)) ?_)
  refine hK _ _ (.mk (awl_live' [1, 3, 4, 6, 8, 10, 11] fun ρ hL => ?_))
  try simp only [go_sem, simprocAttr, h1, h3, h4, h6, h8] at hL
  try clear h1 h3 h4 h6 h8
  obtain ⟨h1, h3, h4, h6, h8, h10, h11⟩ := hL
  clear hK K
  refine awl_seq ?_
  refine awl_seq ?_
  refine awl_regS [(some 23, (.move (.tmp 11)), none), (some 24, (.binOp .neq 3 (.tmp 23) (.const (.int .i64 0)) 3), none)] rfl fun K hK => ?_
  try simp only [go_sem, simprocAttr, h1, h3, h4, h6, h8, h10, h11]
  repeat' (refine And.intro (by first | rfl | omega | (simp; done)) ?_)
  refine hK _ _ (.mk (awl_live' [1, 3, 4, 6, 8, 10, 11, 24] fun ρ hL => ?_))
  try simp only [go_sem, simprocAttr, h1, h3, h4, h6, h8, h10, h11] at hL
  try clear h1 h3 h4 h6 h8 h10 h11
  obtain ⟨h1, h3, h4, h6, h8, h10, h11, h24⟩ := hL
  clear hK K
  refine awl_cond h24 (fun c1 => ?_) (fun c1 => ?_)
  ·
    try simp only [cnd] at c1
    refine awl_seq ?_
    refine awl_regS [(some 25, (.load 42 (.tmp 10)), none), (some 26, (.move (.tmp 11)), none), (none, (.store 42 (.tmp 8) (.tmp 25)), none), (some 9, (.assign (.tmp 26)), none)] rfl fun K hK => ?_
    try simp only [go_sem, simprocAttr, h1, h3, h4, h6, h8, h10, h11, h24]
    repeat' (refine And.intro (by first | rfl | omega | (simp; done)) ?_)
    refine hK _ _ (.mk (awl_live' [8, 9] fun ρ hL => ?_))
    try simp only [go_sem, simprocAttr, h1, h3, h4, h6, h8, h10, h11, h24] at hL
    try clear h1 h3 h4 h6 h8 h10 h11 h24
    obtain ⟨h8, h9⟩ := hL
    clear hK K
    refine awl_ret ?_
    refine ret0 (by simp only [go_sem, simprocAttr, h8, h9]; exact rfl) ?_
    try simp only [go_sem, simprocAttr]
    all_goals (rw [found_no c1, ← read_fst c1])
  ·
    try simp only [cnd] at c1
    refine awl_skip ?_
    refine awl_seq ?_
    refine awl_seq ?_
    refine awl_regS [(some 27, (.move (.tmp 1)), none), (some 28, (.fieldAddr 61 (.tmp 4) 1), none), (some 29, (.load 59 (.tmp 28)), none), (some 30, (.call ⟨(.builtin .len), #[(.tmp 29)], #[59]⟩), none), (some 31, (.call ⟨(.builtin .min), #[(.tmp 27), (.tmp 30)], #[3, 3]⟩), none), (some 12, (.assign (.tmp 31)), none)] rfl fun K hK => ?_
    try simp only [go_sem, simprocAttr, h1, h3, h4, h6, h8, h10, h11, h24]
    repeat' (refine And.intro (by first | rfl | omega | (simp; done)) ?_)
    refine hK _ _ (.mk (awl_live' [3, 4, 6, 8, 10, 12] fun ρ hL => ?_))
    try simp only [go_sem, simprocAttr, h1, h3, h4, h6, h8, h10, h11, h24] at hL
    try clear h1 h3 h4 h6 h8 h10 h11 h24
    obtain ⟨h3, h4, h6, h8, h10, h12⟩ := hL
    clear hK K
    have e1_3 := h3
    have e1_4 := h4
    have e1_6 := h6
    have e1_8 := h8
    have e1_10 := h10
    refine awl_loopH (fun H0 n σ G => ∃ (k : Int), n = k.toNat ∧ (k ≤ c.rob.length) ∧ (lastAt (puts a) noEnt c.rob k.toNat = lastAt (puts a) noEnt c.rob (upTo i c.rob.length)) ∧ liveE [3, 4, 6, 8, 10] σ ρ ∧ σ 12 = .int .i64 k ∧ G = H0) (fun H0 σ G => (lastAt (puts a) noEnt c.rob (upTo i c.rob.length) = -1) ∧ liveE [8, 10] σ ρ ∧ G = H0) ((fun (k : Int) => k.toNat) (min (c.rob.length : Int) i)) ?init1 (fun n ρ G hI => ?round1) (fun ρ G hJ => ?after1)
    case init1 => exact ⟨(min (c.rob.length : Int) i), rfl, (by omega), (by rw [upTo]; congr 1; omega), liveE_refl _ _, (h12), rfl⟩
    case round1 =>
      obtain ⟨k, hn, i1_0, i1_1, hL, k12, hG⟩ := hI
      subst hG
      try simp only [go_sem, simprocAttr, h3, h4, h6, h8, h10, h12] at hL
      clear h3 h4 h6 h8 h10 h12
      obtain ⟨h3, h4, h6, h8, h10⟩ := hL
      have h12 := k12
      clear k12
      refine awl_seq ?_
      refine awl_seq ?_
      refine awl_regS [(some 32, (.move (.tmp 12)), none), (some 33, (.binOp .gtr 3 (.tmp 32) (.const (.int .i64 0)) 3), none)] rfl fun K hK => ?_
      try simp only [go_sem, simprocAttr, h3, h4, h6, h8, h10, h12]
      repeat' (refine And.intro (by first | rfl | omega | (simp; done)) ?_)
      refine hK _ _ (.mk (awl_live' [3, 4, 6, 8, 10, 12, 33] fun ρ hL => ?_))
      try simp only [go_sem, simprocAttr, h3, h4, h6, h8, h10, h12] at hL
      try clear h3 h4 h6 h8 h10 h12
      obtain ⟨h3, h4, h6, h8, h10, h12, h33⟩ := hL
      clear hK K
      refine awl_cond h33 (fun c2 => ?_) (fun c2 => ?_)
      ·
        try simp only [cnd] at c2
        refine awl_skip ?_
        refine awl_seq ?_
        refine awl_block fun R1 hw1 hR1 => ?_
        refine awl_seq ?_
        obtain ⟨q, rfl⟩ : ∃ q : Nat, k = (q : Int) + 1 := ⟨(k - 1).toNat, by omega⟩
        have hq2 : q < c.rob.length := by omega
        have wq : IntKind.i64.wrap ((q : Int) + 1 - 1) = (q : Int) := by rw [wrap64 (by omega)]; omega
        rw [show ((q : Int) + 1).toNat = q + 1 by omega] at i1_1
        refine awl_regS [(some 36, (.fieldAddr 61 (.tmp 4) 1), none), (some 37, (.load 59 (.tmp 36)), none), (some 38, (.move (.tmp 12)), none), (some 39, (.binOp .sub 3 (.tmp 38) (.const (.int .i64 1)) 3), none), (some 40, (.indexAddr 59 (.tmp 37) (.tmp 39)), none), (some 41, (.load 96 (.tmp 40)), none), (some 13, (.alloc 96), none), (none, (.store 96 (.tmp 13) (.tmp 41)), none)] rfl fun K hK => ?_
        try simp only [go_sem, simprocAttr, h3, h4, h6, h8, h10, h12, h33, hq2, wq]
        repeat' (refine And.intro (by first | rfl | omega | (simp; done)) ?_)
        refine hK _ _ (.mk (awl_live' [3, 4, 6, 8, 10, 12, 13] fun ρ hL => ?_))
        try simp only [go_sem, simprocAttr, h3, h4, h6, h8, h10, h12, h33, hq2, wq] at hL
        try clear h3 h4 h6 h8 h10 h12 h33
        obtain ⟨h3, h4, h6, h8, h10, h12, h13⟩ := hL
        clear hK K
        refine awl_seq ?_
        refine awl_regS [(some 42, (.fieldAddr 96 (.tmp 13) 2), none), (some 43, (.load 4 (.tmp 42)), none), (some 44, (.move (.tmp 43)), none), (some 45, (.fieldAddr 96 (.tmp 13) 1), some (44, true)), (some 46, (.fieldAddr 94 (.tmp 45) 0), some (44, true)), (some 47, (.load 3 (.tmp 46)), some (44, true)), (some 48, (.binOp .eql 3 (.tmp 47) (.const (.int .i64 11)) 3), some (44, true)), (some 49, (.pick (.tmp 44) (.tmp 48) (.const (.bool false))), none), (some 50, (.move (.tmp 49)), none), (some 51, (.fieldAddr 96 (.tmp 13) 3), some (50, true)), (some 52, (.fieldAddr 92 (.tmp 51) 0), some (50, true)), (some 53, (.load 3 (.tmp 52)), some (50, true)), (some 54, (.binOp .eql 3 (.tmp 53) (.const (.int .i64 0)) 3), some (50, true)), (some 55, (.pick (.tmp 50) (.tmp 54) (.const (.bool false))), none), (some 56, (.move (.tmp 55)), none), (some 57, (.fieldAddr 96 (.tmp 13) 3), some (56, true)), (some 58, (.fieldAddr 92 (.tmp 57) 4), some (56, true)), (some 59, (.load 3 (.tmp 58)), some (56, true)), (some 60, (.move (.tmp 3)), some (56, true)), (some 61, (.binOp .eql 3 (.tmp 59) (.tmp 60) 3), some (56, true)), (some 62, (.pick (.tmp 56) (.tmp 61) (.const (.bool false))), none)] rfl fun K hK => ?_
        try simp only [go_sem, simprocAttr, h3, h4, h6, h8, h10, h12, h13]
        repeat' (refine And.intro (by first | rfl | omega | (simp; done)) ?_)
        refine awpS_live [3, 4, 6, 8, 10, 12, 13, 44] fun ρ hL => ?_
        try simp only [go_sem, simprocAttr, h3, h4, h6, h8, h10, h12, h13] at hL
        try clear h3 h4 h6 h8 h10 h12 h13
        obtain ⟨h3, h4, h6, h8, h10, h12, h13, h44⟩ := hL
        refine grp_andN (tc := 44) (tv := 48) (td := 49) (v := ?v1) 4 rfl [3, 4, 6, 8, 10, 12, 13] h44 rfl (fun hb K1 hK1 => ?run) (fun hb => ?skip) (fun ρ hP hL => ?_)
        case skip =>
          exact awpS_skip (want := true) (b := _) (by rw [hb]; rfl) _ [] ρ h44 (fun _ _ => rfl) (by simp) rfl
        case run =>
          simp only [List.take_succ_cons, List.take_zero]
          rw [hb] at h44
          try simp only [go_sem, simprocAttr, h3, h4, h6, h8, h10, h12, h13, h44]
          repeat' (refine And.intro (by first | rfl | omega | (simp; done)) ?_)
          exact hK1 _ (by simp only [go_sem, simprocAttr, h3, h4, h6, h8, h10, h12, h13, h44]) (by simp only [go_sem, simprocAttr, h3, h4, h6, h8, h10, h12, h13, h44]; exact rfl) (by simp only [go_sem, simprocAttr, h3, h4, h6, h8, h10, h12, h13, h44])
        simp only [List.drop_succ_cons, List.drop_zero]
        try simp only [go_sem, simprocAttr, h3, h4, h6, h8, h10, h12, h13, h44] at hL
        try clear h3 h4 h6 h8 h10 h12 h13 h44
        obtain ⟨h3, h4, h6, h8, h10, h12, h13⟩ := hL
        have h49 := hP
        clear hP
        try simp only [go_sem, simprocAttr, h3, h4, h6, h8, h10, h12, h13, h49]
        repeat' (refine And.intro (by first | rfl | omega | (simp; done)) ?_)
        refine awpS_live [3, 4, 6, 8, 10, 12, 13, 50] fun ρ hL => ?_
        try simp only [go_sem, simprocAttr, h3, h4, h6, h8, h10, h12, h13, h49] at hL
        try clear h3 h4 h6 h8 h10 h12 h13 h49
        obtain ⟨h3, h4, h6, h8, h10, h12, h13, h50⟩ := hL
        refine grp_andN (tc := 50) (tv := 54) (td := 55) (v := ?v2) 4 rfl [3, 4, 6, 8, 10, 12, 13] h50 rfl (fun hb K1 hK1 => ?run) (fun hb => ?skip) (fun ρ hP hL => ?_)
        case skip =>
          exact awpS_skip (want := true) (b := _) (by rw [hb]; rfl) _ [] ρ h50 (fun _ _ => rfl) (by simp) rfl
        case run =>
          simp only [List.take_succ_cons, List.take_zero]
          rw [hb] at h50
          try simp only [go_sem, simprocAttr, h3, h4, h6, h8, h10, h12, h13, h50]
          repeat' (refine And.intro (by first | rfl | omega | (simp; done)) ?_)
          exact hK1 _ (by simp only [go_sem, simprocAttr, h3, h4, h6, h8, h10, h12, h13, h50]) (by simp only [go_sem, simprocAttr, h3, h4, h6, h8, h10, h12, h13, h50]; exact rfl) (by simp only [go_sem, simprocAttr, h3, h4, h6, h8, h10, h12, h13, h50])
        simp only [List.drop_succ_cons, List.drop_zero]
        try simp only [go_sem, simprocAttr, h3, h4, h6, h8, h10, h12, h13, h50] at hL
        try clear h3 h4 h6 h8 h10 h12 h13 h50
        obtain ⟨h3, h4, h6, h8, h10, h12, h13⟩ := hL
        have h55 := hP
        clear hP
        try simp only [go_sem, simprocAttr, h3, h4, h6, h8, h10, h12, h13, h55]
        repeat' (refine And.intro (by first | rfl | omega | (simp; done)) ?_)
        refine awpS_live [3, 4, 6, 8, 10, 12, 13, 56] fun ρ hL => ?_
        try simp only [go_sem, simprocAttr, h3, h4, h6, h8, h10, h12, h13, h55] at hL
        try clear h3 h4 h6 h8 h10 h12 h13 h55
        obtain ⟨h3, h4, h6, h8, h10, h12, h13, h56⟩ := hL
        refine grp_andN (tc := 56) (tv := 61) (td := 62) (v := ?v3) 5 rfl [3, 4, 6, 8, 10, 12, 13] h56 rfl (fun hb K1 hK1 => ?run) (fun hb => ?skip) (fun ρ hP hL => ?_)
        case skip =>
          exact awpS_skip (want := true) (b := _) (by rw [hb]; rfl) _ [] ρ h56 (fun _ _ => rfl) (by simp) rfl
        case run =>
          simp only [List.take_succ_cons, List.take_zero]
          rw [hb] at h56
          try simp only [go_sem, simprocAttr, h3, h4, h6, h8, h10, h12, h13, h56]
          repeat' (refine And.intro (by first | rfl | omega | (simp; done)) ?_)
          exact hK1 _ (by simp only [go_sem, simprocAttr, h3, h4, h6, h8, h10, h12, h13, h56]) (by simp only [go_sem, simprocAttr, h3, h4, h6, h8, h10, h12, h13, h56]; exact rfl) (by simp only [go_sem, simprocAttr, h3, h4, h6, h8, h10, h12, h13, h56])
        simp only [List.drop_succ_cons, List.drop_zero]
        try simp only [go_sem, simprocAttr, h3, h4, h6, h8, h10, h12, h13, h56] at hL
        try clear h3 h4 h6 h8 h10 h12 h13 h56
        obtain ⟨h3, h4, h6, h8, h10, h12, h13⟩ := hL
        have h62 := hP
        clear hP
        try simp only [go_sem, simprocAttr, h3, h4, h6, h8, h10, h12, h13, h62]
        repeat' (refine And.intro (by first | rfl | omega | (simp; done)) ?_)
        refine hK _ _ (.mk (awl_live' [3, 4, 6, 8, 10, 12, 13, 62] fun ρ hL => ?_))
        try simp only [go_sem, simprocAttr, h3, h4, h6, h8, h10, h12, h13, h62] at hL
        try clear h3 h4 h6 h8 h10 h12 h13 h62
        obtain ⟨h3, h4, h6, h8, h10, h12, h13, h62⟩ := hL
        clear hK K
        refine awl_cond h62 (fun c3 => ?_) (fun c3 => ?_)
        ·
          try simp only [cnd] at c3
          refine awl_seq ?_
          refine awl_regD mixed [(some 63, (.fieldAddr 61 (.tmp 4) 0), none), (some 64, (.fieldAddr 46 (.tmp 63) 2), none), (some 65, (.load 44 (.tmp 64)), none), (some 66, (.load 42 (.tmp 6)), none), (some 67, (.fieldAddr 96 (.tmp 13) 3), none), (some 68, (.fieldAddr 92 (.tmp 67) 5), none), (some 69, (.load 42 (.tmp 68)), none), (some 70, (.call ⟨(.value (.func 78)), #[(.tmp 66), (.tmp 69)], #[42, 42]⟩), none), (some 71, (.call ⟨(.value (.func 77)), #[(.tmp 65), (.tmp 70)], #[44, 42]⟩), none), (none, (.store 42 (.tmp 8) (.tmp 71)), none), (some 9, (.assign (.const (.int .i64 0))), none)] rfl fun K hK => ?_
          try simp only [go_sem, simprocAttr, h3, h4, h6, h8, h10, h12, h13, h62]
          repeat' (refine And.intro (by first | omega | (exact ⟨[0, 1, 3, 0, 0, 16, 48, 120, 255, 511, 1023], by kernel_rfl⟩) | kernel_rfl) ?_)
          refine dS_call_ro rfl (sat_impl_Taken by_ (c.rob.getD q noEnt).e.put) ?ha ?hv ?hh ?_
          case ha => simp only [go_sem, simprocAttr, h3, h4, h6, h8, h10, h12, h13, h62]; first | done | rfl
          case hv => first | rfl | (simp only [go_sem]; done)
          case hh => first | rfl | (simp only [go_sem]; done)
          try simp only [go_sem, simprocAttr, h3, h4, h6, h8, h10, h12, h13, h62]
          repeat' (refine And.intro (by first | omega | (exact ⟨[0, 1, 3, 0, 0, 16, 48, 120, 255, 511, 1023], by kernel_rfl⟩) | kernel_rfl) ?_)
          refine dS_call_ro rfl (sat_impl_Filter c.s.mem (taken by_ (c.rob.getD q noEnt).e.put) hf.1.2) ?ha ?hv ?hh ?_
          case ha => simp only [go_sem, simprocAttr, h3, h4, h6, h8, h10, h12, h13, h62]; first | done | rfl
          case hv => first | rfl | (simp only [go_sem]; done)
          case hh => first | rfl | (simp only [go_sem]; done)
          try simp only [go_sem, simprocAttr, h3, h4, h6, h8, h10, h12, h13, h62]
          repeat' (refine And.intro (by first | omega | (exact ⟨[0, 1, 3, 0, 0, 16, 48, 120, 255, 511, 1023], by kernel_rfl⟩) | kernel_rfl) ?_)
          refine hK _ _ (.mk (awl_live' [8, 9] fun ρ hL => ?_))
          try simp only [go_sem, simprocAttr, h3, h4, h6, h8, h10, h12, h13, h62] at hL
          try clear h3 h4 h6 h8 h10 h12 h13 h62
          obtain ⟨h8, h9⟩ := hL
          clear hK K
          refine awl_ret ?_
          refine blk_ret ?_
          refine loop_ret ?_
          refine ret0 (by simp only [go_sem, simprocAttr, h8, h9]; exact rfl) ?_
          try simp only [go_sem, simprocAttr]
          all_goals try clear hR1
          all_goals (rw [found_hit (fun h => h c1) (q := q) (by rw [← i1_1, lastAt_hit (by simp only [puts, Bool.and_eq_true, decide_eq_true_eq]; exact ⟨⟨⟨c3.1.1.2, c3.1.1.1⟩, c3.1.2⟩, c3.2⟩)])])
        ·
          try simp only [cnd] at c3
          refine awl_skip ?_
          refine awl_nil ?_
          refine blk_normal (hR1 _ _ (.mk ?_))
          refine awl_regS [(some 34, (.move (.tmp 12)), none), (some 35, (.binOp .sub 3 (.tmp 34) (.const (.int .i64 1)) 3), none), (some 12, (.assign (.tmp 35)), none)] rfl fun K hK => ?_
          try simp only [go_sem, simprocAttr, h3, h4, h6, h8, h10, h12, h13, h62, wq]
          repeat' (refine And.intro (by first | rfl | omega | (simp; done)) ?_)
          refine hK _ _ (.mk (awl_live' [3, 4, 6, 8, 10, 12] fun ρ hL => ?_))
          try simp only [go_sem, simprocAttr, h3, h4, h6, h8, h10, h12, h13, h62, wq] at hL
          try clear h3 h4 h6 h8 h10 h12 h13 h62
          obtain ⟨h3, h4, h6, h8, h10, h12⟩ := hL
          clear hK K
          refine awl_nil ?_
          refine loop_againW (Wk.keep [0, 1, 2, 3] rfl) _ ?meas ⟨(q : Int), rfl, (by omega), (by rw [← i1_1, lastAt_miss (puts_no (c3.imp_left (fun h => h.imp_left Or.symm))), Int.toNat_natCast]), (by simp only [go_sem, simprocAttr, h3, h4, h6, h8, h10, h12, e1_3, e1_4, e1_6, e1_8, e1_10]), (by simp only [go_sem, simprocAttr, h3, h4, h6, h8, h10, h12, e1_3, e1_4, e1_6, e1_8, e1_10]; first | done | rfl), (by simp only [go_sem, simprocAttr, h3, h4, h6, h8, h10, h12, e1_3, e1_4, e1_6, e1_8, e1_10]; first | done | rfl)⟩
          case meas => subst hn; omega
      ·
        try simp only [cnd] at c2
        refine awl_exit ?_
        refine loop_break ?_
        exact ⟨(by rw [← i1_1, show k.toNat = 0 by omega]; rfl), (by simp only [go_sem, simprocAttr, h3, h4, h6, h8, h10, h12, h33, e1_3, e1_4, e1_6, e1_8, e1_10]), rfl⟩
    case after1 =>
      obtain ⟨j1_0, hL, hG⟩ := hJ
      subst hG
      try simp only [go_sem, simprocAttr, h3, h4, h6, h8, h10, h12] at hL
      clear h3 h4 h6 h8 h10 h12
      obtain ⟨h8, h10⟩ := hL
      refine awl_seq ?_
      refine awl_regS [(some 72, (.load 42 (.tmp 10)), none), (none, (.store 42 (.tmp 8) (.tmp 72)), none), (some 9, (.assign (.const (.int .i64 0))), none)] rfl fun K hK => ?_
      try simp only [go_sem, simprocAttr, h8, h10]
      repeat' (refine And.intro (by first | rfl | omega | (simp; done)) ?_)
      refine hK _ _ (.mk (awl_live' [8, 9] fun ρ hL => ?_))
      try simp only [go_sem, simprocAttr, h8, h10] at hL
      try clear h8 h10
      obtain ⟨h8, h9⟩ := hL
      clear hK K
      refine awl_ret ?_
      refine ret0 (by simp only [go_sem, simprocAttr, h8, h9]; exact rfl) ?_
      try simp only [go_sem, simprocAttr]
      all_goals try clear hR1
      all_goals (rw [found_miss (fun h => h c1) j1_0])
end Go.Proofs.Ytgddflnhibhacaa.AM
