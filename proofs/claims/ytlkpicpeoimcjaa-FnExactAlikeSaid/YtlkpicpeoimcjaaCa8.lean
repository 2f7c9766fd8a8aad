/- Are two states alike. No conditions but those each theorem bears. -/
import Derived.Test.YtlkpicpeoimcjaaFa
import Derived.Test.YtlkpicpeoimcjaaSp6
import Derived.Test.YtlkpicpeoimcjaaCa7
set_option linter.unusedSimpArgs false
set_option linter.unusedVariables false
namespace Go.Proofs.Ytlkpicpeoimcjaa.AM
open Go

set_option maxHeartbeats 8000000 in
set_option maxRecDepth 100000 in
theorem sat_spec_Alike (s : Stt) (t : Stt) (hf : s.fit) (hf3 : t.fit) : Sat Try.prog 21 [.agg s.cells, .agg t.cells] [] (.bool (alike s t)) [] := by
  refine sat_mk [.tmp 4] 0 74 Try.call21 Try.func21 Try.ntmps21 rfl rfl rfl rfl rfl ?_
  refine awl_live' [0, 1] fun ρ hL => ?_
  try simp only [go_sem, simprocAttr, word_deq] at hL
  obtain ⟨h0, h1⟩ := hL
  refine awl_seq ?_
  have hg1 := hf.2.2
  have hg2 := hf3.2.2
  refine awl_regS [(some 2, (.box 46 (.tmp 0)), none), (some 3, (.box 46 (.tmp 1)), none), (some 4, (.assign (.const (.bool false))), none)] rfl fun K hK => ?_
  try simp only [go_sem, simprocAttr, h0, h1, word_deq]
  repeat' (refine And.intro (by first | rfl | omega | (simp; done)) ?_)
  refine hK _ _ (.mk (awl_live' [2, 3] fun ρ hL => ?_))
  try simp only [go_sem, simprocAttr, h0, h1, word_deq] at hL
  try clear h0 h1
  obtain ⟨h2, h3⟩ := hL
  clear hK K
  refine awl_seq ?_
  refine awl_seq ?_
  refine awl_regS [(some 5, (.assign (.const (.int .i64 0))), none)] rfl fun K hK => ?_
  try simp only [go_sem, simprocAttr, h2, h3, word_deq]
  repeat' (refine And.intro (by first | rfl | omega | (simp; done)) ?_)
  refine hK _ _ (.mk (awl_live' [2, 3, 5] fun ρ hL => ?_))
  try simp only [go_sem, simprocAttr, h2, h3, word_deq] at hL
  try clear h2 h3
  obtain ⟨h2, h3, h5⟩ := hL
  clear hK K
  have e1_2 := h2
  have e1_3 := h3
  refine awl_loopH (fun H0 n σ G => ∃ (i : Nat), n = (min s.mem.gone.length t.mem.gone.length) - i ∧ (i ≤ (min s.mem.gone.length t.mem.gone.length)) ∧ (s.mem.gone.take i = t.mem.gone.take i) ∧ liveE [2, 3] σ ρ ∧ σ 5 = .int .i64 (i : Int) ∧ G = H0) (fun H0 σ G => (s.mem.gone.length = t.mem.gone.length → s.mem.gone = t.mem.gone) ∧ liveE [2, 3] σ ρ ∧ G = H0) ((fun (i : Nat) => (min s.mem.gone.length t.mem.gone.length) - i) 0) ?init (fun n ρ G hI => ?round) (fun ρ G hJ => ?after)
  case init => exact ⟨0, rfl, (Nat.zero_le _), (by simp), liveE_refl _ _, (h5), rfl⟩
  case round =>
    obtain ⟨i, hn, i1_0, i1_1, hL, k5, hG⟩ := hI
    subst hG
    try simp only [go_sem, simprocAttr, h2, h3, h5, word_deq] at hL
    clear h2 h3 h5
    obtain ⟨h2, h3⟩ := hL
    have h5 := k5
    clear k5
    refine awl_seq ?_
    refine awl_seq ?_
    refine awl_regS [(some 6, (.move (.tmp 5)), none), (some 7, (.fieldAddr 46 (.tmp 2) 2), none), (some 8, (.fieldAddr 44 (.tmp 7) 1), none), (some 9, (.load 32 (.tmp 8)), none), (some 10, (.call ⟨(.builtin .len), #[(.tmp 9)], #[32]⟩), none), (some 11, (.binOp .lss 3 (.tmp 6) (.tmp 10) 3), none), (some 12, (.move (.tmp 11)), none), (some 13, (.move (.tmp 5)), some (12, true)), (some 14, (.fieldAddr 46 (.tmp 3) 2), some (12, true)), (some 15, (.fieldAddr 44 (.tmp 14) 1), some (12, true)), (some 16, (.load 32 (.tmp 15)), some (12, true)), (some 17, (.call ⟨(.builtin .len), #[(.tmp 16)], #[32]⟩), some (12, true)), (some 18, (.binOp .lss 3 (.tmp 13) (.tmp 17) 3), some (12, true)), (some 19, (.pick (.tmp 12) (.tmp 18) (.const (.bool false))), none)] rfl fun K hK => ?_
    try simp only [go_sem, simprocAttr, h2, h3, h5, word_deq]
    repeat' (refine And.intro (by first | rfl | omega | (simp; done)) ?_)
    refine awpS_live [2, 3, 5, 12] fun ρ hL => ?_
    try simp only [go_sem, simprocAttr, h2, h3, h5, word_deq] at hL
    try clear h2 h3 h5
    obtain ⟨h2, h3, h5, h12⟩ := hL
    refine grp_and (l := [(some 13, (.move (.tmp 5)), some (12, true)), (some 14, (.fieldAddr 46 (.tmp 3) 2), some (12, true)), (some 15, (.fieldAddr 44 (.tmp 14) 1), some (12, true)), (some 16, (.load 32 (.tmp 15)), some (12, true)), (some 17, (.call ⟨(.builtin .len), #[(.tmp 16)], #[32]⟩), some (12, true)), (some 18, (.binOp .lss 3 (.tmp 13) (.tmp 17) 3), some (12, true))]) (rest := []) (tc := 12) (tv := 18) (td := 19) (v := ?v1) [2, 3, 5] h12 rfl (fun hb K1 hK1 => ?run) (fun hb => ?skip) (fun ρ hP hL => ?_)
    case skip =>
      exact awpS_skip (want := true) (b := _) (by rw [hb]; rfl) _ [] ρ h12 (fun _ _ => rfl) (by simp) rfl
    case run =>
      rw [hb] at h12
      try simp only [go_sem, simprocAttr, h2, h3, h5, h12, word_deq]
      repeat' (refine And.intro (by first | rfl | omega | (simp; done)) ?_)
      exact hK1 _ (by simp only [go_sem, simprocAttr, h2, h3, h5, h12, word_deq]) (by simp only [go_sem, simprocAttr, h2, h3, h5, h12, word_deq]; exact rfl) (by simp only [go_sem, simprocAttr, h2, h3, h5, h12, word_deq])
    try simp only [go_sem, simprocAttr, h2, h3, h5, h12, word_deq] at hL
    try clear h2 h3 h5 h12
    obtain ⟨h2, h3, h5⟩ := hL
    have h19 := hP
    clear hP
    try simp only [go_sem, simprocAttr, h2, h3, h5, h19, word_deq]
    repeat' (refine And.intro (by first | rfl | omega | (simp; done)) ?_)
    refine hK _ _ (.mk (awl_live' [2, 3, 5, 19] fun ρ hL => ?_))
    try simp only [go_sem, simprocAttr, h2, h3, h5, h19, word_deq] at hL
    try clear h2 h3 h5 h19
    obtain ⟨h2, h3, h5, h19⟩ := hL
    clear hK K
    refine awl_cond h19 (fun c1 => ?_) (fun c1 => ?_)
    ·
      try simp only [cnd] at c1
      have hi1 : i < (min s.mem.gone.length t.mem.gone.length) := by omega
      refine awl_skip ?_
      refine awl_seq ?_
      refine awl_block fun R1 hw1 hR1 => ?_
      refine awl_seq ?_
      have hx : i < s.mem.gone.length := by omega
      have hy : i < t.mem.gone.length := by omega
      refine awl_regD mixed [(some 22, (.fieldAddr 46 (.tmp 2) 2), none), (some 23, (.fieldAddr 44 (.tmp 22) 1), none), (some 24, (.load 32 (.tmp 23)), none), (some 25, (.move (.tmp 5)), none), (some 26, (.indexAddr 32 (.tmp 24) (.tmp 25)), none), (some 27, (.load 4 (.tmp 26)), none), (some 28, (.fieldAddr 46 (.tmp 3) 2), none), (some 29, (.fieldAddr 44 (.tmp 28) 1), none), (some 30, (.load 32 (.tmp 29)), none), (some 31, (.move (.tmp 5)), none), (some 32, (.indexAddr 32 (.tmp 30) (.tmp 31)), none), (some 33, (.load 4 (.tmp 32)), none), (some 34, (.binOp .neq 4 (.tmp 27) (.tmp 33) 4), none)] rfl fun K hK => ?_
      try simp only [go_sem, simprocAttr, h2, h3, h5, h19, hi1, word_deq, hx, hy]
      repeat' (refine And.intro (by first | omega | (exact ⟨[0, 1, 3, 0, 15, 31, 0, 64, 192, 0, 960, 1984, 4095], by kernel_rfl⟩) | kernel_rfl) ?_)
      refine hK _ _ (.mk (awl_live' [2, 3, 5, 34] fun ρ hL => ?_))
      try simp only [go_sem, simprocAttr, h2, h3, h5, h19, hi1, word_deq, hx, hy] at hL
      try clear h2 h3 h5 h19
      obtain ⟨h2, h3, h5, h34⟩ := hL
      clear hK K
      refine awl_cond h34 (fun c2 => ?_) (fun c2 => ?_)
      ·
        try simp only [cnd] at c2
        refine awl_seq ?_
        refine awl_regS [(some 4, (.assign (.const (.bool false))), none)] rfl fun K hK => ?_
        try simp only [go_sem, simprocAttr, h2, h3, h5, h34, hi1, word_deq]
        repeat' (refine And.intro (by first | rfl | omega | (simp; done)) ?_)
        refine hK _ _ (.mk (awl_live' [4] fun ρ hL => ?_))
        try simp only [go_sem, simprocAttr, h2, h3, h5, h34, hi1, word_deq] at hL
        try clear h2 h3 h5 h34
        have h4 := hL
        clear hL
        clear hK K
        refine awl_ret ?_
        refine blk_ret ?_
        refine loop_ret ?_
        refine ret0 (by simp only [go_sem, simprocAttr, h4, hi1, word_deq]; exact rfl) ?_
        try simp only [go_sem, simprocAttr]
        all_goals try clear hR1
        all_goals (rw [eq_comm, AV.bool.injEq]; simp only [alike, Bool.and_eq_false_iff, decide_eq_false_iff_not]; refine Or.inl (Or.inr fun h => ?_); rw [h] at c2; simp at c2)
      ·
        try simp only [cnd] at c2
        refine awl_skip ?_
        refine awl_nil ?_
        refine blk_normal (hR1 _ _ (.mk ?_))
        have w1 : IntKind.i64.wrap ((i : Int) + 1) = ((i + 1 : Nat) : Int) := by rw [wrap64 (by omega)]; omega
        refine awl_regS [(some 20, (.move (.tmp 5)), none), (some 21, (.binOp .add 3 (.tmp 20) (.const (.int .i64 1)) 3), none), (some 5, (.assign (.tmp 21)), none)] rfl fun K hK => ?_
        try simp only [go_sem, simprocAttr, h2, h3, h5, h34, hi1, w1, word_deq]
        repeat' (refine And.intro (by first | rfl | omega | (simp; done)) ?_)
        refine hK _ _ (.mk (awl_live' [2, 3, 5] fun ρ hL => ?_))
        try simp only [go_sem, simprocAttr, h2, h3, h5, h34, hi1, w1, word_deq] at hL
        try clear h2 h3 h5 h34
        obtain ⟨h2, h3, h5⟩ := hL
        clear hK K
        refine awl_nil ?_
        refine loop_again _ ?meas ⟨i + 1, rfl, (by omega), (by exact take_succ_eq (d := false) hx hy i1_1 (by simpa using c2)), (by simp only [go_sem, simprocAttr, h2, h3, h5, hi1, word_deq, e1_2, e1_3]), (h5), rfl⟩
        case meas => subst hn; omega
    ·
      try simp only [cnd] at c1
      refine awl_exit ?_
      refine loop_break ?_
      exact ⟨(by exact fun hl => eq_of_take (i := i) (by omega) (by omega) i1_1), (by simp only [go_sem, simprocAttr, h2, h3, h5, h19, word_deq, e1_2, e1_3]), rfl⟩
  case after =>
    obtain ⟨j1_0, hL, hG⟩ := hJ
    subst hG
    try simp only [go_sem, simprocAttr, h2, h3, h5, word_deq] at hL
    clear h2 h3 h5
    obtain ⟨h2, h3⟩ := hL
    refine awl_seq ?_
    refine awl_regS [(some 35, (.fieldAddr 46 (.tmp 2) 2), none), (some 36, (.fieldAddr 44 (.tmp 35) 1), none), (some 37, (.load 32 (.tmp 36)), none), (some 38, (.call ⟨(.builtin .len), #[(.tmp 37)], #[32]⟩), none), (some 39, (.fieldAddr 46 (.tmp 3) 2), none), (some 40, (.fieldAddr 44 (.tmp 39) 1), none), (some 41, (.load 32 (.tmp 40)), none), (some 42, (.call ⟨(.builtin .len), #[(.tmp 41)], #[32]⟩), none), (some 43, (.binOp .eql 3 (.tmp 38) (.tmp 42) 3), none), (some 44, (.move (.tmp 43)), none), (some 45, (.fieldAddr 46 (.tmp 2) 0), some (44, true)), (some 46, (.load 39 (.tmp 45)), some (44, true)), (some 47, (.fieldAddr 46 (.tmp 3) 0), some (44, true)), (some 48, (.load 39 (.tmp 47)), some (44, true)), (some 49, (.call ⟨(.value (.func 60)), #[(.tmp 46), (.tmp 48)], #[39, 39]⟩), some (44, true)), (some 50, (.pick (.tmp 44) (.tmp 49) (.const (.bool false))), none), (some 51, (.move (.tmp 50)), none), (some 52, (.fieldAddr 46 (.tmp 2) 1), some (51, true)), (some 53, (.load 42 (.tmp 52)), some (51, true)), (some 54, (.fieldAddr 46 (.tmp 3) 1), some (51, true)), (some 55, (.load 42 (.tmp 54)), some (51, true)), (some 56, (.binOp .eql 42 (.tmp 53) (.tmp 55) 42), some (51, true)), (some 57, (.pick (.tmp 51) (.tmp 56) (.const (.bool false))), none), (some 58, (.move (.tmp 57)), none), (some 59, (.fieldAddr 46 (.tmp 2) 3), some (58, true)), (some 60, (.load 3 (.tmp 59)), some (58, true)), (some 61, (.fieldAddr 46 (.tmp 3) 3), some (58, true)), (some 62, (.load 3 (.tmp 61)), some (58, true)), (some 63, (.binOp .eql 3 (.tmp 60) (.tmp 62) 3), some (58, true)), (some 64, (.pick (.tmp 58) (.tmp 63) (.const (.bool false))), none), (some 65, (.move (.tmp 64)), none), (some 66, (.fieldAddr 46 (.tmp 2) 2), some (65, true)), (some 67, (.fieldAddr 44 (.tmp 66) 0), some (65, true)), (some 68, (.load 39 (.tmp 67)), some (65, true)), (some 69, (.fieldAddr 46 (.tmp 3) 2), some (65, true)), (some 70, (.fieldAddr 44 (.tmp 69) 0), some (65, true)), (some 71, (.load 39 (.tmp 70)), some (65, true)), (some 72, (.call ⟨(.value (.func 60)), #[(.tmp 68), (.tmp 71)], #[39, 39]⟩), some (65, true)), (some 73, (.pick (.tmp 65) (.tmp 72) (.const (.bool false))), none), (some 4, (.assign (.tmp 73)), none)] rfl fun K hK => ?_
    try simp only [go_sem, simprocAttr, h2, h3, word_deq]
    repeat' (refine And.intro (by first | rfl | omega | (simp; done)) ?_)
    refine awpS_live [2, 3, 44] fun ρ hL => ?_
    try simp only [go_sem, simprocAttr, h2, h3, word_deq] at hL
    try clear h2 h3
    obtain ⟨h2, h3, h44⟩ := hL
    refine grp_and (l := [(some 45, (.fieldAddr 46 (.tmp 2) 0), some (44, true)), (some 46, (.load 39 (.tmp 45)), some (44, true)), (some 47, (.fieldAddr 46 (.tmp 3) 0), some (44, true)), (some 48, (.load 39 (.tmp 47)), some (44, true)), (some 49, (.call ⟨(.value (.func 60)), #[(.tmp 46), (.tmp 48)], #[39, 39]⟩), some (44, true))]) (rest := [(some 51, (.move (.tmp 50)), none), (some 52, (.fieldAddr 46 (.tmp 2) 1), some (51, true)), (some 53, (.load 42 (.tmp 52)), some (51, true)), (some 54, (.fieldAddr 46 (.tmp 3) 1), some (51, true)), (some 55, (.load 42 (.tmp 54)), some (51, true)), (some 56, (.binOp .eql 42 (.tmp 53) (.tmp 55) 42), some (51, true)), (some 57, (.pick (.tmp 51) (.tmp 56) (.const (.bool false))), none), (some 58, (.move (.tmp 57)), none), (some 59, (.fieldAddr 46 (.tmp 2) 3), some (58, true)), (some 60, (.load 3 (.tmp 59)), some (58, true)), (some 61, (.fieldAddr 46 (.tmp 3) 3), some (58, true)), (some 62, (.load 3 (.tmp 61)), some (58, true)), (some 63, (.binOp .eql 3 (.tmp 60) (.tmp 62) 3), some (58, true)), (some 64, (.pick (.tmp 58) (.tmp 63) (.const (.bool false))), none), (some 65, (.move (.tmp 64)), none), (some 66, (.fieldAddr 46 (.tmp 2) 2), some (65, true)), (some 67, (.fieldAddr 44 (.tmp 66) 0), some (65, true)), (some 68, (.load 39 (.tmp 67)), some (65, true)), (some 69, (.fieldAddr 46 (.tmp 3) 2), some (65, true)), (some 70, (.fieldAddr 44 (.tmp 69) 0), some (65, true)), (some 71, (.load 39 (.tmp 70)), some (65, true)), (some 72, (.call ⟨(.value (.func 60)), #[(.tmp 68), (.tmp 71)], #[39, 39]⟩), some (65, true)), (some 73, (.pick (.tmp 65) (.tmp 72) (.const (.bool false))), none), (some 4, (.assign (.tmp 73)), none)]) (tc := 44) (tv := 49) (td := 50) (v := ?v2) [2, 3] h44 rfl (fun hb K1 hK1 => ?run) (fun hb => ?skip) (fun ρ hP hL => ?_)
    case skip =>
      exact awpS_skip (want := true) (b := _) (by rw [hb]; rfl) _ [] ρ h44 (fun _ _ => rfl) (by simp) rfl
    case run =>
      rw [hb] at h44
      try simp only [go_sem, simprocAttr, h2, h3, h44, word_deq]
      repeat' (refine And.intro (by first | rfl | omega | (simp; done)) ?_)
      refine opS_call_ro rfl (sat_spec_l17Words s.regs t.regs (Nat.le_trans hf.1 (by decide))) ?ha ?hv ?hh ?_
      case ha => simp only [go_sem, simprocAttr, h2, h3, h44, word_deq]; first | done | rfl
      case hv => first | rfl | (simp only [go_sem]; done)
      case hh => first | rfl | (simp only [go_sem]; done)
      try simp only [go_sem, simprocAttr, h2, h3, h44, word_deq]
      repeat' (refine And.intro (by first | rfl | omega | (simp; done)) ?_)
      exact hK1 _ (by simp only [go_sem, simprocAttr, h2, h3, h44, word_deq]) (by simp only [go_sem, simprocAttr, h2, h3, h44, word_deq]; exact rfl) (by simp only [go_sem, simprocAttr, h2, h3, h44, word_deq])
    try simp only [go_sem, simprocAttr, h2, h3, h44, word_deq] at hL
    try clear h2 h3 h44
    obtain ⟨h2, h3⟩ := hL
    have h50 := hP
    clear hP
    try simp only [go_sem, simprocAttr, h2, h3, h50, word_deq]
    repeat' (refine And.intro (by first | rfl | omega | (simp; done)) ?_)
    refine awpS_live [2, 3, 51] fun ρ hL => ?_
    try simp only [go_sem, simprocAttr, h2, h3, h50, word_deq] at hL
    try clear h2 h3 h50
    obtain ⟨h2, h3, h51⟩ := hL
    refine grp_and (l := [(some 52, (.fieldAddr 46 (.tmp 2) 1), some (51, true)), (some 53, (.load 42 (.tmp 52)), some (51, true)), (some 54, (.fieldAddr 46 (.tmp 3) 1), some (51, true)), (some 55, (.load 42 (.tmp 54)), some (51, true)), (some 56, (.binOp .eql 42 (.tmp 53) (.tmp 55) 42), some (51, true))]) (rest := [(some 58, (.move (.tmp 57)), none), (some 59, (.fieldAddr 46 (.tmp 2) 3), some (58, true)), (some 60, (.load 3 (.tmp 59)), some (58, true)), (some 61, (.fieldAddr 46 (.tmp 3) 3), some (58, true)), (some 62, (.load 3 (.tmp 61)), some (58, true)), (some 63, (.binOp .eql 3 (.tmp 60) (.tmp 62) 3), some (58, true)), (some 64, (.pick (.tmp 58) (.tmp 63) (.const (.bool false))), none), (some 65, (.move (.tmp 64)), none), (some 66, (.fieldAddr 46 (.tmp 2) 2), some (65, true)), (some 67, (.fieldAddr 44 (.tmp 66) 0), some (65, true)), (some 68, (.load 39 (.tmp 67)), some (65, true)), (some 69, (.fieldAddr 46 (.tmp 3) 2), some (65, true)), (some 70, (.fieldAddr 44 (.tmp 69) 0), some (65, true)), (some 71, (.load 39 (.tmp 70)), some (65, true)), (some 72, (.call ⟨(.value (.func 60)), #[(.tmp 68), (.tmp 71)], #[39, 39]⟩), some (65, true)), (some 73, (.pick (.tmp 65) (.tmp 72) (.const (.bool false))), none), (some 4, (.assign (.tmp 73)), none)]) (tc := 51) (tv := 56) (td := 57) (v := ?v3) [2, 3] h51 rfl (fun hb K1 hK1 => ?run) (fun hb => ?skip) (fun ρ hP hL => ?_)
    case skip =>
      exact awpS_skip (want := true) (b := _) (by rw [hb]; rfl) _ [] ρ h51 (fun _ _ => rfl) (by simp) rfl
    case run =>
      rw [hb] at h51
      try simp only [go_sem, simprocAttr, h2, h3, h51, word_deq]
      repeat' (refine And.intro (by first | rfl | omega | (simp; done)) ?_)
      exact hK1 _ (by simp only [go_sem, simprocAttr, h2, h3, h51, word_deq]) (by simp only [go_sem, simprocAttr, h2, h3, h51, word_deq]; exact rfl) (by simp only [go_sem, simprocAttr, h2, h3, h51, word_deq])
    try simp only [go_sem, simprocAttr, h2, h3, h51, word_deq] at hL
    try clear h2 h3 h51
    obtain ⟨h2, h3⟩ := hL
    have h57 := hP
    clear hP
    try simp only [go_sem, simprocAttr, h2, h3, h57, word_deq]
    repeat' (refine And.intro (by first | rfl | omega | (simp; done)) ?_)
    refine awpS_live [2, 3, 58] fun ρ hL => ?_
    try simp only [go_sem, simprocAttr, h2, h3, h57, word_deq] at hL
    try clear h2 h3 h57
    obtain ⟨h2, h3, h58⟩ := hL
    refine grp_and (l := [(some 59, (.fieldAddr 46 (.tmp 2) 3), some (58, true)), (some 60, (.load 3 (.tmp 59)), some (58, true)), (some 61, (.fieldAddr 46 (.tmp 3) 3), some (58, true)), (some 62, (.load 3 (.tmp 61)), some (58, true)), (some 63, (.binOp .eql 3 (.tmp 60) (.tmp 62) 3), some (58, true))]) (rest := [(some 65, (.move (.tmp 64)), none), (some 66, (.fieldAddr 46 (.tmp 2) 2), some (65, true)), (some 67, (.fieldAddr 44 (.tmp 66) 0), some (65, true)), (some 68, (.load 39 (.tmp 67)), some (65, true)), (some 69, (.fieldAddr 46 (.tmp 3) 2), some (65, true)), (some 70, (.fieldAddr 44 (.tmp 69) 0), some (65, true)), (some 71, (.load 39 (.tmp 70)), some (65, true)), (some 72, (.call ⟨(.value (.func 60)), #[(.tmp 68), (.tmp 71)], #[39, 39]⟩), some (65, true)), (some 73, (.pick (.tmp 65) (.tmp 72) (.const (.bool false))), none), (some 4, (.assign (.tmp 73)), none)]) (tc := 58) (tv := 63) (td := 64) (v := ?v4) [2, 3] h58 rfl (fun hb K1 hK1 => ?run) (fun hb => ?skip) (fun ρ hP hL => ?_)
    case skip =>
      exact awpS_skip (want := true) (b := _) (by rw [hb]; rfl) _ [] ρ h58 (fun _ _ => rfl) (by simp) rfl
    case run =>
      rw [hb] at h58
      try simp only [go_sem, simprocAttr, h2, h3, h58, word_deq]
      repeat' (refine And.intro (by first | rfl | omega | (simp; done)) ?_)
      exact hK1 _ (by simp only [go_sem, simprocAttr, h2, h3, h58, word_deq]) (by simp only [go_sem, simprocAttr, h2, h3, h58, word_deq]; exact rfl) (by simp only [go_sem, simprocAttr, h2, h3, h58, word_deq])
    try simp only [go_sem, simprocAttr, h2, h3, h58, word_deq] at hL
    try clear h2 h3 h58
    obtain ⟨h2, h3⟩ := hL
    have h64 := hP
    clear hP
    try simp only [go_sem, simprocAttr, h2, h3, h64, word_deq]
    repeat' (refine And.intro (by first | rfl | omega | (simp; done)) ?_)
    refine awpS_live [2, 3, 65] fun ρ hL => ?_
    try simp only [go_sem, simprocAttr, h2, h3, h64, word_deq] at hL
    try clear h2 h3 h64
    obtain ⟨h2, h3, h65⟩ := hL
    refine grp_and (l := [(some 66, (.fieldAddr 46 (.tmp 2) 2), some (65, true)), (some 67, (.fieldAddr 44 (.tmp 66) 0), some (65, true)), (some 68, (.load 39 (.tmp 67)), some (65, true)), (some 69, (.fieldAddr 46 (.tmp 3) 2), some (65, true)), (some 70, (.fieldAddr 44 (.tmp 69) 0), some (65, true)), (some 71, (.load 39 (.tmp 70)), some (65, true)), (some 72, (.call ⟨(.value (.func 60)), #[(.tmp 68), (.tmp 71)], #[39, 39]⟩), some (65, true))]) (rest := [(some 4, (.assign (.tmp 73)), none)]) (tc := 65) (tv := 72) (td := 73) (v := ?v5) [] h65 rfl (fun hb K1 hK1 => ?run) (fun hb => ?skip) (fun ρ hP hL => ?_)
    case skip =>
      exact awpS_skip (want := true) (b := _) (by rw [hb]; rfl) _ [] ρ h65 (fun _ _ => rfl) (by simp) rfl
    case run =>
      rw [hb] at h65
      try simp only [go_sem, simprocAttr, h2, h3, h65, word_deq]
      repeat' (refine And.intro (by first | rfl | omega | (simp; done)) ?_)
      refine opS_call_ro rfl (sat_spec_l17Words s.mem.words t.mem.words (Nat.le_trans hf.2.1 (by decide))) ?ha ?hv ?hh ?_
      case ha => simp only [go_sem, simprocAttr, h2, h3, h65, word_deq]; first | done | rfl
      case hv => first | rfl | (simp only [go_sem]; done)
      case hh => first | rfl | (simp only [go_sem]; done)
      try simp only [go_sem, simprocAttr, h2, h3, h65, word_deq]
      repeat' (refine And.intro (by first | rfl | omega | (simp; done)) ?_)
      exact hK1 _ (by simp only [go_sem, simprocAttr, h2, h3, h65, word_deq]) (by simp only [go_sem, simprocAttr, h2, h3, h65, word_deq]; exact rfl) (by simp only [go_sem, simprocAttr, h2, h3, h65, word_deq])
    clear hL h2 h3 h65
    have h73 := hP
    clear hP
    try simp only [go_sem, simprocAttr, h73, word_deq]
    repeat' (refine And.intro (by first | rfl | omega | (simp; done)) ?_)
    refine hK _ _ (.mk (awl_live' [4] fun ρ hL => ?_))
    try simp only [go_sem, simprocAttr, h73, word_deq] at hL
    try clear h73
    have h4 := hL
    clear hL
    clear hK K
    refine awl_ret ?_
    refine ret0 (by simp only [go_sem, simprocAttr, h4, word_deq]; exact rfl) ?_
    try simp only [go_sem, simprocAttr]
    all_goals try clear hR1
    all_goals (rw [AV.bool.injEq, Bool.eq_iff_iff]; simp only [alike, Bool.and_eq_true, decide_eq_true_eq]; have hj := j1_0; exact ⟨fun ⟨⟨⟨⟨a, b⟩, c⟩, d⟩, e⟩ => ⟨⟨⟨⟨b, c⟩, e⟩, hj (by omega)⟩, d⟩, fun ⟨⟨⟨⟨a, b⟩, c⟩, d⟩, e⟩ => ⟨⟨⟨⟨by rw [d], a⟩, b⟩, e⟩, c⟩⟩)
set_option maxHeartbeats 8000000 in
set_option maxRecDepth 100000 in
theorem sat_impl_Alike (s : Stt) (t : Stt) (hf : s.fit) : Sat Try.prog 23 [.agg s.cells, .agg t.cells] [] (.bool (alike s t)) [] := by
  refine sat_mk [.tmp 4] 0 42 Try.call23 Try.func23 Try.ntmps23 rfl rfl rfl rfl rfl ?_
  refine awl_live' [0, 1] fun ρ hL => ?_
  try simp only [go_sem, simprocAttr, word_deq] at hL
  obtain ⟨h0, h1⟩ := hL
  refine awl_seq ?_
  refine awl_regS [(some 2, (.box 46 (.tmp 0)), none), (some 3, (.box 46 (.tmp 1)), none), (some 4, (.assign (.const (.bool false))), none)] rfl fun K hK => ?_
  try simp only [go_sem, simprocAttr, h0, h1, word_deq]
  repeat' (refine And.intro (by first | rfl | omega | (simp; done)) ?_)
  refine hK _ _ (.mk (awl_live' [2, 3] fun ρ hL => ?_))
  try simp only [go_sem, simprocAttr, h0, h1, word_deq] at hL
  try clear h0 h1
  obtain ⟨h2, h3⟩ := hL
  clear hK K
  refine awl_seq ?_
  refine awl_regS [(some 5, (.fieldAddr 46 (.tmp 2) 0), none), (some 6, (.load 39 (.tmp 5)), none), (some 7, (.fieldAddr 46 (.tmp 3) 0), none), (some 8, (.load 39 (.tmp 7)), none), (some 9, (.call ⟨(.value (.func 63)), #[(.tmp 6), (.tmp 8)], #[39, 39]⟩), none), (some 10, (.move (.tmp 9)), none), (some 11, (.fieldAddr 46 (.tmp 2) 1), some (10, true)), (some 12, (.load 42 (.tmp 11)), some (10, true)), (some 13, (.fieldAddr 46 (.tmp 3) 1), some (10, true)), (some 14, (.load 42 (.tmp 13)), some (10, true)), (some 15, (.binOp .eql 42 (.tmp 12) (.tmp 14) 42), some (10, true)), (some 16, (.pick (.tmp 10) (.tmp 15) (.const (.bool false))), none), (some 17, (.move (.tmp 16)), none), (some 18, (.fieldAddr 46 (.tmp 2) 2), some (17, true)), (some 19, (.fieldAddr 44 (.tmp 18) 0), some (17, true)), (some 20, (.load 39 (.tmp 19)), some (17, true)), (some 21, (.fieldAddr 46 (.tmp 3) 2), some (17, true)), (some 22, (.fieldAddr 44 (.tmp 21) 0), some (17, true)), (some 23, (.load 39 (.tmp 22)), some (17, true)), (some 24, (.call ⟨(.value (.func 63)), #[(.tmp 20), (.tmp 23)], #[39, 39]⟩), some (17, true)), (some 25, (.pick (.tmp 17) (.tmp 24) (.const (.bool false))), none), (some 26, (.move (.tmp 25)), none), (some 27, (.fieldAddr 46 (.tmp 2) 2), some (26, true)), (some 28, (.fieldAddr 44 (.tmp 27) 1), some (26, true)), (some 29, (.load 32 (.tmp 28)), some (26, true)), (some 30, (.fieldAddr 46 (.tmp 3) 2), some (26, true)), (some 31, (.fieldAddr 44 (.tmp 30) 1), some (26, true)), (some 32, (.load 32 (.tmp 31)), some (26, true)), (some 33, (.call ⟨(.value (.func 64)), #[(.tmp 29), (.tmp 32)], #[32, 32]⟩), some (26, true)), (some 34, (.pick (.tmp 26) (.tmp 33) (.const (.bool false))), none), (some 35, (.move (.tmp 34)), none), (some 36, (.fieldAddr 46 (.tmp 2) 3), some (35, true)), (some 37, (.load 3 (.tmp 36)), some (35, true)), (some 38, (.fieldAddr 46 (.tmp 3) 3), some (35, true)), (some 39, (.load 3 (.tmp 38)), some (35, true)), (some 40, (.binOp .eql 3 (.tmp 37) (.tmp 39) 3), some (35, true)), (some 41, (.pick (.tmp 35) (.tmp 40) (.const (.bool false))), none), (some 4, (.assign (.tmp 41)), none)] rfl fun K hK => ?_
  try simp only [go_sem, simprocAttr, h2, h3, word_deq]
  repeat' (refine And.intro (by first | rfl | omega | (simp; done)) ?_)
  refine opS_call_ro rfl (sat_slices_Equal_impl_Word_impl_Word s.regs t.regs (Nat.le_trans hf.1 (by decide))) ?ha ?hv ?hh ?_
  case ha => simp only [go_sem, simprocAttr, h2, h3, word_deq]; first | done | rfl
  case hv => first | rfl | (simp only [go_sem]; done)
  case hh => first | rfl | (simp only [go_sem]; done)
  try simp only [go_sem, simprocAttr, h2, h3, word_deq]
  repeat' (refine And.intro (by first | rfl | omega | (simp; done)) ?_)
  refine awpS_live [2, 3, 10] fun ρ hL => ?_
  try simp only [go_sem, simprocAttr, h2, h3, word_deq] at hL
  try clear h2 h3
  obtain ⟨h2, h3, h10⟩ := hL
  refine grp_and (l := [(some 11, (.fieldAddr 46 (.tmp 2) 1), some (10, true)), (some 12, (.load 42 (.tmp 11)), some (10, true)), (some 13, (.fieldAddr 46 (.tmp 3) 1), some (10, true)), (some 14, (.load 42 (.tmp 13)), some (10, true)), (some 15, (.binOp .eql 42 (.tmp 12) (.tmp 14) 42), some (10, true))]) (rest := [(some 17, (.move (.tmp 16)), none), (some 18, (.fieldAddr 46 (.tmp 2) 2), some (17, true)), (some 19, (.fieldAddr 44 (.tmp 18) 0), some (17, true)), (some 20, (.load 39 (.tmp 19)), some (17, true)), (some 21, (.fieldAddr 46 (.tmp 3) 2), some (17, true)), (some 22, (.fieldAddr 44 (.tmp 21) 0), some (17, true)), (some 23, (.load 39 (.tmp 22)), some (17, true)), (some 24, (.call ⟨(.value (.func 63)), #[(.tmp 20), (.tmp 23)], #[39, 39]⟩), some (17, true)), (some 25, (.pick (.tmp 17) (.tmp 24) (.const (.bool false))), none), (some 26, (.move (.tmp 25)), none), (some 27, (.fieldAddr 46 (.tmp 2) 2), some (26, true)), (some 28, (.fieldAddr 44 (.tmp 27) 1), some (26, true)), (some 29, (.load 32 (.tmp 28)), some (26, true)), (some 30, (.fieldAddr 46 (.tmp 3) 2), some (26, true)), (some 31, (.fieldAddr 44 (.tmp 30) 1), some (26, true)), (some 32, (.load 32 (.tmp 31)), some (26, true)), (some 33, (.call ⟨(.value (.func 64)), #[(.tmp 29), (.tmp 32)], #[32, 32]⟩), some (26, true)), (some 34, (.pick (.tmp 26) (.tmp 33) (.const (.bool false))), none), (some 35, (.move (.tmp 34)), none), (some 36, (.fieldAddr 46 (.tmp 2) 3), some (35, true)), (some 37, (.load 3 (.tmp 36)), some (35, true)), (some 38, (.fieldAddr 46 (.tmp 3) 3), some (35, true)), (some 39, (.load 3 (.tmp 38)), some (35, true)), (some 40, (.binOp .eql 3 (.tmp 37) (.tmp 39) 3), some (35, true)), (some 41, (.pick (.tmp 35) (.tmp 40) (.const (.bool false))), none), (some 4, (.assign (.tmp 41)), none)]) (tc := 10) (tv := 15) (td := 16) (v := ?v1) [2, 3] h10 rfl (fun hb K1 hK1 => ?run) (fun hb => ?skip) (fun ρ hP hL => ?_)
  case skip =>
    exact awpS_skip (want := true) (b := _) (by rw [hb]; rfl) _ [] ρ h10 (fun _ _ => rfl) (by simp) rfl
  case run =>
    rw [hb] at h10
    try simp only [go_sem, simprocAttr, h2, h3, h10, word_deq]
    repeat' (refine And.intro (by first | rfl | omega | (simp; done)) ?_)
    exact hK1 _ (by simp only [go_sem, simprocAttr, h2, h3, h10, word_deq]) (by simp only [go_sem, simprocAttr, h2, h3, h10, word_deq]; exact rfl) (by simp only [go_sem, simprocAttr, h2, h3, h10, word_deq])
  try simp only [go_sem, simprocAttr, h2, h3, h10, word_deq] at hL
  try clear h2 h3 h10
  obtain ⟨h2, h3⟩ := hL
  have h16 := hP
  clear hP
  try simp only [go_sem, simprocAttr, h2, h3, h16, word_deq]
  repeat' (refine And.intro (by first | rfl | omega | (simp; done)) ?_)
  refine awpS_live [2, 3, 17] fun ρ hL => ?_
  try simp only [go_sem, simprocAttr, h2, h3, h16, word_deq] at hL
  try clear h2 h3 h16
  obtain ⟨h2, h3, h17⟩ := hL
  refine grp_and (l := [(some 18, (.fieldAddr 46 (.tmp 2) 2), some (17, true)), (some 19, (.fieldAddr 44 (.tmp 18) 0), some (17, true)), (some 20, (.load 39 (.tmp 19)), some (17, true)), (some 21, (.fieldAddr 46 (.tmp 3) 2), some (17, true)), (some 22, (.fieldAddr 44 (.tmp 21) 0), some (17, true)), (some 23, (.load 39 (.tmp 22)), some (17, true)), (some 24, (.call ⟨(.value (.func 63)), #[(.tmp 20), (.tmp 23)], #[39, 39]⟩), some (17, true))]) (rest := [(some 26, (.move (.tmp 25)), none), (some 27, (.fieldAddr 46 (.tmp 2) 2), some (26, true)), (some 28, (.fieldAddr 44 (.tmp 27) 1), some (26, true)), (some 29, (.load 32 (.tmp 28)), some (26, true)), (some 30, (.fieldAddr 46 (.tmp 3) 2), some (26, true)), (some 31, (.fieldAddr 44 (.tmp 30) 1), some (26, true)), (some 32, (.load 32 (.tmp 31)), some (26, true)), (some 33, (.call ⟨(.value (.func 64)), #[(.tmp 29), (.tmp 32)], #[32, 32]⟩), some (26, true)), (some 34, (.pick (.tmp 26) (.tmp 33) (.const (.bool false))), none), (some 35, (.move (.tmp 34)), none), (some 36, (.fieldAddr 46 (.tmp 2) 3), some (35, true)), (some 37, (.load 3 (.tmp 36)), some (35, true)), (some 38, (.fieldAddr 46 (.tmp 3) 3), some (35, true)), (some 39, (.load 3 (.tmp 38)), some (35, true)), (some 40, (.binOp .eql 3 (.tmp 37) (.tmp 39) 3), some (35, true)), (some 41, (.pick (.tmp 35) (.tmp 40) (.const (.bool false))), none), (some 4, (.assign (.tmp 41)), none)]) (tc := 17) (tv := 24) (td := 25) (v := ?v2) [2, 3] h17 rfl (fun hb K1 hK1 => ?run) (fun hb => ?skip) (fun ρ hP hL => ?_)
  case skip =>
    exact awpS_skip (want := true) (b := _) (by rw [hb]; rfl) _ [] ρ h17 (fun _ _ => rfl) (by simp) rfl
  case run =>
    rw [hb] at h17
    try simp only [go_sem, simprocAttr, h2, h3, h17, word_deq]
    repeat' (refine And.intro (by first | rfl | omega | (simp; done)) ?_)
    refine opS_call_ro rfl (sat_slices_Equal_impl_Word_impl_Word s.mem.words t.mem.words (Nat.le_trans hf.2.1 (by decide))) ?ha ?hv ?hh ?_
    case ha => simp only [go_sem, simprocAttr, h2, h3, h17, word_deq]; first | done | rfl
    case hv => first | rfl | (simp only [go_sem]; done)
    case hh => first | rfl | (simp only [go_sem]; done)
    try simp only [go_sem, simprocAttr, h2, h3, h17, word_deq]
    repeat' (refine And.intro (by first | rfl | omega | (simp; done)) ?_)
    exact hK1 _ (by simp only [go_sem, simprocAttr, h2, h3, h17, word_deq]) (by simp only [go_sem, simprocAttr, h2, h3, h17, word_deq]; exact rfl) (by simp only [go_sem, simprocAttr, h2, h3, h17, word_deq])
  try simp only [go_sem, simprocAttr, h2, h3, h17, word_deq] at hL
  try clear h2 h3 h17
  obtain ⟨h2, h3⟩ := hL
  have h25 := hP
  clear hP
  try simp only [go_sem, simprocAttr, h2, h3, h25, word_deq]
  repeat' (refine And.intro (by first | rfl | omega | (simp; done)) ?_)
  refine awpS_live [2, 3, 26] fun ρ hL => ?_
  try simp only [go_sem, simprocAttr, h2, h3, h25, word_deq] at hL
  try clear h2 h3 h25
  obtain ⟨h2, h3, h26⟩ := hL
  refine grp_and (l := [(some 27, (.fieldAddr 46 (.tmp 2) 2), some (26, true)), (some 28, (.fieldAddr 44 (.tmp 27) 1), some (26, true)), (some 29, (.load 32 (.tmp 28)), some (26, true)), (some 30, (.fieldAddr 46 (.tmp 3) 2), some (26, true)), (some 31, (.fieldAddr 44 (.tmp 30) 1), some (26, true)), (some 32, (.load 32 (.tmp 31)), some (26, true)), (some 33, (.call ⟨(.value (.func 64)), #[(.tmp 29), (.tmp 32)], #[32, 32]⟩), some (26, true))]) (rest := [(some 35, (.move (.tmp 34)), none), (some 36, (.fieldAddr 46 (.tmp 2) 3), some (35, true)), (some 37, (.load 3 (.tmp 36)), some (35, true)), (some 38, (.fieldAddr 46 (.tmp 3) 3), some (35, true)), (some 39, (.load 3 (.tmp 38)), some (35, true)), (some 40, (.binOp .eql 3 (.tmp 37) (.tmp 39) 3), some (35, true)), (some 41, (.pick (.tmp 35) (.tmp 40) (.const (.bool false))), none), (some 4, (.assign (.tmp 41)), none)]) (tc := 26) (tv := 33) (td := 34) (v := ?v3) [2, 3] h26 rfl (fun hb K1 hK1 => ?run) (fun hb => ?skip) (fun ρ hP hL => ?_)
  case skip =>
    exact awpS_skip (want := true) (b := _) (by rw [hb]; rfl) _ [] ρ h26 (fun _ _ => rfl) (by simp) rfl
  case run =>
    rw [hb] at h26
    try simp only [go_sem, simprocAttr, h2, h3, h26, word_deq]
    repeat' (refine And.intro (by first | rfl | omega | (simp; done)) ?_)
    refine opS_call_ro rfl (sat_slices_Equal_bool_bool s.mem.gone t.mem.gone (Nat.le_trans hf.2.2 (by decide))) ?ha ?hv ?hh ?_
    case ha => simp only [go_sem, simprocAttr, h2, h3, h26, word_deq]; first | done | rfl
    case hv => first | rfl | (simp only [go_sem]; done)
    case hh => first | rfl | (simp only [go_sem]; done)
    try simp only [go_sem, simprocAttr, h2, h3, h26, word_deq]
    repeat' (refine And.intro (by first | rfl | omega | (simp; done)) ?_)
    exact hK1 _ (by simp only [go_sem, simprocAttr, h2, h3, h26, word_deq]) (by simp only [go_sem, simprocAttr, h2, h3, h26, word_deq]; exact rfl) (by simp only [go_sem, simprocAttr, h2, h3, h26, word_deq])
  try simp only [go_sem, simprocAttr, h2, h3, h26, word_deq] at hL
  try clear h2 h3 h26
  obtain ⟨h2, h3⟩ := hL
  have h34 := hP
  clear hP
  try simp only [go_sem, simprocAttr, h2, h3, h34, word_deq]
  repeat' (refine And.intro (by first | rfl | omega | (simp; done)) ?_)
  refine awpS_live [2, 3, 35] fun ρ hL => ?_
  try simp only [go_sem, simprocAttr, h2, h3, h34, word_deq] at hL
  try clear h2 h3 h34
  obtain ⟨h2, h3, h35⟩ := hL
  refine grp_and (l := [(some 36, (.fieldAddr 46 (.tmp 2) 3), some (35, true)), (some 37, (.load 3 (.tmp 36)), some (35, true)), (some 38, (.fieldAddr 46 (.tmp 3) 3), some (35, true)), (some 39, (.load 3 (.tmp 38)), some (35, true)), (some 40, (.binOp .eql 3 (.tmp 37) (.tmp 39) 3), some (35, true))]) (rest := [(some 4, (.assign (.tmp 41)), none)]) (tc := 35) (tv := 40) (td := 41) (v := ?v4) [] h35 rfl (fun hb K1 hK1 => ?run) (fun hb => ?skip) (fun ρ hP hL => ?_)
  case skip =>
    exact awpS_skip (want := true) (b := _) (by rw [hb]; rfl) _ [] ρ h35 (fun _ _ => rfl) (by simp) rfl
  case run =>
    rw [hb] at h35
    try simp only [go_sem, simprocAttr, h2, h3, h35, word_deq]
    repeat' (refine And.intro (by first | rfl | omega | (simp; done)) ?_)
    exact hK1 _ (by simp only [go_sem, simprocAttr, h2, h3, h35, word_deq]) (by simp only [go_sem, simprocAttr, h2, h3, h35, word_deq]; exact rfl) (by simp only [go_sem, simprocAttr, h2, h3, h35, word_deq])
  clear hL h2 h3 h35
  have h41 := hP
  clear hP
  try simp only [go_sem, simprocAttr, h41, word_deq]
  repeat' (refine And.intro (by first | rfl | omega | (simp; done)) ?_)
  refine hK _ _ (.mk (awl_live' [4] fun ρ hL => ?_))
  try simp only [go_sem, simprocAttr, h41, word_deq] at hL
  try clear h41
  have h4 := hL
  clear hL
  clear hK K
  refine awl_ret ?_
  refine ret0 (by simp only [go_sem, simprocAttr, h4, word_deq]; exact rfl) ?_
  try simp only [go_sem, simprocAttr]
  all_goals (rfl)
set_option maxHeartbeats 8000000 in
set_option maxRecDepth 100000 in
theorem sat_laws_FnExactAlike (s : Stt) (t : Stt) (hs : s.sm) (ht : t.sm) : Sat Try.prog 4 [.agg s.cells, .agg t.cells] [] (.bool true) [] := by
  refine sat_mk [.tmp 4] 0 45 Try.call4 Try.func4 Try.ntmps4 rfl rfl rfl rfl rfl ?_
  refine awl_live' [0, 1] fun ρ hL => ?_
  try simp only [go_sem, simprocAttr] at hL
  obtain ⟨h0, h1⟩ := hL
  refine awl_seq ?_
  refine awl_regS [(some 2, (.box 36 (.tmp 0)), none), (some 3, (.box 36 (.tmp 1)), none), (some 4, (.assign (.const (.bool false))), none)] rfl fun K hK => ?_
  try simp only [go_sem, simprocAttr, h0, h1]
  repeat' (refine And.intro (by first | exact f1.1 | exact f2.1 | assumption) ?_)
  refine hK _ _ ⟨_, _, Wk.keep [0, 1] rfl, awl_live' [2, 3] fun ρ hL => ?_⟩
  try simp only [go_sem, simprocAttr, h0, h1] at hL
  try clear h0 h1
  obtain ⟨h2, h3⟩ := hL
  try simp only [go_sem, simprocAttr]
  clear hK K
  refine awl_seq ?_
  refine awl_regS [(some 5, (.assign (.const (.int .i64 1048576))), none)] rfl fun K hK => ?_
  try simp only [go_sem, simprocAttr, h2, h3]
  repeat' (refine And.intro (by first | exact f1.1 | exact f2.1 | assumption) ?_)
  refine hK _ _ ⟨_, _, Wk.keep [0, 1] rfl, awl_live' [2, 3, 5] fun ρ hL => ?_⟩
  try simp only [go_sem, simprocAttr, h2, h3] at hL
  try clear h2 h3
  obtain ⟨h2, h3, h5⟩ := hL
  try simp only [go_sem, simprocAttr]
  clear hK K
  refine awl_seq ?_
  refine awl_regS [(some 10, (.load 36 (.tmp 2)), none), (some 11, (.move (.tmp 5)), none), (some 12, (.call ⟨(.value (.func 20)), #[(.tmp 10), (.tmp 11)], #[36, 3]⟩), none), (some 5, (.assign (.tmp 12)), none)] rfl fun K hK => ?_
  try simp only [go_sem, simprocAttr, h2, h3, h5]
  repeat' (refine And.intro (by first | exact f1.1 | exact f2.1 | assumption) ?_)
  refine opS_call_ro rfl (sat_laws_szState s 1048576 hs ⟨by decide, by decide⟩) ?ha ?hv ?hh ?_
  case ha => simp only [go_sem, simprocAttr, h2, h3, h5]; first | done | rfl
  case hv => first | rfl | (simp only [go_sem]; done)
  case hh => first | rfl | (simp only [go_sem]; done)
  try simp only [go_sem, simprocAttr, h2, h3, h5]
  repeat' (refine And.intro (by first | exact f1.1 | exact f2.1 | assumption) ?_)
  refine hK _ _ ⟨_, _, Wk.keep [0, 1] rfl, awl_live' [2, 3, 5] fun ρ hL => ?_⟩
  try simp only [go_sem, simprocAttr, h2, h3, h5] at hL
  try clear h2 h3 h5
  obtain ⟨h2, h3, h5⟩ := hL
  try simp only [go_sem, simprocAttr]
  clear hK K
  refine awl_seq ?_
  refine awl_seq ?_
  refine awl_regS [(some 13, (.move (.tmp 5)), none), (some 14, (.binOp .lss 3 (.tmp 13) (.const (.int .i64 0)) 3), none)] rfl fun K hK => ?_
  try simp only [go_sem, simprocAttr, h2, h3, h5]
  repeat' (refine And.intro (by first | exact f1.1 | exact f2.1 | assumption) ?_)
  refine hK _ _ ⟨_, _, Wk.keep [0, 1] rfl, awl_live' [2, 3, 5, 14] fun ρ hL => ?_⟩
  try simp only [go_sem, simprocAttr, h2, h3, h5] at hL
  try clear h2 h3 h5
  obtain ⟨h2, h3, h5, h14⟩ := hL
  try simp only [go_sem, simprocAttr]
  clear hK K
  refine awl_cond h14 (fun c1 => ?_) (fun c1 => ?_)
  ·
    try simp only [cnd] at c1
    refine awl_seq ?_
    refine awl_regS [(some 4, (.assign (.const (.bool true))), none)] rfl fun K hK => ?_
    try simp only [go_sem, simprocAttr, h2, h3, h5, h14]
    repeat' (refine And.intro (by first | exact f1.1 | exact f2.1 | assumption) ?_)
    refine hK _ _ ⟨_, _, Wk.keep [] rfl, awl_live' [4] fun ρ hL => ?_⟩
    try simp only [go_sem, simprocAttr, h2, h3, h5, h14] at hL
    try clear h2 h3 h5 h14
    have h4 := hL
    clear hL
    try simp only [go_sem, simprocAttr]
    clear hK K
    refine awl_ret ?_
    refine ret0 (by simp only [go_sem, simprocAttr, h4]; exact rfl) ?_
    try simp only [go_sem, simprocAttr]
    all_goals (rfl)
  ·
    try simp only [cnd] at c1
    have f1 := szS_ok (l := 1048576) ⟨by decide, by decide⟩ c1
    refine awl_skip ?_
    refine awl_seq ?_
    refine awl_regS [(some 15, (.load 36 (.tmp 3)), none), (some 16, (.move (.tmp 5)), none), (some 17, (.call ⟨(.value (.func 20)), #[(.tmp 15), (.tmp 16)], #[36, 3]⟩), none), (some 5, (.assign (.tmp 17)), none)] rfl fun K hK => ?_
    try simp only [go_sem, simprocAttr, h2, h3, h5, h14]
    repeat' (refine And.intro (by first | exact f1.1 | exact f2.1 | assumption) ?_)
    refine opS_call_ro rfl (sat_laws_szState t (szS 1048576 s) ht f1.2) ?ha ?hv ?hh ?_
    case ha => simp only [go_sem, simprocAttr, h2, h3, h5, h14]; first | done | rfl
    case hv => first | rfl | (simp only [go_sem]; done)
    case hh => first | rfl | (simp only [go_sem]; done)
    try simp only [go_sem, simprocAttr, h2, h3, h5, h14]
    repeat' (refine And.intro (by first | exact f1.1 | exact f2.1 | assumption) ?_)
    refine hK _ _ ⟨_, _, Wk.keep [0, 1] rfl, awl_live' [2, 3, 5] fun ρ hL => ?_⟩
    try simp only [go_sem, simprocAttr, h2, h3, h5, h14] at hL
    try clear h2 h3 h5 h14
    obtain ⟨h2, h3, h5⟩ := hL
    try simp only [go_sem, simprocAttr]
    clear hK K
    refine awl_seq ?_
    refine awl_seq ?_
    refine awl_regS [(some 18, (.move (.tmp 5)), none), (some 19, (.binOp .lss 3 (.tmp 18) (.const (.int .i64 0)) 3), none)] rfl fun K hK => ?_
    try simp only [go_sem, simprocAttr, h2, h3, h5]
    repeat' (refine And.intro (by first | exact f1.1 | exact f2.1 | assumption) ?_)
    refine hK _ _ ⟨_, _, Wk.keep [0, 1] rfl, awl_live' [2, 3, 19] fun ρ hL => ?_⟩
    try simp only [go_sem, simprocAttr, h2, h3, h5] at hL
    try clear h2 h3 h5
    obtain ⟨h2, h3, h19⟩ := hL
    try simp only [go_sem, simprocAttr]
    clear hK K
    refine awl_cond h19 (fun c2 => ?_) (fun c2 => ?_)
    ·
      try simp only [cnd] at c2
      refine awl_seq ?_
      refine awl_regS [(some 4, (.assign (.const (.bool true))), none)] rfl fun K hK => ?_
      try simp only [go_sem, simprocAttr, h2, h3, h19]
      repeat' (refine And.intro (by first | exact f1.1 | exact f2.1 | assumption) ?_)
      refine hK _ _ ⟨_, _, Wk.keep [] rfl, awl_live' [4] fun ρ hL => ?_⟩
      try simp only [go_sem, simprocAttr, h2, h3, h19] at hL
      try clear h2 h3 h19
      have h4 := hL
      clear hL
      try simp only [go_sem, simprocAttr]
      clear hK K
      refine awl_ret ?_
      refine ret0 (by simp only [go_sem, simprocAttr, h4]; exact rfl) ?_
      try simp only [go_sem, simprocAttr]
      all_goals (rfl)
    ·
      try simp only [cnd] at c2
      have f2 := szS_ok f1.2 c2
      refine awl_skip ?_
      refine awl_seq ?_
      refine awl_regD mixed [(some 20, (.load 36 (.tmp 2)), none), (some 21, (.call ⟨(.value (.func 22)), #[(.tmp 20)], #[36]⟩), none), (some 22, (.load 36 (.tmp 3)), none), (some 23, (.call ⟨(.value (.func 22)), #[(.tmp 22)], #[36]⟩), none), (some 24, (.call ⟨(.value (.func 21)), #[(.tmp 21), (.tmp 23)], #[46, 46]⟩), none), (some 6, (.assign (.tmp 24)), none)] rfl fun K hK => ?_
      try simp only [go_sem, simprocAttr, h2, h3, h19]
      repeat' (refine And.intro (by first | omega | (exact ⟨[0, 1, 0, 7, 15, 31], by kernel_rfl⟩) | kernel_rfl) ?_)
      refine dS_call_ro rfl (sat_laws_toState ?_ ?hp0) ?ha ?hv ?hh ?_
      case ha => simp only [go_sem, simprocAttr, h2, h3, h19]; first | done | rfl
      case hp0 => first | exact f1.1 | exact f2.1 | assumption
      case hv => first | rfl | (simp only [go_sem]; done)
      case hh => first | rfl | (simp only [go_sem]; done)
      try simp only [go_sem, simprocAttr, h2, h3, h19]
      repeat' (refine And.intro (by first | omega | (exact ⟨[0, 1, 0, 7, 15, 31], by kernel_rfl⟩) | kernel_rfl) ?_)
      refine dS_call_ro rfl (sat_laws_toState ?_ ?hp0) ?ha ?hv ?hh ?_
      case ha => simp only [go_sem, simprocAttr, h2, h3, h19]; first | done | rfl
      case hp0 => first | exact f1.1 | exact f2.1 | assumption
      case hv => first | rfl | (simp only [go_sem]; done)
      case hh => first | rfl | (simp only [go_sem]; done)
      try simp only [go_sem, simprocAttr, h2, h3, h19]
      repeat' (refine And.intro (by first | omega | (exact ⟨[0, 1, 0, 7, 15, 31], by kernel_rfl⟩) | kernel_rfl) ?_)
      refine dS_call_ro rfl (sat_spec_Alike ?_ ?_ ?hp0 ?hp1) ?ha ?hv ?hh ?_
      case ha => simp only [go_sem, simprocAttr, h2, h3, h19]; first | done | rfl
      case hp0 => first | exact f1.1 | exact f2.1 | assumption
      case hp1 => first | exact f1.1 | exact f2.1 | assumption
      case hv => first | rfl | (simp only [go_sem]; done)
      case hh => first | rfl | (simp only [go_sem]; done)
      try simp only [go_sem, simprocAttr, h2, h3, h19]
      repeat' (refine And.intro (by first | omega | (exact ⟨[0, 1, 0, 7, 15, 31], by kernel_rfl⟩) | kernel_rfl) ?_)
      refine hK _ _ ⟨_, _, Wk.keep [0, 1] rfl, awl_live' [2, 3, 6] fun ρ hL => ?_⟩
      try simp only [go_sem, simprocAttr, h2, h3, h19] at hL
      try clear h2 h3 h19
      obtain ⟨h2, h3, h6⟩ := hL
      try simp only [go_sem, simprocAttr]
      clear hK K
      refine awl_seq ?_
      refine awl_regS [(some 25, (.load 36 (.tmp 2)), none), (some 26, (.call ⟨(.value (.func 22)), #[(.tmp 25)], #[36]⟩), none), (some 7, (.alloc 46), none), (none, (.store 46 (.tmp 7) (.tmp 26)), none)] rfl fun K hK => ?_
      try simp only [go_sem, simprocAttr, h2, h3, h6]
      repeat' (refine And.intro (by first | exact f1.1 | exact f2.1 | assumption) ?_)
      refine opS_call_ro rfl (sat_laws_toState ?_ ?hp0) ?ha ?hv ?hh ?_
      case ha => simp only [go_sem, simprocAttr, h2, h3, h6]; first | done | rfl
      case hp0 => first | exact f1.1 | exact f2.1 | assumption
      case hv => first | rfl | (simp only [go_sem]; done)
      case hh => first | rfl | (simp only [go_sem]; done)
      try simp only [go_sem, simprocAttr, h2, h3, h6]
      repeat' (refine And.intro (by first | exact f1.1 | exact f2.1 | assumption) ?_)
      refine hK _ _ ⟨_, _, Wk.keep [0, 1, 5, 2, 3, 4] rfl, awl_live' [2, 3, 6, 7] fun ρ hL => ?_⟩
      try simp only [go_sem, simprocAttr, h2, h3, h6] at hL
      try clear h2 h3 h6
      obtain ⟨h2, h3, h6, h7⟩ := hL
      try simp only [go_sem, simprocAttr]
      clear hK K
      refine awl_seq ?_
      refine awl_regS [(some 27, (.load 36 (.tmp 3)), none), (some 28, (.call ⟨(.value (.func 22)), #[(.tmp 27)], #[36]⟩), none), (some 8, (.alloc 46), none), (none, (.store 46 (.tmp 8) (.tmp 28)), none)] rfl fun K hK => ?_
      try simp only [go_sem, simprocAttr, h2, h3, h6, h7]
      repeat' (refine And.intro (by first | exact f1.1 | exact f2.1 | assumption) ?_)
      refine opS_call_ro rfl (sat_laws_toState ?_ ?hp0) ?ha ?hv ?hh ?_
      case ha => simp only [go_sem, simprocAttr, h2, h3, h6, h7]; first | done | rfl
      case hp0 => first | exact f1.1 | exact f2.1 | assumption
      case hv => first | rfl | (simp only [go_sem]; done)
      case hh => first | rfl | (simp only [go_sem]; done)
      try simp only [go_sem, simprocAttr, h2, h3, h6, h7]
      repeat' (refine And.intro (by first | exact f1.1 | exact f2.1 | assumption) ?_)
      refine hK _ _ ⟨_, _, Wk.keep [0, 1, 2, 3, 4, 5, 9, 6, 7, 8] rfl, awl_live' [2, 3, 6, 7, 8] fun ρ hL => ?_⟩
      try simp only [go_sem, simprocAttr, h2, h3, h6, h7] at hL
      try clear h2 h3 h6 h7
      obtain ⟨h2, h3, h6, h7, h8⟩ := hL
      try simp only [go_sem, simprocAttr]
      clear hK K
      refine awl_seq ?_
      refine awl_regS [(some 29, (.load 46 (.tmp 7)), none), (some 30, (.load 46 (.tmp 8)), none), (some 31, (.call ⟨(.value (.func 23)), #[(.tmp 29), (.tmp 30)], #[46, 46]⟩), none), (some 9, (.assign (.tmp 31)), none)] rfl fun K hK => ?_
      try simp only [go_sem, simprocAttr, h2, h3, h6, h7, h8]
      repeat' (refine And.intro (by first | exact f1.1 | exact f2.1 | assumption) ?_)
      refine opS_call_ro rfl (sat_impl_Alike ?_ ?_ ?hp0) ?ha ?hv ?hh ?_
      case ha => simp only [go_sem, simprocAttr, h2, h3, h6, h7, h8]; first | done | rfl
      case hp0 => first | exact f1.1 | exact f2.1 | assumption
      case hv => first | rfl | (simp only [go_sem]; done)
      case hh => first | rfl | (simp only [go_sem]; done)
      try simp only [go_sem, simprocAttr, h2, h3, h6, h7, h8]
      repeat' (refine And.intro (by first | exact f1.1 | exact f2.1 | assumption) ?_)
      refine hK _ _ ⟨_, _, Wk.keep [0, 1, 2, 3, 4, 5, 6, 7, 8, 9] rfl, awl_live' [2, 3, 6, 7, 8, 9] fun ρ hL => ?_⟩
      try simp only [go_sem, simprocAttr, h2, h3, h6, h7, h8] at hL
      try clear h2 h3 h6 h7 h8
      obtain ⟨h2, h3, h6, h7, h8, h9⟩ := hL
      try simp only [go_sem, simprocAttr]
      clear hK K
      refine awl_seq ?_
      refine awl_seq ?_
      refine awl_regS [(some 32, (.move (.tmp 9)), none), (some 33, (.move (.tmp 6)), none), (some 34, (.binOp .neq 4 (.tmp 32) (.tmp 33) 4), none)] rfl fun K hK => ?_
      try simp only [go_sem, simprocAttr, h2, h3, h6, h7, h8, h9]
      repeat' (refine And.intro (by first | exact f1.1 | exact f2.1 | assumption) ?_)
      refine hK _ _ ⟨_, _, Wk.keep [0, 1, 2, 3, 4, 5, 6, 7, 8, 9] rfl, awl_live' [2, 3, 7, 8, 34] fun ρ hL => ?_⟩
      try simp only [go_sem, simprocAttr, h2, h3, h6, h7, h8, h9] at hL
      try clear h2 h3 h6 h7 h8 h9
      obtain ⟨h2, h3, h7, h8, h34⟩ := hL
      try simp only [go_sem, simprocAttr]
      clear hK K
      refine awl_cond h34 (fun c3 => ?_) (fun c3 => ?_)
      ·
        try simp only [cnd] at c3
        first | (simp at c3; done) | (simp at c3; omega) | omega
      ·
        try simp only [cnd] at c3
        refine awl_skip ?_
        refine awl_seq ?_
        refine awl_seq ?_
        refine awl_regD mixed [(some 35, (.load 46 (.tmp 7)), none), (some 36, (.load 36 (.tmp 2)), none), (some 37, (.call ⟨(.value (.func 22)), #[(.tmp 36)], #[36]⟩), none), (some 38, (.call ⟨(.value (.func 24)), #[(.tmp 35), (.tmp 37)], #[46, 46]⟩), none), (some 39, (.unOp .not 4 (.tmp 38)), none)] rfl fun K hK => ?_
        try simp only [go_sem, simprocAttr, h2, h3, h7, h8, h34]
        repeat' (refine And.intro (by first | omega | (exact ⟨[0, 0, 2, 7, 15], by kernel_rfl⟩) | kernel_rfl) ?_)
        refine dS_call_ro rfl (sat_laws_toState ?_ ?hp0) ?ha ?hv ?hh ?_
        case ha => simp only [go_sem, simprocAttr, h2, h3, h7, h8, h34]; first | done | rfl
        case hp0 => first | exact f1.1 | exact f2.1 | assumption
        case hv => first | rfl | (simp only [go_sem]; done)
        case hh => first | rfl | (simp only [go_sem]; done)
        try simp only [go_sem, simprocAttr, h2, h3, h7, h8, h34]
        repeat' (refine And.intro (by first | omega | (exact ⟨[0, 0, 2, 7, 15], by kernel_rfl⟩) | kernel_rfl) ?_)
        refine dS_call_ro rfl (sat_laws_eqState ?_ ?_ ?hp0) ?ha ?hv ?hh ?_
        case ha => simp only [go_sem, simprocAttr, h2, h3, h7, h8, h34]; first | done | rfl
        case hp0 => first | exact f1.1 | exact f2.1 | assumption
        case hv => first | rfl | (simp only [go_sem]; done)
        case hh => first | rfl | (simp only [go_sem]; done)
        try simp only [go_sem, simprocAttr, h2, h3, h7, h8, h34]
        repeat' (refine And.intro (by first | omega | (exact ⟨[0, 0, 2, 7, 15], by kernel_rfl⟩) | kernel_rfl) ?_)
        refine hK _ _ ⟨_, _, Wk.keep [1, 6, 7, 8, 9] rfl, awl_live' [3, 8, 39] fun ρ hL => ?_⟩
        try simp only [go_sem, simprocAttr, h2, h3, h7, h8, h34] at hL
        try clear h2 h3 h7 h8 h34
        obtain ⟨h3, h8, h39⟩ := hL
        try simp only [go_sem, simprocAttr]
        clear hK K
        refine awl_cond h39 (fun c4 => ?_) (fun c4 => ?_)
        ·
          try simp only [cnd] at c4
          first | (simp at c4; done) | (simp at c4; omega) | omega
        ·
          try simp only [cnd] at c4
          refine awl_skip ?_
          refine awl_seq ?_
          refine awl_seq ?_
          refine awl_regD mixed [(some 40, (.load 46 (.tmp 8)), none), (some 41, (.load 36 (.tmp 3)), none), (some 42, (.call ⟨(.value (.func 22)), #[(.tmp 41)], #[36]⟩), none), (some 43, (.call ⟨(.value (.func 24)), #[(.tmp 40), (.tmp 42)], #[46, 46]⟩), none), (some 44, (.unOp .not 4 (.tmp 43)), none)] rfl fun K hK => ?_
          try simp only [go_sem, simprocAttr, h3, h8, h39]
          repeat' (refine And.intro (by first | omega | (exact ⟨[0, 0, 2, 7, 15], by kernel_rfl⟩) | kernel_rfl) ?_)
          refine dS_call_ro rfl (sat_laws_toState ?_ ?hp0) ?ha ?hv ?hh ?_
          case ha => simp only [go_sem, simprocAttr, h3, h8, h39]; first | done | rfl
          case hp0 => first | exact f1.1 | exact f2.1 | assumption
          case hv => first | rfl | (simp only [go_sem]; done)
          case hh => first | rfl | (simp only [go_sem]; done)
          try simp only [go_sem, simprocAttr, h3, h8, h39]
          repeat' (refine And.intro (by first | omega | (exact ⟨[0, 0, 2, 7, 15], by kernel_rfl⟩) | kernel_rfl) ?_)
          refine dS_call_ro rfl (sat_laws_eqState ?_ ?_ ?hp0) ?ha ?hv ?hh ?_
          case ha => simp only [go_sem, simprocAttr, h3, h8, h39]; first | done | rfl
          case hp0 => first | exact f1.1 | exact f2.1 | assumption
          case hv => first | rfl | (simp only [go_sem]; done)
          case hh => first | rfl | (simp only [go_sem]; done)
          try simp only [go_sem, simprocAttr, h3, h8, h39]
          repeat' (refine And.intro (by first | omega | (exact ⟨[0, 0, 2, 7, 15], by kernel_rfl⟩) | kernel_rfl) ?_)
          refine hK _ _ ⟨_, _, Wk.keep [] rfl, awl_live' [44] fun ρ hL => ?_⟩
          try simp only [go_sem, simprocAttr, h3, h8, h39] at hL
          try clear h3 h8 h39
          have h44 := hL
          clear hL
          try simp only [go_sem, simprocAttr]
          clear hK K
          refine awl_cond h44 (fun c5 => ?_) (fun c5 => ?_)
          ·
            try simp only [cnd] at c5
            first | (simp at c5; done) | (simp at c5; omega) | omega
          ·
            try simp only [cnd] at c5
            refine awl_skip ?_
            refine awl_seq ?_
            refine awl_regS [(some 4, (.assign (.const (.bool true))), none)] rfl fun K hK => ?_
            try simp only [go_sem, simprocAttr, h44]
            repeat' (refine And.intro (by first | exact f1.1 | exact f2.1 | assumption) ?_)
            refine hK _ _ ⟨_, _, Wk.keep [] rfl, awl_live' [4] fun ρ hL => ?_⟩
            try simp only [go_sem, simprocAttr, h44] at hL
            try clear h44
            have h4 := hL
            clear hL
            try simp only [go_sem, simprocAttr]
            clear hK K
            refine awl_ret ?_
            refine ret0 (by simp only [go_sem, simprocAttr, h4]; exact rfl) ?_
            try simp only [go_sem, simprocAttr]
            all_goals (rfl)
end Go.Proofs.Ytlkpicpeoimcjaa.AM
