/- Rows laid behind each other and filtered; the keys of a state. No conditions but those each theorem bears. -/
import Derived.Test.YtgddflnhibhacaaFa
import Derived.Test.YtgddflnhibhacaaSp8
import Derived.Test.YtgddflnhibhacaaCa9
import Derived.Test.YtgddflnhibhacaaCacl
set_option linter.unusedSimpArgs false
set_option linter.unusedVariables false
namespace Go.Proofs.Ytgddflnhibhacaa.AM
open Go

set_option maxHeartbeats 8000000 in
set_option maxRecDepth 100000 in
theorem sat_slices_Grow_impl_Word_impl_Word (n : Nat) (hf : n ≤ 1099511627776) : Sat Try.prog 105 [.nilsl, .int .i64 (n : Int)] [] (.slice 0 0 0 0) [⟨6, [], true, false⟩] := by
  refine sat_mk [.tmp 4] 0 27 Try.call105 Try.func105 Try.ntmps105 rfl rfl rfl rfl rfl ?_
  refine awl_live' [0, 1] fun ρ hL => ?_
  try simp only [go_sem, simprocAttr] at hL
  obtain ⟨h0, h1⟩ := hL
  refine awl_seq ?_
  refine awl_regS [(some 4, (.assign (.const (.slice none 0 0))), none)] rfl fun K hK => ?_
  try simp only [go_sem, simprocAttr, h0, h1]
  repeat' (refine And.intro (by first | rfl | omega | (simp; done)) ?_)
  refine hK _ _ (.mk (awl_live' [0, 1] fun ρ hL => ?_))
  try simp only [go_sem, simprocAttr, h0, h1] at hL
  try clear h0 h1
  obtain ⟨h0, h1⟩ := hL
  clear hK K
  refine awl_seq ?_
  refine awl_seq ?_
  refine awl_regS [(some 5, (.move (.tmp 1)), none), (some 6, (.binOp .lss 3 (.tmp 5) (.const (.int .i64 0)) 3), none)] rfl fun K hK => ?_
  try simp only [go_sem, simprocAttr, h0, h1]
  repeat' (refine And.intro (by first | rfl | omega | (simp; done)) ?_)
  refine hK _ _ (.mk (awl_live' [0, 1, 6] fun ρ hL => ?_))
  try simp only [go_sem, simprocAttr, h0, h1] at hL
  try clear h0 h1
  obtain ⟨h0, h1, h6⟩ := hL
  clear hK K
  refine awl_cond h6 (fun c1 => ?_) (fun c1 => ?_)
  ·
    try simp only [cnd] at c1
    omega
  ·
    try simp only [cnd] at c1
    refine awl_skip ?_
    refine awl_seq ?_
    refine awl_seq ?_
    have w1 : IntKind.i64.wrap (0 - 0) = 0 := by decide
    have w2 : IntKind.i64.wrap 0 = 0 := by decide
    have w3 : IntKind.i64.wrap ((n : Int) - 0) = n := by rw [wrap64 (by omega)]; omega
    have w4 : IntKind.i64.wrap (n : Int) = n := wrap64 (by omega)
    refine awl_regS [(some 8, (.move (.tmp 1)), none), (some 9, (.move (.tmp 0)), none), (some 10, (.call ⟨(.builtin .cap), #[(.tmp 9)], #[38]⟩), none), (some 11, (.move (.tmp 0)), none), (some 12, (.call ⟨(.builtin .len), #[(.tmp 11)], #[38]⟩), none), (some 13, (.binOp .sub 3 (.tmp 10) (.tmp 12) 3), none), (some 14, (.binOp .sub 3 (.tmp 8) (.tmp 13) 3), none), (some 1, (.assign (.tmp 14)), none)] rfl fun K hK => ?_
    try simp only [go_sem, simprocAttr, h0, h1, h6, w1, w2, w3, w4, Int.sub_zero]
    repeat' (refine And.intro (by first | rfl | omega | (simp; done)) ?_)
    refine hK _ _ (.mk (awl_live' [0, 1] fun ρ hL => ?_))
    try simp only [go_sem, simprocAttr, h0, h1, h6, w1, w2, w3, w4, Int.sub_zero] at hL
    try clear h0 h1 h6
    obtain ⟨h0, h1⟩ := hL
    clear hK K
    refine awl_seq ?_
    refine awl_regS [(some 15, (.move (.tmp 1)), none), (some 16, (.binOp .gtr 3 (.tmp 15) (.const (.int .i64 0)) 3), none)] rfl fun K hK => ?_
    try simp only [go_sem, simprocAttr, h0, h1]
    repeat' (refine And.intro (by first | rfl | omega | (simp; done)) ?_)
    refine hK _ _ (.mk (awl_live' [0, 1, 16] fun ρ hL => ?_))
    try simp only [go_sem, simprocAttr, h0, h1] at hL
    try clear h0 h1
    obtain ⟨h0, h1, h16⟩ := hL
    clear hK K
    refine awl_cond h16 (fun c2 => ?_) (fun c2 => ?_)
    ·
      try simp only [cnd] at c2
      refine awl_regS [(some 17, (.move (.tmp 0)), none), (some 18, (.move (.tmp 0)), none), (some 19, (.call ⟨(.builtin .cap), #[(.tmp 18)], #[38]⟩), none), (some 20, (.slice 38 (.tmp 17) none (some (.tmp 19)) none), none), (some 21, (.move (.tmp 1)), none), (some 22, (.call ⟨(.builtin .append), #[(.tmp 20), (.tmp 21)], #[38, 3]⟩), none), (some 23, (.move (.tmp 0)), none), (some 24, (.call ⟨(.builtin .len), #[(.tmp 23)], #[38]⟩), none), (some 25, (.slice 38 (.tmp 22) none (some (.tmp 24)) none), none), (some 0, (.assign (.tmp 25)), none)] rfl fun K hK => ?_
      try simp only [go_sem, simprocAttr, h0, h1, h16, Nat.sub_zero, Nat.sub_self, Nat.max_zero, Nat.zero_max, Option.isSome_none, Option.isNone_some, Option.isNone_none]
      repeat' (refine And.intro (by first | rfl | omega | (simp; done)) ?_)
      refine hK _ _ (.mk (awl_live' [0] fun ρ hL => ?_))
      try simp only [go_sem, simprocAttr, h0, h1, h16, Nat.sub_zero, Nat.sub_self, Nat.max_zero, Nat.zero_max, Option.isSome_none, Option.isNone_some, Option.isNone_none] at hL
      try clear h0 h1 h16
      have h0 := hL
      clear hL
      clear hK K
      refine awl_seq ?_
      refine awl_regS [(some 26, (.move (.tmp 0)), none), (some 4, (.assign (.tmp 26)), none)] rfl fun K hK => ?_
      try simp only [go_sem, simprocAttr, h0]
      repeat' (refine And.intro (by first | rfl | omega | (simp; done)) ?_)
      refine hK _ _ (.mk (awl_live' [4] fun ρ hL => ?_))
      try simp only [go_sem, simprocAttr, h0] at hL
      try clear h0
      have h4 := hL
      clear hL
      clear hK K
      refine awl_ret ?_
      refine ret_wk (Wk.norm [] (RefE.refl.upd h4 (Ref.cap _ _ _ _ 0 (Nat.zero_le _)))) ?_
      refine retK [0] [0] rfl (by simp only [go_sem, simprocAttr, h4]; exact rfl) (by decide) (by first | rfl | (simp only [go_sem, simprocAttr, h4]; first | done | rfl)) (by first | rfl | (simp only [go_sem, simprocAttr, h4]; first | done | rfl)) ?_ ?_
      all_goals try simp only [go_sem, simprocAttr, h4]
      all_goals (first | done | rfl | (simp; done) | (simp [inR]; done) | (simp_all [inR]; done) | (simp [inR]; grind))
    ·
      try simp only [cnd] at c2
      refine awl_skip ?_
      refine awl_seq ?_
      refine awl_regS [(some 26, (.move (.tmp 0)), none), (some 4, (.assign (.tmp 26)), none)] rfl fun K hK => ?_
      try simp only [go_sem, simprocAttr, h0, h1, h16]
      repeat' (refine And.intro (by first | rfl | omega | (simp; done)) ?_)
      refine hK _ _ (.mk (awl_live' [4] fun ρ hL => ?_))
      try simp only [go_sem, simprocAttr, h0, h1, h16] at hL
      try clear h0 h1 h16
      have h4 := hL
      clear hL
      clear hK K
      refine awl_ret ?_
      refine ret_wk (Wk.norm [6] (RefE.refl.upd h4 (Ref.nil 0 ⟨Nat.le_refl _, Nat.lt_succ_self _⟩))) ?_
      refine retK [0] [0] rfl (by simp only [go_sem, simprocAttr, h4]; exact rfl) (by decide) (by first | rfl | (simp only [go_sem, simprocAttr, h4]; first | done | rfl)) (by first | rfl | (simp only [go_sem, simprocAttr, h4]; first | done | rfl)) ?_ ?_
      all_goals try simp only [go_sem, simprocAttr, h4]
      all_goals (first | done | rfl | (simp; done) | (simp [inR]; done) | (simp_all [inR]; done) | (simp [inR]; grind))
set_option maxHeartbeats 8000000 in
set_option maxRecDepth 100000 in
theorem sat_slices_Concat_impl_Word_impl_Word (L : List (List Word)) (hb : L.length ≤ 1048576) (hf : L.flatten.length ≤ 1099511627776) : Sat Try.prog 56 [.sl L.length L.length (L.map slW)] [] (.slice 0 0 L.flatten.length 0) [⟨6, rows L.flatten, true, false⟩] := by
  refine sat_mk [.tmp 2] 0 36 Try.call56 Try.func56 Try.ntmps56 rfl rfl rfl rfl rfl ?_
  refine awl_live' [0] fun ρ hL => ?_
  try simp only [go_sem, simprocAttr, slW_len, bor_slW] at hL
  have h0 := hL
  clear hL
  refine awl_seq ?_
  refine awl_regS [(some 2, (.assign (.const (.slice none 0 0))), none)] rfl fun K hK => ?_
  try simp only [go_sem, simprocAttr, h0, slW_len, bor_slW]
  repeat' (refine And.intro (by first | rfl | omega | (simp; done)) ?_)
  refine hK _ _ (.mk (awl_live' [0] fun ρ hL => ?_))
  try simp only [go_sem, simprocAttr, h0, slW_len, bor_slW] at hL
  try clear h0
  have h0 := hL
  clear hL
  clear hK K
  refine awl_seq ?_
  refine awl_regS [(some 3, (.assign (.const (.int .i64 0))), none)] rfl fun K hK => ?_
  try simp only [go_sem, simprocAttr, h0, slW_len, bor_slW]
  repeat' (refine And.intro (by first | rfl | omega | (simp; done)) ?_)
  refine hK _ _ (.mk (awl_live' [0, 3] fun ρ hL => ?_))
  try simp only [go_sem, simprocAttr, h0, slW_len, bor_slW] at hL
  try clear h0
  obtain ⟨h0, h3⟩ := hL
  clear hK K
  refine awl_seq ?_
  refine awl_seq ?_
  refine awl_regS [(some 9, (.move (.tmp 0)), none), (some 10, (.call ⟨(.builtin .len), #[(.tmp 9)], #[122]⟩), none), (some 11, (.move (.const (.int .i64 0))), none)] rfl fun K hK => ?_
  try simp only [go_sem, simprocAttr, h0, h3, slW_len, bor_slW]
  repeat' (refine And.intro (by first | rfl | omega | (simp; done)) ?_)
  refine hK _ _ (.mk (awl_live' [0, 3, 9, 10, 11] fun ρ hL => ?_))
  try simp only [go_sem, simprocAttr, h0, h3, slW_len, bor_slW] at hL
  try clear h0 h3
  obtain ⟨h0, h3, h9, h10, h11⟩ := hL
  clear hK K
  have e1_0 := h0
  have e1_9 := h9
  have e1_10 := h10
  refine awl_loopH (fun H0 n σ G => ∃ (i : Nat), n = L.length - i ∧ (i ≤ L.length) ∧ liveE [0, 9, 10] σ ρ ∧ σ 3 = .int .i64 (((L.take i).flatten.length : Nat) : Int) ∧ σ 11 = .int .i64 (i : Int) ∧ G = H0) (fun H0 σ G => liveE [0] σ ρ ∧ σ 3 = .int .i64 ((L.flatten.length : Nat) : Int) ∧ G = H0) ((fun (i : Nat) => L.length - i) 0) ?init1 (fun n ρ G hI => ?round1) (fun ρ G hJ => ?after1)
  case init1 => exact ⟨0, rfl, (Nat.zero_le _), liveE_refl _ _, (by rw [h3]; rfl), (h11), rfl⟩
  case round1 =>
    obtain ⟨i, hn, i1_0, hL, k3, k11, hG⟩ := hI
    subst hG
    try simp only [go_sem, simprocAttr, h0, h3, h9, h10, h11, slW_len, bor_slW] at hL
    clear h0 h3 h9 h10 h11
    obtain ⟨h0, h9, h10⟩ := hL
    have h3 := k3
    clear k3
    have h11 := k11
    clear k11
    refine awl_seq ?_
    refine awl_regS [(some 12, (.binOp .lss 3 (.tmp 11) (.tmp 10) 3), none)] rfl fun K hK => ?_
    try simp only [go_sem, simprocAttr, h0, h3, h9, h10, h11, slW_len, bor_slW]
    repeat' (refine And.intro (by first | rfl | omega | (simp; done)) ?_)
    refine hK _ _ (.mk (awl_live' [0, 3, 9, 10, 11, 12] fun ρ hL => ?_))
    try simp only [go_sem, simprocAttr, h0, h3, h9, h10, h11, slW_len, bor_slW] at hL
    try clear h0 h3 h9 h10 h11
    obtain ⟨h0, h3, h9, h10, h11, h12⟩ := hL
    clear hK K
    refine awl_seq ?_
    refine awl_cond h12 (fun c1 => ?_) (fun c1 => ?_)
    ·
      try simp only [cnd] at c1
      have hi1 : i < L.length := by omega
      refine awl_skip ?_
      refine awl_seq ?_
      refine awl_block fun R1 hw1 hR1 => ?_
      refine awl_seq ?_
      have hv1 := slW_at hi1
      refine awl_regS [(some 13, (.indexAddr 122 (.tmp 9) (.tmp 11)), none), (some 14, (.load 38 (.tmp 13)), none), (some 5, (.assign (.tmp 14)), none)] rfl fun K hK => ?_
      try simp only [go_sem, simprocAttr, h0, h3, h9, h10, h11, h12, hi1, slW_len, bor_slW, hv1, slW]
      repeat' (refine And.intro (by first | rfl | omega | (simp; done)) ?_)
      refine hK _ _ (.mk (awl_live' [0, 3, 5, 9, 10, 11] fun ρ hL => ?_))
      try simp only [go_sem, simprocAttr, h0, h3, h9, h10, h11, h12, hi1, slW_len, bor_slW, hv1, slW] at hL
      try clear h0 h3 h9 h10 h11 h12
      obtain ⟨h0, h3, h5, h9, h10, h11⟩ := hL
      clear hK K
      refine awl_seq ?_
      have hv2 := take_flat_le (L := L) (i := i + 1)
      have hv3 : (L.take (i + 1)).flatten.length = (L.take i).flatten.length + (L.getD i []).length := by rw [take_flat hi1, List.length_append]
      have w5 : IntKind.i64.wrap (((L.take i).flatten.length : Int) + ((L.getD i []).length : Int)) = (((L.take (i + 1)).flatten.length : Nat) : Int) := by rw [wrap64 (by omega)]; omega
      refine awl_regS [(some 15, (.move (.tmp 3)), none), (some 16, (.move (.tmp 5)), none), (some 17, (.call ⟨(.builtin .len), #[(.tmp 16)], #[38]⟩), none), (some 18, (.binOp .add 3 (.tmp 15) (.tmp 17) 3), none), (some 3, (.assign (.tmp 18)), none)] rfl fun K hK => ?_
      try simp only [go_sem, simprocAttr, h0, h3, h5, h9, h10, h11, hi1, slW_len, bor_slW, w5]
      repeat' (refine And.intro (by first | rfl | omega | (simp; done)) ?_)
      refine hK _ _ (.mk (awl_live' [0, 3, 9, 10, 11] fun ρ hL => ?_))
      try simp only [go_sem, simprocAttr, h0, h3, h5, h9, h10, h11, hi1, slW_len, bor_slW, w5] at hL
      try clear h0 h3 h5 h9 h10 h11
      obtain ⟨h0, h3, h9, h10, h11⟩ := hL
      clear hK K
      refine awl_seq ?_
      refine awl_regS [(some 19, (.move (.tmp 3)), none), (some 20, (.binOp .lss 3 (.tmp 19) (.const (.int .i64 0)) 3), none)] rfl fun K hK => ?_
      try simp only [go_sem, simprocAttr, h0, h3, h9, h10, h11, hi1, slW_len, bor_slW]
      repeat' (refine And.intro (by first | rfl | omega | (simp; done)) ?_)
      refine hK _ _ (.mk (awl_live' [0, 3, 9, 10, 11, 20] fun ρ hL => ?_))
      try simp only [go_sem, simprocAttr, h0, h3, h9, h10, h11, hi1, slW_len, bor_slW] at hL
      try clear h0 h3 h9 h10 h11
      obtain ⟨h0, h3, h9, h10, h11, h20⟩ := hL
      clear hK K
      refine awl_cond h20 (fun c2 => ?_) (fun c2 => ?_)
      ·
        try simp only [cnd] at c2
        omega
      ·
        try simp only [cnd] at c2
        refine awl_skip ?_
        refine awl_nil ?_
        refine blk_normal (hR1 _ _ (.mk ?_))
        have w1 : IntKind.i64.wrap ((i : Int) + 1) = ((i + 1 : Nat) : Int) := by rw [wrap64 (by omega)]; omega
        refine awl_regS [(some 22, (.binOp .add 3 (.tmp 11) (.const (.int .i64 1)) 3), none), (some 11, (.move (.tmp 22)), none)] rfl fun K hK => ?_
        try simp only [go_sem, simprocAttr, h0, h3, h9, h10, h11, h20, hi1, w1, slW_len, bor_slW]
        repeat' (refine And.intro (by first | rfl | omega | (simp; done)) ?_)
        refine hK _ _ (.mk (awl_live' [0, 3, 9, 10, 11] fun ρ hL => ?_))
        try simp only [go_sem, simprocAttr, h0, h3, h9, h10, h11, h20, hi1, w1, slW_len, bor_slW] at hL
        try clear h0 h3 h9 h10 h11 h20
        obtain ⟨h0, h3, h9, h10, h11⟩ := hL
        clear hK K
        refine awl_nil ?_
        refine loop_again _ ?meas ⟨i + 1, rfl, (by omega), (by simp only [go_sem, simprocAttr, h0, h3, h9, h10, h11, hi1, slW_len, bor_slW, e1_0, e1_9, e1_10]), (h3), (h11), rfl⟩
        case meas => subst hn; omega
    ·
      try simp only [cnd] at c1
      refine awl_exit ?_
      refine loop_break ?_
      exact ⟨(by simp only [go_sem, simprocAttr, h0, h3, h9, h10, h11, h12, slW_len, bor_slW, e1_0, e1_9, e1_10]), (by rw [h3, show i = L.length by omega, List.take_length]), rfl⟩
  case after1 =>
    obtain ⟨hL, k3, hG⟩ := hJ
    subst hG
    try simp only [go_sem, simprocAttr, h0, h3, h9, h10, h11, slW_len, bor_slW] at hL
    clear h0 h3 h9 h10 h11
    have h0 := hL
    clear hL
    have h3 := k3
    clear k3
    refine awl_seq ?_
    refine awl_regS [(some 23, (.move (.tmp 3)), none), (some 24, (.call ⟨(.value (.func 105)), #[(.const (.slice none 0 0)), (.tmp 23)], #[38, 3]⟩), none), (some 6, (.assign (.tmp 24)), none)] rfl fun K hK => ?_
    try simp only [go_sem, simprocAttr, h0, h3, slW_len, bor_slW]
    repeat' (refine And.intro (by first | rfl | omega | (simp; done)) ?_)
    refine opS_call_ro rfl (sat_slices_Grow_impl_Word_impl_Word L.flatten.length hf) ?ha ?hv ?hh ?_
    case ha => simp only [go_sem, simprocAttr, h0, h3, slW_len, bor_slW]; first | done | rfl
    case hv => first | rfl | (simp only [go_sem]; done)
    case hh => first | rfl | (simp only [go_sem]; done)
    try simp only [go_sem, simprocAttr, h0, h3, slW_len, bor_slW]
    repeat' (refine And.intro (by first | rfl | omega | (simp; done)) ?_)
    refine hK _ _ (.mk (awl_live' [0, 6] fun ρ hL => ?_))
    try simp only [go_sem, simprocAttr, h0, h3, slW_len, bor_slW] at hL
    try clear h0 h3
    obtain ⟨h0, h6⟩ := hL
    clear hK K
    refine awl_seq ?_
    refine awl_seq ?_
    refine awl_regS [(some 25, (.move (.tmp 0)), none), (some 26, (.call ⟨(.builtin .len), #[(.tmp 25)], #[122]⟩), none), (some 27, (.move (.const (.int .i64 0))), none)] rfl fun K hK => ?_
    try simp only [go_sem, simprocAttr, h0, h6, slW_len, bor_slW]
    repeat' (refine And.intro (by first | rfl | omega | (simp; done)) ?_)
    refine hK _ _ (.mk (awl_live' [6, 25, 26, 27] fun ρ hL => ?_))
    try simp only [go_sem, simprocAttr, h0, h6, slW_len, bor_slW] at hL
    try clear h0 h6
    obtain ⟨h6, h25, h26, h27⟩ := hL
    clear hK K
    have e2_25 := h25
    have e2_26 := h26
    refine awl_loopH (fun H0 n σ G => ∃ (i : Nat), n = L.length - i ∧ (i ≤ L.length) ∧ liveE [25, 26] σ ρ ∧ σ 6 = .slice 0 0 (L.take i).flatten.length 0 ∧ σ 27 = .int .i64 (i : Int) ∧ G = [⟨6, rows (L.take i).flatten, true, false⟩]) (fun H0 σ G => liveE [] σ ρ ∧ σ 6 = .slice 0 0 L.flatten.length 0 ∧ G = [⟨6, rows L.flatten, true, false⟩]) ((fun (i : Nat) => L.length - i) 0) ?init2 (fun n ρ G hI => ?round2) (fun ρ G hJ => ?after2)
    case init2 => exact ⟨0, rfl, (Nat.zero_le _), liveE_refl _ _, (h6), (h27), rfl⟩
    case round2 =>
      obtain ⟨i, hn, i2_0, hL, k6, k27, hG⟩ := hI
      subst hG
      try simp only [go_sem, simprocAttr, h6, h25, h26, h27, slW_len, bor_slW] at hL
      clear h6 h25 h26 h27
      obtain ⟨h25, h26⟩ := hL
      have h6 := k6
      clear k6
      have h27 := k27
      clear k27
      refine awl_seq ?_
      refine awl_regS [(some 28, (.binOp .lss 3 (.tmp 27) (.tmp 26) 3), none)] rfl fun K hK => ?_
      try simp only [go_sem, simprocAttr, h6, h25, h26, h27, slW_len, bor_slW]
      repeat' (refine And.intro (by first | rfl | omega | (simp; done)) ?_)
      refine hK _ _ (.mk (awl_live' [6, 25, 26, 27, 28] fun ρ hL => ?_))
      try simp only [go_sem, simprocAttr, h6, h25, h26, h27, slW_len, bor_slW] at hL
      try clear h6 h25 h26 h27
      obtain ⟨h6, h25, h26, h27, h28⟩ := hL
      clear hK K
      refine awl_seq ?_
      refine awl_cond h28 (fun c3 => ?_) (fun c3 => ?_)
      ·
        try simp only [cnd] at c3
        have hi2 : i < L.length := by omega
        refine awl_skip ?_
        refine awl_seq ?_
        refine awl_block fun R2 hw2 hR2 => ?_
        refine awl_seq ?_
        have hv1 := slW_at hi2
        refine awl_regS [(some 29, (.indexAddr 122 (.tmp 25) (.tmp 27)), none), (some 30, (.load 38 (.tmp 29)), none), (some 8, (.assign (.tmp 30)), none)] rfl fun K hK => ?_
        try simp only [go_sem, simprocAttr, h6, h25, h26, h27, h28, hi2, slW_len, bor_slW, hv1, slW]
        repeat' (refine And.intro (by first | rfl | omega | (simp; done)) ?_)
        refine hK _ _ (.mk (awl_live' [6, 8, 25, 26, 27] fun ρ hL => ?_))
        try simp only [go_sem, simprocAttr, h6, h25, h26, h27, h28, hi2, slW_len, bor_slW, hv1, slW] at hL
        try clear h6 h25 h26 h27 h28
        obtain ⟨h6, h8, h25, h26, h27⟩ := hL
        clear hK K
        have hv2 := take_flat_le (L := L) (i := i + 1)
        have hv3 : (L.take (i + 1)).flatten.length = (L.take i).flatten.length + (L.getD i []).length := by rw [take_flat hi2, List.length_append]
        refine awl_regS [(some 31, (.move (.tmp 6)), none), (some 32, (.move (.tmp 8)), none), (some 33, (.call ⟨(.builtin .append), #[(.tmp 31), (.tmp 32)], #[38, 38]⟩), none), (some 6, (.assign (.tmp 33)), none)] rfl fun K hK => ?_
        try simp only [go_sem, simprocAttr, h6, h8, h25, h26, h27, hi2, slW_len, bor_slW]
        repeat' (refine And.intro (by first | rfl | omega | (simp; done)) ?_)
        refine hK _ _ (.mk (awl_live' [6, 25, 26, 27] fun ρ hL => ?_))
        try simp only [go_sem, simprocAttr, h6, h8, h25, h26, h27, hi2, slW_len, bor_slW] at hL
        try clear h6 h8 h25 h26 h27
        obtain ⟨h6, h25, h26, h27⟩ := hL
        clear hK K
        refine awl_nil ?_
        refine blk_normal (hR2 _ _ (.mk ?_))
        have w2 : IntKind.i64.wrap ((i : Int) + 1) = ((i + 1 : Nat) : Int) := by rw [wrap64 (by omega)]; omega
        refine awl_regS [(some 34, (.binOp .add 3 (.tmp 27) (.const (.int .i64 1)) 3), none), (some 27, (.move (.tmp 34)), none)] rfl fun K hK => ?_
        try simp only [go_sem, simprocAttr, h6, h25, h26, h27, hi2, w2, slW_len, bor_slW]
        repeat' (refine And.intro (by first | rfl | omega | (simp; done)) ?_)
        refine hK _ _ (.mk (awl_live' [6, 25, 26, 27] fun ρ hL => ?_))
        try simp only [go_sem, simprocAttr, h6, h25, h26, h27, hi2, w2, slW_len, bor_slW] at hL
        try clear h6 h25 h26 h27
        obtain ⟨h6, h25, h26, h27⟩ := hL
        clear hK K
        refine awl_nil ?_
        refine loop_againW (Wk.keep [1] rfl) _ ?meas ⟨i + 1, rfl, (by omega), (by simp only [go_sem, simprocAttr, h6, h25, h26, h27, hi2, slW_len, bor_slW, e2_25, e2_26]), (by simp only [go_sem, simprocAttr, h6, h25, h26, h27, hi2, slW_len, bor_slW, e2_25, e2_26]; rw [hv3]), (by simp only [go_sem, simprocAttr, h6, h25, h26, h27, hi2, slW_len, bor_slW, e2_25, e2_26]; first | done | rfl), (by simp only [go_sem, simprocAttr, h6, h25, h26, h27, hi2, slW_len, bor_slW, e2_25, e2_26]; rw [take_flat hi2, rows_append])⟩
        case meas => subst hn; omega
      ·
        try simp only [cnd] at c3
        refine awl_exit ?_
        refine loop_break ?_
        exact ⟨(by simp only [go_sem, simprocAttr, h6, h25, h26, h27, h28, slW_len, bor_slW, e2_25, e2_26]), (by rw [h6, show i = L.length by omega, List.take_length]), by rw [show i = L.length by omega, List.take_length]⟩
    case after2 =>
      obtain ⟨hL, k6, hG⟩ := hJ
      subst hG
      clear h6 h25 h26 h27
      clear hL
      have h6 := k6
      clear k6
      refine awl_seq ?_
      refine awl_regS [(some 35, (.move (.tmp 6)), none), (some 2, (.assign (.tmp 35)), none)] rfl fun K hK => ?_
      try simp only [go_sem, simprocAttr, h6, slW_len, bor_slW]
      repeat' (refine And.intro (by first | rfl | omega | (simp; done)) ?_)
      refine hK _ _ (.mk (awl_live' [2] fun ρ hL => ?_))
      try simp only [go_sem, simprocAttr, h6, slW_len, bor_slW] at hL
      try clear h6
      have h2 := hL
      clear hL
      clear hK K
      refine awl_ret ?_
      refine retK [0] [0] rfl (by simp only [go_sem, simprocAttr, h2, slW_len, bor_slW]; exact rfl) (by decide) (by first | rfl | (simp only [go_sem, simprocAttr, h2, slW_len, bor_slW]; first | done | rfl)) (by first | rfl | (simp only [go_sem, simprocAttr, h2, slW_len, bor_slW]; first | done | rfl)) ?_ ?_
      all_goals try simp only [go_sem, simprocAttr, h2, slW_len, bor_slW]
      all_goals try clear hR1
      all_goals try clear hR2
      all_goals (first | done | rfl | (simp; done) | (simp [inR]; done) | (simp_all [inR]; done) | (simp [inR]; grind))
set_option maxHeartbeats 8000000 in
set_option maxRecDepth 100000 in
theorem sat_impl_keysOf_1 (w : Word)  : Sat Try.prog 104 [.agg w.cells] [] (.bool (!w.is)) [] := by
  refine sat_mk [.tmp 2] 0 6 Try.call104 Try.func104 Try.ntmps104 rfl rfl rfl rfl rfl ?_
  refine awl_live' [0] fun ρ hL => ?_
  try simp only [go_sem, simprocAttr] at hL
  have h0 := hL
  clear hL
  refine awl_seq ?_
  refine awl_regS [(some 1, (.box 42 (.tmp 0)), none), (some 2, (.assign (.const (.bool false))), none)] rfl fun K hK => ?_
  try simp only [go_sem, simprocAttr, h0]
  repeat' (refine And.intro (by first | rfl | omega | (simp; done)) ?_)
  refine hK _ _ (.mk (awl_live' [1] fun ρ hL => ?_))
  try simp only [go_sem, simprocAttr, h0] at hL
  try clear h0
  have h1 := hL
  clear hL
  clear hK K
  refine awl_seq ?_
  refine awl_regS [(some 3, (.fieldAddr 42 (.tmp 1) 1), none), (some 4, (.load 4 (.tmp 3)), none), (some 5, (.unOp .not 4 (.tmp 4)), none), (some 2, (.assign (.tmp 5)), none)] rfl fun K hK => ?_
  try simp only [go_sem, simprocAttr, h1]
  repeat' (refine And.intro (by first | rfl | omega | (simp; done)) ?_)
  refine hK _ _ (.mk (awl_live' [2] fun ρ hL => ?_))
  try simp only [go_sem, simprocAttr, h1] at hL
  try clear h1
  have h2 := hL
  clear hL
  clear hK K
  refine awl_ret ?_
  refine ret0 (by simp only [go_sem, simprocAttr, h2]; exact rfl) ?_
  try simp only [go_sem, simprocAttr]
  all_goals (first | done | rfl | (simp; done) | (simp [inR]; done) | (simp_all [inR]; done) | (simp [inR]; grind))
set_option maxHeartbeats 8000000 in
set_option maxRecDepth 100000 in
theorem sat_slices_DeleteFunc_impl_Word_impl_Word (xs : List Word) (g : FuncId) (p : Word → Bool) (hb : xs.length ≤ 1099511627776) (hg : ∀ x : Word, Sat Try.prog g (.agg (Word.cells x) :: []) [] (.bool (p x)) []) : Sat Try.prog 102 [.slice 0 0 xs.length 0, .func g [] []] [⟨6, rows xs, true, false⟩] (.slice 0 0 (kept p xs).length 0) [⟨6, rows (kept p xs), true, false⟩] := by
  refine sat_mk [.tmp 4] 1 42 Try.call102 Try.func102 Try.ntmps102 rfl rfl rfl rfl rfl ?_
  refine awl_live' [0, 1] fun ρ hL => ?_
  try simp only [go_sem, simprocAttr] at hL
  obtain ⟨h0, h1⟩ := hL
  refine awl_seq ?_
  refine awl_regS [(some 4, (.assign (.const (.slice none 0 0))), none)] rfl fun K hK => ?_
  try simp only [go_sem, simprocAttr, h0, h1]
  repeat' (refine And.intro (by first | rfl | omega | (simp; done)) ?_)
  refine hK _ _ (.mk (awl_live' [0, 1] fun ρ hL => ?_))
  try simp only [go_sem, simprocAttr, h0, h1] at hL
  try clear h0 h1
  obtain ⟨h0, h1⟩ := hL
  clear hK K
  refine awl_seq ?_
  refine awl_regS [(some 8, (.move (.tmp 0)), none), (some 9, (.move (.tmp 1)), none), (some 10, (.call ⟨(.value (.func 137)), #[(.tmp 8), (.tmp 9)], #[38, 108]⟩), none), (some 5, (.assign (.tmp 10)), none)] rfl fun K hK => ?_
  try simp only [go_sem, simprocAttr, h0, h1]
  repeat' (refine And.intro (by first | rfl | omega | (simp; done)) ?_)
  refine opS_call_ro rfl (sat_slices_IndexFunc_impl_Word_impl_Word xs g [] p hb (fun _ _ _ => rfl) hg) ?ha ?hv ?hh ?_
  case ha => simp only [go_sem, simprocAttr, h0, h1]; first | done | rfl
  case hv => first | rfl | (simp only [go_sem]; done)
  case hh => first | rfl | (simp only [go_sem]; done)
  try simp only [go_sem, simprocAttr, h0, h1]
  repeat' (refine And.intro (by first | rfl | omega | (simp; done)) ?_)
  refine hK _ _ (.mk (awl_live' [0, 1, 5] fun ρ hL => ?_))
  try simp only [go_sem, simprocAttr, h0, h1] at hL
  try clear h0 h1
  obtain ⟨h0, h1, h5⟩ := hL
  clear hK K
  refine awl_seq ?_
  refine awl_seq ?_
  refine awl_regS [(some 11, (.move (.tmp 5)), none), (some 12, (.binOp .eql 3 (.tmp 11) (.const (.int .i64 (-1))) 3), none)] rfl fun K hK => ?_
  try simp only [go_sem, simprocAttr, h0, h1, h5]
  repeat' (refine And.intro (by first | rfl | omega | (simp; done)) ?_)
  refine hK _ _ (.mk (awl_live' [0, 1, 5, 12] fun ρ hL => ?_))
  try simp only [go_sem, simprocAttr, h0, h1, h5] at hL
  try clear h0 h1 h5
  obtain ⟨h0, h1, h5, h12⟩ := hL
  clear hK K
  refine awl_cond h12 (fun c1 => ?_) (fun c1 => ?_)
  ·
    try simp only [cnd] at c1
    refine awl_seq ?_
    refine awl_regS [(some 13, (.move (.tmp 0)), none), (some 4, (.assign (.tmp 13)), none)] rfl fun K hK => ?_
    try simp only [go_sem, simprocAttr, h0, h1, h5, h12]
    repeat' (refine And.intro (by first | rfl | omega | (simp; done)) ?_)
    refine hK _ _ (.mk (awl_live' [4] fun ρ hL => ?_))
    try simp only [go_sem, simprocAttr, h0, h1, h5, h12] at hL
    try clear h0 h1 h5 h12
    have h4 := hL
    clear hL
    clear hK K
    refine awl_ret ?_
    refine retK [] [0] rfl (by simp only [go_sem, simprocAttr, h4]; exact rfl) (by decide) (by first | rfl | (simp only [go_sem, simprocAttr, h4]; first | done | rfl)) (by first | rfl | (simp only [go_sem, simprocAttr, h4]; first | done | rfl)) ?_ ?_
    all_goals try simp only [go_sem, simprocAttr, h4]
    all_goals (rw [kept_all (firstAt_none c1)])
  ·
    try simp only [cnd] at c1
    refine awl_skip ?_
    refine awl_seq ?_
    refine awl_seq ?_
    obtain ⟨m, hm0, hm1, hm2, hm3⟩ := firstAt_some (d := noWord) c1
    rw [hm0] at h5
    have w4 : IntKind.i64.wrap ((m : Int) + 1) = ((m + 1 : Nat) : Int) := by rw [wrap64 (by omega)]; omega
    refine awl_regS [(some 14, (.move (.tmp 5)), none), (some 15, (.binOp .add 3 (.tmp 14) (.const (.int .i64 1)) 3), none), (some 6, (.assign (.tmp 15)), none)] rfl fun K hK => ?_
    try simp only [go_sem, simprocAttr, h0, h1, h5, h12, w4]
    repeat' (refine And.intro (by first | rfl | omega | (simp; done)) ?_)
    refine hK _ _ (.mk (awl_live' [0, 1, 5, 6] fun ρ hL => ?_))
    try simp only [go_sem, simprocAttr, h0, h1, h5, h12, w4] at hL
    try clear h0 h1 h5 h12
    obtain ⟨h0, h1, h5, h6⟩ := hL
    clear hK K
    have e1_0 := h0
    have e1_1 := h1
    refine awl_loopH (fun H0 n σ G => ∃ (ys : List Word) (i : Nat) (j : Nat), n = xs.length - j ∧ (i < j) ∧ (j ≤ xs.length) ∧ (ys.length = xs.length) ∧ (ys.take i = kept p (xs.take j)) ∧ (ys.drop j = xs.drop j) ∧ liveE [0, 1] σ ρ ∧ σ 5 = .int .i64 (i : Int) ∧ σ 6 = .int .i64 (j : Int) ∧ G = [⟨6, rows ys, true, false⟩]) (fun H0 σ G => ∃ (ys : List Word) (i : Nat), (ys.length = xs.length) ∧ (i ≤ xs.length) ∧ (ys.take i = kept p xs) ∧ liveE [0] σ ρ ∧ σ 5 = .int .i64 (i : Int) ∧ G = [⟨6, rows ys, true, false⟩]) ((fun (ys : List Word) (i : Nat) (j : Nat) => xs.length - j) xs  m  (m + 1)) ?init1 (fun n ρ G hI => ?round1) (fun ρ G hJ => ?after1)
    case init1 => exact ⟨xs, m, (m + 1), rfl, (Nat.lt_succ_self _), (by omega), (rfl), (by rw [kept_take hm1, if_pos hm3, List.append_nil, kept_all hm2]), (rfl), liveE_refl _ _, (h5), (h6), rfl⟩
    case round1 =>
      obtain ⟨ys, i, j, hn, i1_0, i1_1, i1_2, i1_3, i1_4, hL, k5, k6, hG⟩ := hI
      subst hG
      try simp only [go_sem, simprocAttr, h0, h1, h5, h6] at hL
      clear h0 h1 h5 h6
      obtain ⟨h0, h1⟩ := hL
      have h5 := k5
      clear k5
      have h6 := k6
      clear k6
      refine awl_seq ?_
      refine awl_seq ?_
      refine awl_regS [(some 16, (.move (.tmp 6)), none), (some 17, (.move (.tmp 0)), none), (some 18, (.call ⟨(.builtin .len), #[(.tmp 17)], #[38]⟩), none), (some 19, (.binOp .lss 3 (.tmp 16) (.tmp 18) 3), none)] rfl fun K hK => ?_
      try simp only [go_sem, simprocAttr, h0, h1, h5, h6]
      repeat' (refine And.intro (by first | rfl | omega | (simp; done)) ?_)
      refine hK _ _ (.mk (awl_live' [0, 1, 5, 6, 19] fun ρ hL => ?_))
      try simp only [go_sem, simprocAttr, h0, h1, h5, h6] at hL
      try clear h0 h1 h5 h6
      obtain ⟨h0, h1, h5, h6, h19⟩ := hL
      clear hK K
      refine awl_cond h19 (fun c2 => ?_) (fun c2 => ?_)
      ·
        try simp only [cnd] at c2
        refine awl_skip ?_
        refine awl_seq ?_
        refine awl_block fun R1 hw1 hR1 => ?_
        refine awl_seq ?_
        have hj2 : j < ys.length := by omega
        have hj3 : j < xs.length := by omega
        have hg2 := getD_of_drop i1_4
        refine awl_regS [(some 22, (.move (.tmp 0)), none), (some 23, (.move (.tmp 6)), none), (some 24, (.indexAddr 38 (.tmp 22) (.tmp 23)), none), (some 25, (.load 42 (.tmp 24)), none), (some 7, (.alloc 42), none), (none, (.store 42 (.tmp 7) (.tmp 25)), none)] rfl fun K hK => ?_
        try simp only [go_sem, simprocAttr, h0, h1, h5, h6, h19, hj2, hg2]
        repeat' (refine And.intro (by first | rfl | omega | (simp; done)) ?_)
        refine hK _ _ (.mk (awl_live' [0, 1, 5, 6, 7] fun ρ hL => ?_))
        try simp only [go_sem, simprocAttr, h0, h1, h5, h6, h19, hj2, hg2] at hL
        try clear h0 h1 h5 h6 h19
        obtain ⟨h0, h1, h5, h6, h7⟩ := hL
        clear hK K
        refine awl_seq ?_
        refine awl_regS [(some 26, (.move (.tmp 1)), none), (some 27, (.load 42 (.tmp 7)), none), (some 28, (.call ⟨(.value (.tmp 26)), #[(.tmp 27)], #[42]⟩), none), (some 29, (.unOp .not 4 (.tmp 28)), none)] rfl fun K hK => ?_
        try simp only [go_sem, simprocAttr, h0, h1, h5, h6, h7]
        repeat' (refine And.intro (by first | rfl | omega | (simp; done)) ?_)
        refine opS_call_ro (by simp only [go_sem, simprocAttr, h0, h1, h5, h6, h7]; exact rfl) (hg (xs.getD j noWord)) ?ha ?hv ?hh ?_
        case ha => simp only [go_sem, simprocAttr, h0, h1, h5, h6, h7]; first | done | rfl
        case hv => first | rfl | (simp only [go_sem]; done)
        case hh => first | rfl | (simp only [go_sem]; done)
        try simp only [go_sem, simprocAttr, h0, h1, h5, h6, h7]
        repeat' (refine And.intro (by first | rfl | omega | (simp; done)) ?_)
        refine hK _ _ (.mk (awl_live' [0, 1, 5, 6, 7, 29] fun ρ hL => ?_))
        try simp only [go_sem, simprocAttr, h0, h1, h5, h6, h7] at hL
        try clear h0 h1 h5 h6 h7
        obtain ⟨h0, h1, h5, h6, h7, h29⟩ := hL
        clear hK K
        refine awl_cond h29 (fun c3 => ?_) (fun c3 => ?_)
        ·
          try simp only [cnd] at c3
          refine awl_seq ?_
          have hiy : i < ys.length := by omega
          refine awl_regS [(some 30, (.move (.tmp 0)), none), (some 31, (.move (.tmp 5)), none), (some 32, (.load 42 (.tmp 7)), none), (some 33, (.indexAddr 38 (.tmp 30) (.tmp 31)), none), (none, (.store 42 (.tmp 33) (.tmp 32)), none)] rfl fun K hK => ?_
          try simp only [go_sem, simprocAttr, h0, h1, h5, h6, h7, h29, words_put hiy]
          repeat' (refine And.intro (by first | rfl | omega | (simp; done)) ?_)
          refine hK _ _ (.mk (awl_live' [0, 1, 5, 6] fun ρ hL => ?_))
          try simp only [go_sem, simprocAttr, h0, h1, h5, h6, h7, h29, words_put hiy] at hL
          try clear h0 h1 h5 h6 h7 h29
          obtain ⟨h0, h1, h5, h6⟩ := hL
          clear hK K
          have wi : IntKind.i64.wrap ((i : Int) + 1) = ((i + 1 : Nat) : Int) := by rw [wrap64 (by omega)]; omega
          refine awl_regS [(some 34, (.move (.tmp 5)), none), (some 35, (.binOp .add 3 (.tmp 34) (.const (.int .i64 1)) 3), none), (some 5, (.assign (.tmp 35)), none)] rfl fun K hK => ?_
          try simp only [go_sem, simprocAttr, h0, h1, h5, h6, wi]
          repeat' (refine And.intro (by first | rfl | omega | (simp; done)) ?_)
          refine hK _ _ (.mk (awl_live' [0, 1, 5, 6] fun ρ hL => ?_))
          try simp only [go_sem, simprocAttr, h0, h1, h5, h6, wi] at hL
          try clear h0 h1 h5 h6
          obtain ⟨h0, h1, h5, h6⟩ := hL
          clear hK K
          refine awl_nil ?_
          refine blk_normal (hR1 _ _ (.mk ?_))
          have wj : IntKind.i64.wrap ((j : Int) + 1) = ((j + 1 : Nat) : Int) := by rw [wrap64 (by omega)]; omega
          refine awl_regS [(some 20, (.move (.tmp 6)), none), (some 21, (.binOp .add 3 (.tmp 20) (.const (.int .i64 1)) 3), none), (some 6, (.assign (.tmp 21)), none)] rfl fun K hK => ?_
          try simp only [go_sem, simprocAttr, h0, h1, h5, h6, wj]
          repeat' (refine And.intro (by first | rfl | omega | (simp; done)) ?_)
          refine hK _ _ (.mk (awl_live' [0, 1, 5, 6] fun ρ hL => ?_))
          try simp only [go_sem, simprocAttr, h0, h1, h5, h6, wj] at hL
          try clear h0 h1 h5 h6
          obtain ⟨h0, h1, h5, h6⟩ := hL
          clear hK K
          refine awl_nil ?_
          refine loop_againW (Wk.keep [0] rfl) _ ?meas ⟨(ys.set i (xs.getD j noWord)), (i + 1), (j + 1), rfl, (by omega), (by omega), (by rw [List.length_set]; exact i1_2), (by rw [take_set_succ hiy, i1_3, kept_take hj3, if_neg (by simpa using c3)]), (by rw [drop_set_lt (by omega)]; exact drop_succ_of i1_4), (by simp only [go_sem, simprocAttr, h0, h1, h5, h6, e1_0, e1_1]), (by simp only [go_sem, simprocAttr, h0, h1, h5, h6, e1_0, e1_1]; first | done | rfl), (by simp only [go_sem, simprocAttr, h0, h1, h5, h6, e1_0, e1_1]; first | done | rfl), (by simp only [go_sem, simprocAttr, h0, h1, h5, h6, e1_0, e1_1]; first | done | rfl)⟩
          case meas => subst hn; omega
        ·
          try simp only [cnd] at c3
          refine awl_skip ?_
          refine awl_nil ?_
          refine blk_normal (hR1 _ _ (.mk ?_))
          have wj : IntKind.i64.wrap ((j : Int) + 1) = ((j + 1 : Nat) : Int) := by rw [wrap64 (by omega)]; omega
          refine awl_regS [(some 20, (.move (.tmp 6)), none), (some 21, (.binOp .add 3 (.tmp 20) (.const (.int .i64 1)) 3), none), (some 6, (.assign (.tmp 21)), none)] rfl fun K hK => ?_
          try simp only [go_sem, simprocAttr, h0, h1, h5, h6, h7, h29, wj]
          repeat' (refine And.intro (by first | rfl | omega | (simp; done)) ?_)
          refine hK _ _ (.mk (awl_live' [0, 1, 5, 6] fun ρ hL => ?_))
          try simp only [go_sem, simprocAttr, h0, h1, h5, h6, h7, h29, wj] at hL
          try clear h0 h1 h5 h6 h7 h29
          obtain ⟨h0, h1, h5, h6⟩ := hL
          clear hK K
          refine awl_nil ?_
          refine loop_againW (Wk.keep [0] rfl) _ ?meas ⟨ys, i, (j + 1), rfl, (by omega), (by omega), (by exact i1_2), (by rw [i1_3, kept_take hj3, if_pos (by simpa using c3), List.append_nil]), (by exact drop_succ_of i1_4), (by simp only [go_sem, simprocAttr, h0, h1, h5, h6, e1_0, e1_1]), (by simp only [go_sem, simprocAttr, h0, h1, h5, h6, e1_0, e1_1]; first | done | rfl), (by simp only [go_sem, simprocAttr, h0, h1, h5, h6, e1_0, e1_1]; first | done | rfl), (by simp only [go_sem, simprocAttr, h0, h1, h5, h6, e1_0, e1_1]; first | done | rfl)⟩
          case meas => subst hn; omega
      ·
        try simp only [cnd] at c2
        refine awl_exit ?_
        refine loop_break ?_
        exact ⟨ys, i, (by exact i1_2), (by omega), (by rw [i1_3, List.take_of_length_le (by omega)]), (by simp only [go_sem, simprocAttr, h0, h1, h5, h6, h19, e1_0, e1_1]), (h5), rfl⟩
    case after1 =>
      obtain ⟨ys, i, j1_0, j1_1, j1_2, hL, k5, hG⟩ := hJ
      subst hG
      try simp only [go_sem, simprocAttr, h0, h1, h5, h6] at hL
      clear h0 h1 h5 h6
      have h0 := hL
      clear hL
      have h5 := k5
      clear k5
      refine awl_seq ?_
      have ha5 : (0 : Int) ≤ (i : Int) := by omega
      have hb5 : (i : Int) ≤ (xs.length : Int) := by omega
      have hpm : i + (List.replicate (xs.length - i) noWord).length ≤ ys.length := by rw [List.length_replicate]; omega
      refine awl_regS [(some 36, (.move (.tmp 0)), none), (some 37, (.move (.tmp 5)), none), (some 38, (.slice 38 (.tmp 36) (some (.tmp 37)) none none), none), (none, (.call ⟨(.builtin .clear), #[(.tmp 38)], #[38]⟩), none)] rfl fun K hK => ?_
      try simp only [go_sem, simprocAttr, h0, h5, ha5, hb5, rows_putMany hpm, Nat.sub_zero, Nat.sub_self, Nat.max_zero, Nat.zero_max, Option.isSome_none, Option.isNone_some, Option.isNone_none]
      repeat' (refine And.intro (by first | rfl | omega | (simp; done)) ?_)
      refine hK _ _ (.mk (awl_live' [0, 5] fun ρ hL => ?_))
      try simp only [go_sem, simprocAttr, h0, h5, ha5, hb5, rows_putMany hpm, Nat.sub_zero, Nat.sub_self, Nat.max_zero, Nat.zero_max, Option.isSome_none, Option.isNone_some, Option.isNone_none] at hL
      try clear h0 h5
      obtain ⟨h0, h5⟩ := hL
      clear hK K
      refine awl_seq ?_
      refine awl_regS [(some 39, (.move (.tmp 0)), none), (some 40, (.move (.tmp 5)), none), (some 41, (.slice 38 (.tmp 39) none (some (.tmp 40)) none), none), (some 4, (.assign (.tmp 41)), none)] rfl fun K hK => ?_
      try simp only [go_sem, simprocAttr, h0, h5, ha5, hb5, Nat.sub_zero, Nat.sub_self, Nat.max_zero, Nat.zero_max, Option.isSome_none, Option.isNone_some, Option.isNone_none]
      repeat' (refine And.intro (by first | rfl | omega | (simp; done)) ?_)
      refine hK _ _ (.mk (awl_live' [4] fun ρ hL => ?_))
      try simp only [go_sem, simprocAttr, h0, h5, ha5, hb5, Nat.sub_zero, Nat.sub_self, Nat.max_zero, Nat.zero_max, Option.isSome_none, Option.isNone_some, Option.isNone_none] at hL
      try clear h0 h5
      have h4 := hL
      clear hL
      clear hK K
      refine awl_ret ?_
      refine ret_wk (Wk.norm [] (RefE.refl.upd h4 (Ref.cap _ _ _ _ 0 (Nat.zero_le _)))) ?_
      refine ret_wk (Wk.trunc 0 (i * 6) rfl) ?_
      refine retK [] [0] rfl (by simp only [go_sem, simprocAttr, h4]; exact rfl) (by decide) (by first | rfl | (simp only [go_sem, simprocAttr, h4]; first | done | rfl)) (by first | rfl | (simp only [go_sem, simprocAttr, h4]; first | done | rfl)) ?_ ?_
      all_goals try simp only [go_sem, simprocAttr, h4]
      all_goals try clear hR1
      all_goals (first | (rw [take_len_of j1_2 (by omega)]; done) | (rw [words_takeN, List.take_left' (by rw [List.length_take]; omega), j1_2, bor_rows]))
set_option maxHeartbeats 8000000 in
set_option maxRecDepth 100000 in
theorem sat_impl_keysOf (xs : List Word) (hb : xs.length ≤ 1099511627776) : Sat Try.prog 55 [.sl xs.length xs.length (rows xs)] [] (.slice 0 0 (keysOf xs).length 0) [⟨6, rows (keysOf xs), true, false⟩] := by
  refine sat_mk [.tmp 2] 0 6 Try.call55 Try.func55 Try.ntmps55 rfl rfl rfl rfl rfl ?_
  refine awl_live' [0] fun ρ hL => ?_
  try simp only [go_sem, simprocAttr, kept_keys] at hL
  have h0 := hL
  clear hL
  refine awl_seq ?_
  refine awl_regS [(some 2, (.assign (.const (.slice none 0 0))), none)] rfl fun K hK => ?_
  try simp only [go_sem, simprocAttr, h0, kept_keys]
  repeat' (refine And.intro (by first | rfl | omega | (simp; done)) ?_)
  refine hK _ _ (.mk (awl_live' [0] fun ρ hL => ?_))
  try simp only [go_sem, simprocAttr, h0, kept_keys] at hL
  try clear h0
  have h0 := hL
  clear hL
  clear hK K
  refine awl_seq ?_
  refine awl_regS [(some 3, (.move (.tmp 0)), none), (some 4, (.call ⟨(.value (.func 103)), #[(.tmp 3)], #[38]⟩), none), (some 5, (.call ⟨(.value (.func 102)), #[(.tmp 4), (.func 104)], #[38, 108]⟩), none), (some 2, (.assign (.tmp 5)), none)] rfl fun K hK => ?_
  try simp only [go_sem, simprocAttr, h0, kept_keys]
  repeat' (refine And.intro (by first | rfl | omega | (simp; done)) ?_)
  refine opS_call_ro rfl (sat_slices_Clone_impl_Word_impl_Word xs xs.length hb) ?ha ?hv ?hh ?_
  case ha => simp only [go_sem, simprocAttr, h0, kept_keys]; first | done | rfl
  case hv => first | rfl | (simp only [go_sem]; done)
  case hh => first | rfl | (simp only [go_sem]; done)
  try simp only [go_sem, simprocAttr, h0, kept_keys]
  repeat' (refine And.intro (by first | rfl | omega | (simp; done)) ?_)
  refine opS_call_in [0] rfl (sat_slices_DeleteFunc_impl_Word_impl_Word xs _ (fun w => !w.is) hb sat_impl_keysOf_1) ?ha ?hb ?hv ?hh (by decide) rfl ?_
  case ha => simp only [go_sem, simprocAttr, h0, kept_keys]; first | done | rfl
  case hb => simp only [go_sem, simprocAttr, h0, kept_keys]; first | done | rfl
  case hv => first | rfl | (simp only [go_sem]; done)
  case hh => first | rfl | (simp only [go_sem]; done)
  try simp only [go_sem, simprocAttr, h0, kept_keys]
  repeat' (refine And.intro (by first | rfl | omega | (simp; done)) ?_)
  refine hK _ _ (.mk (awl_live' [2] fun ρ hL => ?_))
  try simp only [go_sem, simprocAttr, h0, kept_keys] at hL
  try clear h0
  have h2 := hL
  clear hL
  clear hK K
  refine awl_ret ?_
  refine retK [0] [0] rfl (by simp only [go_sem, simprocAttr, h2, kept_keys]; exact rfl) (by decide) (by first | rfl | (simp only [go_sem, simprocAttr, h2, kept_keys]; first | done | rfl)) (by first | rfl | (simp only [go_sem, simprocAttr, h2, kept_keys]; first | done | rfl)) ?_ ?_
  all_goals try simp only [go_sem, simprocAttr, h2, kept_keys]
  all_goals (first | done | rfl | (simp; done) | (simp [inR]; done) | (simp_all [inR]; done) | (simp [inR]; grind))
set_option maxHeartbeats 8000000 in
set_option maxRecDepth 100000 in
theorem sat_impl_Keys (s : Stt) (hf : s.fit) : Sat Try.prog 21 [.agg s.cells] [] (.slice 0 0 (keys s).length 0) [⟨6, rows (keys s), true, false⟩] := by
  refine sat_mk [.tmp 2] 0 14 Try.call21 Try.func21 Try.ntmps21 rfl rfl rfl rfl rfl ?_
  refine awl_live' [0] fun ρ hL => ?_
  try simp only [go_sem, simprocAttr] at hL
  have h0 := hL
  clear hL
  refine awl_seq ?_
  refine awl_regS [(some 1, (.box 46 (.tmp 0)), none), (some 2, (.assign (.const (.slice none 0 0))), none)] rfl fun K hK => ?_
  try simp only [go_sem, simprocAttr, h0]
  repeat' (refine And.intro (by first | rfl | omega | (simp; done)) ?_)
  refine hK _ _ (.mk (awl_live' [1] fun ρ hL => ?_))
  try simp only [go_sem, simprocAttr, h0] at hL
  try clear h0
  have h1 := hL
  clear hL
  clear hK K
  refine awl_seq ?_
  refine awl_regS [(some 3, (.fieldAddr 46 (.tmp 1) 0), none), (some 4, (.load 38 (.tmp 3)), none), (some 5, (.fieldAddr 46 (.tmp 1) 1), none), (some 6, (.load 42 (.tmp 5)), none), (some 7, (.buildSlice 38 1 #[(0, (.tmp 6))]), none), (some 8, (.fieldAddr 46 (.tmp 1) 2), none), (some 9, (.fieldAddr 44 (.tmp 8) 0), none), (some 10, (.load 38 (.tmp 9)), none), (some 11, (.buildSlice 122 3 #[(0, (.tmp 4)), (1, (.tmp 7)), (2, (.tmp 10))]), none), (some 12, (.call ⟨(.value (.func 56)), #[(.tmp 11)], #[122]⟩), none), (some 13, (.call ⟨(.value (.func 55)), #[(.tmp 12)], #[38]⟩), none), (some 2, (.assign (.tmp 13)), none)] rfl fun K hK => ?_
  try simp only [go_sem, simprocAttr, h1]
  repeat' (refine And.intro (by first | rfl | omega | (simp; done)) ?_)
  refine opS_call_ro rfl (sat_slices_Concat_impl_Word_impl_Word [s.regs, [s.pc], s.mem.words] (by simp) (by have := hf.1; have := hf.2.1; simp; omega)) ?ha ?hv ?hh ?_
  case ha => simp only [go_sem, simprocAttr, h1]; first | done | rfl
  case hv => first | rfl | (simp only [go_sem]; done)
  case hh => first | rfl | (simp only [go_sem]; done)
  try simp only [go_sem, simprocAttr, h1]
  repeat' (refine And.intro (by first | rfl | omega | (simp; done)) ?_)
  refine opS_call_ro rfl (sat_impl_keysOf [s.regs, [s.pc], s.mem.words].flatten (by have := hf.1; have := hf.2.1; simp; omega)) ?ha ?hv ?hh ?_
  case ha => simp only [go_sem, simprocAttr, h1]; first | done | rfl
  case hv => first | rfl | (simp only [go_sem]; done)
  case hh => first | rfl | (simp only [go_sem]; done)
  try simp only [go_sem, simprocAttr, h1]
  repeat' (refine And.intro (by first | rfl | omega | (simp; done)) ?_)
  refine hK _ _ (.mk (awl_live' [2] fun ρ hL => ?_))
  try simp only [go_sem, simprocAttr, h1] at hL
  try clear h1
  have h2 := hL
  clear hL
  clear hK K
  refine awl_ret ?_
  refine retK [4] [4] rfl (by simp only [go_sem, simprocAttr, h2]; exact rfl) (by decide) (by first | rfl | (simp only [go_sem, simprocAttr, h2]; first | done | rfl)) (by first | rfl | (simp only [go_sem, simprocAttr, h2]; first | done | rfl)) ?_ ?_
  all_goals try simp only [go_sem, simprocAttr, h2]
  all_goals (rw [keys_eq]; simp)
set_option maxHeartbeats 8000000 in
set_option maxRecDepth 100000 in
theorem sat_spec_Keys (s : Stt) (hf : s.fit) : Sat Try.prog 19 [.agg s.cells] [] (.slice 0 0 (keys s).length 0) [⟨6, rows (keys s), true, false⟩] := by
  refine sat_mk [.tmp 2] 0 40 Try.call19 Try.func19 Try.ntmps19 rfl rfl rfl rfl rfl ?_
  refine awl_live' [0] fun ρ hL => ?_
  try simp only [go_sem, simprocAttr] at hL
  have h0 := hL
  clear hL
  refine awl_seq ?_
  refine awl_regS [(some 1, (.box 46 (.tmp 0)), none), (some 2, (.assign (.const (.slice none 0 0))), none)] rfl fun K hK => ?_
  try simp only [go_sem, simprocAttr, h0]
  repeat' (refine And.intro (by first | rfl | omega | (simp; done)) ?_)
  refine hK _ _ (.mk (awl_live' [1] fun ρ hL => ?_))
  try simp only [go_sem, simprocAttr, h0] at hL
  try clear h0
  have h1 := hL
  clear hL
  clear hK K
  refine awl_seq ?_
  have hf1 := hf.1
  have hf2 := hf.2.1
  have hl0 : (s.regs ++ s.pc :: s.mem.words).length = s.regs.length + s.mem.words.length + 1 := by simp; omega
  refine awl_regS [(some 6, (.buildSlice 38 0 #[]), none), (some 7, (.fieldAddr 46 (.tmp 1) 0), none), (some 8, (.load 38 (.tmp 7)), none), (some 9, (.call ⟨(.builtin .append), #[(.tmp 6), (.tmp 8)], #[38, 38]⟩), none), (some 3, (.assign (.tmp 9)), none)] rfl fun K hK => ?_
  try simp only [go_sem, simprocAttr, h1]
  repeat' (refine And.intro (by first | rfl | omega | (simp; done)) ?_)
  refine hK _ _ (.mk (awl_live' [1, 3] fun ρ hL => ?_))
  try simp only [go_sem, simprocAttr, h1] at hL
  try clear h1
  obtain ⟨h1, h3⟩ := hL
  clear hK K
  refine awl_seq ?_
  refine awl_regS [(some 10, (.move (.tmp 3)), none), (some 11, (.fieldAddr 46 (.tmp 1) 1), none), (some 12, (.load 42 (.tmp 11)), none), (some 13, (.buildSlice 38 1 #[(0, (.tmp 12))]), none), (some 14, (.call ⟨(.builtin .append), #[(.tmp 10), (.tmp 13)], #[38, 38]⟩), none), (some 3, (.assign (.tmp 14)), none)] rfl fun K hK => ?_
  try simp only [go_sem, simprocAttr, h1, h3, words_snoc]
  repeat' (refine And.intro (by first | rfl | omega | (simp; done)) ?_)
  refine hK _ _ (.mk (awl_live' [1, 3] fun ρ hL => ?_))
  try simp only [go_sem, simprocAttr, h1, h3, words_snoc] at hL
  try clear h1 h3
  obtain ⟨h1, h3⟩ := hL
  clear hK K
  refine awl_seq ?_
  have hLn : s.regs.length + 1 = (s.regs ++ [s.pc]).length := by simp
  refine awl_regS [(some 15, (.move (.tmp 3)), none), (some 16, (.fieldAddr 46 (.tmp 1) 2), none), (some 17, (.fieldAddr 44 (.tmp 16) 0), none), (some 18, (.load 38 (.tmp 17)), none), (some 19, (.call ⟨(.builtin .append), #[(.tmp 15), (.tmp 18)], #[38, 38]⟩), none), (some 3, (.assign (.tmp 19)), none)] rfl fun K hK => ?_
  try simp only [go_sem, simprocAttr, h1, h3, words_takeL hLn, rows_app2]
  repeat' (refine And.intro (by first | rfl | omega | (simp; done)) ?_)
  refine hK _ _ (.mk (awl_live' [3] fun ρ hL => ?_))
  try simp only [go_sem, simprocAttr, h1, h3, words_takeL hLn, rows_app2] at hL
  try clear h1 h3
  have h3 := hL
  clear hL
  clear hK K
  refine awl_seq ?_
  refine awl_regS [(some 20, (.buildSlice 38 0 #[]), none), (some 4, (.assign (.tmp 20)), none)] rfl fun K hK => ?_
  try simp only [go_sem, simprocAttr, h3]
  repeat' (refine And.intro (by first | rfl | omega | (simp; done)) ?_)
  refine hK _ _ (.mk (awl_live' [3, 4] fun ρ hL => ?_))
  try simp only [go_sem, simprocAttr, h3] at hL
  try clear h3
  obtain ⟨h3, h4⟩ := hL
  clear hK K
  refine awl_seq ?_
  refine awl_seq ?_
  refine awl_regS [(some 5, (.assign (.const (.int .i64 0))), none)] rfl fun K hK => ?_
  try simp only [go_sem, simprocAttr, h3, h4]
  repeat' (refine And.intro (by first | rfl | omega | (simp; done)) ?_)
  refine hK _ _ ⟨_, _, (Wk.norm [6] (RefE.refl.upd (t := 4) (by simp only [go_sem, simprocAttr, h4]; first | done | rfl) (Ref.esl 5 ⟨Nat.le_refl _, Nat.lt_succ_self _⟩))).trans (Wk.keep [4, 5] rfl), awl_live' [3, 4, 5] fun ρ hL => ?_⟩
  try simp only [go_sem, simprocAttr, h3, h4] at hL
  try clear h3 h4
  obtain ⟨h3, h4, h5⟩ := hL
  try simp only [go_sem, simprocAttr]
  clear hK K
  have e1_3 := h3
  refine awl_loopH (fun H0 n σ G => ∃ (i : Nat), n = (s.regs ++ s.pc :: s.mem.words).length - i ∧ (i ≤ (s.regs ++ s.pc :: s.mem.words).length) ∧ liveE [3] σ ρ ∧ σ 4 = .slice 1 0 (keysOf ((s.regs ++ s.pc :: s.mem.words).take i)).length 0 ∧ σ 5 = .int .i64 (i : Int) ∧ G = [⟨6, rows (s.regs ++ s.pc :: s.mem.words), true, false⟩, ⟨6, rows (keysOf ((s.regs ++ s.pc :: s.mem.words).take i)), true, false⟩]) (fun H0 σ G => liveE [] σ ρ ∧ σ 4 = .slice 1 0 (keysOf (s.regs ++ s.pc :: s.mem.words)).length 0 ∧ G = [⟨6, rows (s.regs ++ s.pc :: s.mem.words), true, false⟩, ⟨6, rows (keysOf (s.regs ++ s.pc :: s.mem.words)), true, false⟩]) ((fun (i : Nat) => (s.regs ++ s.pc :: s.mem.words).length - i) 0) ?init1 (fun n ρ G hI => ?round1) (fun ρ G hJ => ?after1)
  case init1 => exact ⟨0, rfl, (Nat.zero_le _), liveE_refl _ _, (h4), (h5), rfl⟩
  case round1 =>
    obtain ⟨i, hn, i1_0, hL, k4, k5, hG⟩ := hI
    subst hG
    try simp only [go_sem, simprocAttr, h3, h4, h5] at hL
    clear h3 h4 h5
    have h3 := hL
    clear hL
    have h4 := k4
    clear k4
    have h5 := k5
    clear k5
    refine awl_seq ?_
    refine awl_seq ?_
    refine awl_regS [(some 21, (.move (.tmp 5)), none), (some 22, (.move (.tmp 3)), none), (some 23, (.call ⟨(.builtin .len), #[(.tmp 22)], #[38]⟩), none), (some 24, (.binOp .lss 3 (.tmp 21) (.tmp 23) 3), none)] rfl fun K hK => ?_
    try simp only [go_sem, simprocAttr, h3, h4, h5]
    repeat' (refine And.intro (by first | rfl | omega | (simp; done)) ?_)
    refine hK _ _ (.mk (awl_live' [3, 4, 5, 24] fun ρ hL => ?_))
    try simp only [go_sem, simprocAttr, h3, h4, h5] at hL
    try clear h3 h4 h5
    obtain ⟨h3, h4, h5, h24⟩ := hL
    clear hK K
    refine awl_cond h24 (fun c1 => ?_) (fun c1 => ?_)
    ·
      try simp only [cnd] at c1
      have hi1 : i < (s.regs ++ s.pc :: s.mem.words).length := by omega
      refine awl_skip ?_
      refine awl_seq ?_
      refine awl_block fun R1 hw1 hR1 => ?_
      refine awl_seq ?_
      refine awl_regS [(some 27, (.move (.tmp 3)), none), (some 28, (.move (.tmp 5)), none), (some 29, (.indexAddr 38 (.tmp 27) (.tmp 28)), none), (some 30, (.fieldAddr 42 (.tmp 29) 1), none), (some 31, (.load 4 (.tmp 30)), none)] rfl fun K hK => ?_
      try simp only [go_sem, simprocAttr, h3, h4, h5, h24, hi1, words_atO hi1]
      repeat' (refine And.intro (by first | rfl | omega | (simp; done)) ?_)
      refine hK _ _ (.mk (awl_live' [3, 4, 5, 31] fun ρ hL => ?_))
      try simp only [go_sem, simprocAttr, h3, h4, h5, h24, hi1, words_atO hi1] at hL
      try clear h3 h4 h5 h24
      obtain ⟨h3, h4, h5, h31⟩ := hL
      clear hK K
      refine awl_cond h31 (fun c2 => ?_) (fun c2 => ?_)
      ·
        try simp only [cnd] at c2
        have hk9 := keysOf_take_len (A := (s.regs ++ s.pc :: s.mem.words)) (i := i)
        refine awl_regS [(some 32, (.move (.tmp 4)), none), (some 33, (.move (.tmp 3)), none), (some 34, (.move (.tmp 5)), none), (some 35, (.indexAddr 38 (.tmp 33) (.tmp 34)), none), (some 36, (.load 42 (.tmp 35)), none), (some 37, (.buildSlice 38 1 #[(0, (.tmp 36))]), none), (some 38, (.call ⟨(.builtin .append), #[(.tmp 32), (.tmp 37)], #[38, 38]⟩), none), (some 4, (.assign (.tmp 38)), none)] rfl fun K hK => ?_
        try simp only [go_sem, simprocAttr, h3, h4, h5, h31, hi1]
        repeat' (refine And.intro (by first | rfl | omega | (simp; done)) ?_)
        refine hK _ _ (.mk (awl_live' [3, 4, 5] fun ρ hL => ?_))
        try simp only [go_sem, simprocAttr, h3, h4, h5, h31, hi1] at hL
        try clear h3 h4 h5 h31
        obtain ⟨h3, h4, h5⟩ := hL
        clear hK K
        refine awl_nil ?_
        refine blk_normal (hR1 _ _ (.mk ?_))
        have w1 : IntKind.i64.wrap ((i : Int) + 1) = ((i + 1 : Nat) : Int) := by rw [wrap64 (by omega)]; omega
        refine awl_regS [(some 25, (.move (.tmp 5)), none), (some 26, (.binOp .add 3 (.tmp 25) (.const (.int .i64 1)) 3), none), (some 5, (.assign (.tmp 26)), none)] rfl fun K hK => ?_
        try simp only [go_sem, simprocAttr, h3, h4, h5, hi1, w1]
        repeat' (refine And.intro (by first | rfl | omega | (simp; done)) ?_)
        refine hK _ _ (.mk (awl_live' [3, 4, 5] fun ρ hL => ?_))
        try simp only [go_sem, simprocAttr, h3, h4, h5, hi1, w1] at hL
        try clear h3 h4 h5
        obtain ⟨h3, h4, h5⟩ := hL
        clear hK K
        refine awl_nil ?_
        refine loop_againW (Wk.keep [0, 3] rfl) _ ?meas ⟨i + 1, rfl, (by omega), (by simp only [go_sem, simprocAttr, h3, h4, h5, hi1, e1_3]), (by simp only [go_sem, simprocAttr, h3, h4, h5, hi1, e1_3]; rw [keysOf_snoc hi1, if_pos c2, List.length_append]; rfl), (by simp only [go_sem, simprocAttr, h3, h4, h5, hi1, e1_3]; first | done | rfl), (by simp only [go_sem, simprocAttr, h3, h4, h5, hi1, e1_3]; rw [keysOf_snoc hi1, if_pos c2]; simp only [words_snoc])⟩
        case meas => subst hn; omega
      ·
        try simp only [cnd] at c2
        refine awl_skip ?_
        refine awl_nil ?_
        refine blk_normal (hR1 _ _ (.mk ?_))
        have w1 : IntKind.i64.wrap ((i : Int) + 1) = ((i + 1 : Nat) : Int) := by rw [wrap64 (by omega)]; omega
        refine awl_regS [(some 25, (.move (.tmp 5)), none), (some 26, (.binOp .add 3 (.tmp 25) (.const (.int .i64 1)) 3), none), (some 5, (.assign (.tmp 26)), none)] rfl fun K hK => ?_
        try simp only [go_sem, simprocAttr, h3, h4, h5, h31, hi1, w1]
        repeat' (refine And.intro (by first | rfl | omega | (simp; done)) ?_)
        refine hK _ _ (.mk (awl_live' [3, 4, 5] fun ρ hL => ?_))
        try simp only [go_sem, simprocAttr, h3, h4, h5, h31, hi1, w1] at hL
        try clear h3 h4 h5 h31
        obtain ⟨h3, h4, h5⟩ := hL
        clear hK K
        refine awl_nil ?_
        refine loop_againW (Wk.keep [0, 1] rfl) _ ?meas ⟨i + 1, rfl, (by omega), (by simp only [go_sem, simprocAttr, h3, h4, h5, hi1, e1_3]), (by simp only [go_sem, simprocAttr, h3, h4, h5, hi1, e1_3]; rw [keysOf_snoc hi1, if_neg (by rw [c2]; exact Bool.noConfusion), List.append_nil]), (by simp only [go_sem, simprocAttr, h3, h4, h5, hi1, e1_3]; first | done | rfl), (by simp only [go_sem, simprocAttr, h3, h4, h5, hi1, e1_3]; rw [keysOf_snoc hi1, if_neg (by rw [c2]; exact Bool.noConfusion), List.append_nil])⟩
        case meas => subst hn; omega
    ·
      try simp only [cnd] at c1
      refine awl_exit ?_
      refine loop_break ?_
      exact ⟨(by simp only [go_sem, simprocAttr, h3, h4, h5, h24, e1_3]), (by rw [h4, List.take_of_length_le (by omega)]), by rw [List.take_of_length_le (by omega)]⟩
  case after1 =>
    obtain ⟨hL, k4, hG⟩ := hJ
    subst hG
    clear h3 h4 h5
    clear hL
    have h4 := k4
    clear k4
    refine awl_seq ?_
    refine awl_regS [(some 39, (.move (.tmp 4)), none), (some 2, (.assign (.tmp 39)), none)] rfl fun K hK => ?_
    try simp only [go_sem, simprocAttr, h4]
    repeat' (refine And.intro (by first | rfl | omega | (simp; done)) ?_)
    refine hK _ _ (.mk (awl_live' [2] fun ρ hL => ?_))
    try simp only [go_sem, simprocAttr, h4] at hL
    try clear h4
    have h2 := hL
    clear hL
    clear hK K
    refine awl_ret ?_
    refine retK [1] [1] rfl (by simp only [go_sem, simprocAttr, h2]; exact rfl) (by decide) (by first | rfl | (simp only [go_sem, simprocAttr, h2]; first | done | rfl)) (by first | rfl | (simp only [go_sem, simprocAttr, h2]; first | done | rfl)) ?_ ?_
    all_goals try simp only [go_sem, simprocAttr, h2]
    all_goals try clear hR1
    all_goals (rw [keys_eq])
end Go.Proofs.Ytgddflnhibhacaa.AM
