/- What the laws make, compare and count of rows and states. No conditions but those each theorem bears. -/
import Derived.Test.YtopjagninmjkbaaGreatFa
import Derived.Test.YtopjagninmjkbaaGreatCa6
set_option linter.unusedSimpArgs false
set_option linter.unusedVariables false
namespace Go.Proofs.YtopjagninmjkbaaGreat.AM
open Go

set_option maxHeartbeats 8000000 in
set_option maxRecDepth 100000 in
theorem sat_laws_toWordS (xs : List Word) (hb : xs.length ≤ 1099511627776) : Sat Tryz.prog 63 [.sl xs.length xs.length (rows xs)] [] (.slice 0 0 xs.length 0) [⟨6, rows xs, true, false⟩] := by
 refine sat_mk [.tmp 2] 0 23 Tryz.call63 Tryz.func63 Tryz.ntmps63 rfl rfl rfl rfl rfl ?_
 refine awl_live' [0] fun ρ hL => ?_
 try simp only [go_sem, simprocAttr, List.length_append, List.length_take, List.length_replicate] at hL
 have h0 := hL
 clear hL
 refine awl_seq ?_
 refine awl_regS _ rfl fun K hK => ?_
 try simp only [go_sem, simprocAttr, h0, List.length_append, List.length_take, List.length_replicate]
 repeat' (refine And.intro (by first | rfl | omega | (simp; done)) ?_)
 refine hK _ _ (.mk (awl_live' [0] fun ρ hL => ?_))
 try simp only [go_sem, simprocAttr, h0, List.length_append, List.length_take, List.length_replicate] at hL
 try clear h0
 have h0 := hL
 clear hL
 clear hK K
 refine awl_seq ?_
 refine awl_regS _ rfl fun K hK => ?_
 try simp only [go_sem, simprocAttr, h0, List.length_append, List.length_take, List.length_replicate]
 repeat' (refine And.intro (by first | rfl | omega | (simp; done)) ?_)
 refine hK _ _ (.mk (awl_live' [0, 3] fun ρ hL => ?_))
 try simp only [go_sem, simprocAttr, h0, List.length_append, List.length_take, List.length_replicate] at hL
 try clear h0
 obtain ⟨h0, h3⟩ := hL
 clear hK K
 refine awl_seq ?_
 refine awl_seq ?_
 refine awl_regS _ rfl fun K hK => ?_
 try simp only [go_sem, simprocAttr, h0, h3, List.length_append, List.length_take, List.length_replicate]
 repeat' (refine And.intro (by first | rfl | omega | (simp; done)) ?_)
 refine hK _ _ (.mk (awl_live' [0, 3, 4] fun ρ hL => ?_))
 try simp only [go_sem, simprocAttr, h0, h3, List.length_append, List.length_take, List.length_replicate] at hL
 try clear h0 h3
 obtain ⟨h0, h3, h4⟩ := hL
 clear hK K
 have e1_0 := h0
 have e1_3 := h3
 refine awl_loopH (fun H0 n σ G => ∃ (i : Nat), n = xs.length - i ∧ (i ≤ xs.length) ∧ liveE [0, 3] σ ρ ∧ σ 4 = .int .i64 (i : Int) ∧ G = [⟨6, rows (xs.take i ++ List.replicate (xs.length - i) noWord), true, false⟩]) (fun H0 σ G => liveE [3] σ ρ ∧ G = [⟨6, rows xs, true, false⟩]) ((fun (i : Nat) => xs.length - i) 0) ?init1 (fun n ρ G hI => ?round1) (fun ρ G hJ => ?after1)
 case init1 => exact ⟨0, rfl, (Nat.zero_le _), liveE_refl _ _, (h4), rfl⟩
 case round1 =>
  obtain ⟨i, hn, i1_0, hL, k4, hG⟩ := hI
  subst hG
  try simp only [go_sem, simprocAttr, h0, h3, h4, List.length_append, List.length_take, List.length_replicate] at hL
  clear h0 h3 h4
  obtain ⟨h0, h3⟩ := hL
  have h4 := k4
  clear k4
  refine awl_seq ?_
  refine awl_seq ?_
  refine awl_regS _ rfl fun K hK => ?_
  try simp only [go_sem, simprocAttr, h0, h3, h4, List.length_append, List.length_take, List.length_replicate]
  repeat' (refine And.intro (by first | rfl | omega | (simp; done)) ?_)
  refine hK _ _ (.mk (awl_live' [0, 3, 4, 11] fun ρ hL => ?_))
  try simp only [go_sem, simprocAttr, h0, h3, h4, List.length_append, List.length_take, List.length_replicate] at hL
  try clear h0 h3 h4
  obtain ⟨h0, h3, h4, h11⟩ := hL
  clear hK K
  refine awl_cond h11 (fun c1 => ?_) (fun c1 => ?_)
  ·
   try simp only [cnd] at c1
   have hi1 : i < xs.length := by omega
   refine awl_skip ?_
   refine awl_seq ?_
   refine awl_block fun R1 hw1 hR1 => ?_
   refine awl_regS _ rfl fun K hK => ?_
   try simp only [go_sem, simprocAttr, h0, h3, h4, h11, hi1, List.length_append, List.length_take, List.length_replicate]
   repeat' (refine And.intro (by first | rfl | omega | (simp; done)) ?_)
   refine opS_call_ro rfl (sat_laws_toWord ?_) ?ha ?hv ?hh ?_
   case ha => simp only [go_sem, simprocAttr, h0, h3, h4, h11, hi1, List.length_append, List.length_take, List.length_replicate]; first | done | rfl
   case hv => first | rfl | (simp only [go_sem]; done)
   case hh => first | rfl | (simp only [go_sem]; done)
   try simp only [go_sem, simprocAttr, h0, h3, h4, h11, hi1, List.length_append, List.length_take, List.length_replicate]
   repeat' (refine And.intro (by first | rfl | omega | (simp; done)) ?_)
   refine hK _ _ (.mk (awl_live' [0, 3, 4] fun ρ hL => ?_))
   try simp only [go_sem, simprocAttr, h0, h3, h4, h11, hi1, List.length_append, List.length_take, List.length_replicate] at hL
   try clear h0 h3 h4 h11
   obtain ⟨h0, h3, h4⟩ := hL
   clear hK K
   refine awl_nil ?_
   refine blk_normal (hR1 _ _ (.mk ?_))
   have w1 : IntKind.i64.wrap ((i : Int) + 1) = ((i + 1 : Nat) : Int) := by rw [wrap64 (by omega)]; omega
   refine awl_regS _ rfl fun K hK => ?_
   try simp only [go_sem, simprocAttr, h0, h3, h4, hi1, w1, List.length_append, List.length_take, List.length_replicate]
   repeat' (refine And.intro (by first | rfl | omega | (simp; done)) ?_)
   refine hK _ _ (.mk (awl_live' [0, 3, 4] fun ρ hL => ?_))
   try simp only [go_sem, simprocAttr, h0, h3, h4, hi1, w1, List.length_append, List.length_take, List.length_replicate] at hL
   try clear h0 h3 h4
   obtain ⟨h0, h3, h4⟩ := hL
   clear hK K
   refine awl_nil ?_
   refine loop_again _ ?meas ⟨i + 1, rfl, (by omega), (by simp only [go_sem, simprocAttr, h0, h3, h4, hi1, List.length_append, List.length_take, List.length_replicate, e1_0, e1_3]), (h4), by rw [words_put (by simp; omega), set_take (d := noWord) hi1 rfl]⟩
   case meas => subst hn; omega
  ·
   try simp only [cnd] at c1
   refine awl_exit ?_
   refine loop_break ?_
   exact ⟨(by simp only [go_sem, simprocAttr, h0, h3, h4, h11, List.length_append, List.length_take, List.length_replicate, e1_0, e1_3]), by rw [show i = xs.length by omega]; simp⟩
 case after1 =>
  obtain ⟨hL, hG⟩ := hJ
  subst hG
  try simp only [go_sem, simprocAttr, h0, h3, h4, List.length_append, List.length_take, List.length_replicate] at hL
  clear h0 h3 h4
  have h3 := hL
  clear hL
  refine awl_seq ?_
  refine awl_regS _ rfl fun K hK => ?_
  try simp only [go_sem, simprocAttr, h3, List.length_append, List.length_take, List.length_replicate]
  repeat' (refine And.intro (by first | rfl | omega | (simp; done)) ?_)
  refine hK _ _ (.mk (awl_live' [2] fun ρ hL => ?_))
  try simp only [go_sem, simprocAttr, h3, List.length_append, List.length_take, List.length_replicate] at hL
  try clear h3
  have h2 := hL
  clear hL
  clear hK K
  refine awl_ret ?_
  refine ret_wk (Wk.norm [] (RefE.refl.upd h2 (Ref.cap _ _ _ _ 0 (Nat.zero_le _)))) ?_
  refine retK [0] [0] rfl (by simp only [go_sem, simprocAttr, h2, List.length_append, List.length_take, List.length_replicate]; exact rfl) (by decide) (by first | rfl | (simp only [go_sem, simprocAttr, h2, List.length_append, List.length_take, List.length_replicate]; first | done | rfl)) (by first | rfl | (simp only [go_sem, simprocAttr, h2, List.length_append, List.length_take, List.length_replicate]; first | done | rfl)) ?_ ?_
  all_goals try simp only [go_sem, simprocAttr, h2, List.length_append, List.length_take, List.length_replicate]
  all_goals try clear hR1
  all_goals (first | done | rfl | (simp; done) | (simp [inR]; done) | (simp_all [inR]; done) | (simp [inR]; grind))
set_option maxHeartbeats 8000000 in
set_option maxRecDepth 100000 in
theorem sat_laws_eqWordS (xs : List Word) (ys : List Word) (hb : xs.length ≤ 1099511627776) : Sat Tryz.prog 80 [.sl xs.length xs.length (rows xs), .sl ys.length ys.length (rows ys)] [] (.bool (decide (xs = ys))) [] := by
 refine sat_mk [.tmp 4] 0 27 Tryz.call80 Tryz.func80 Tryz.ntmps80 rfl rfl rfl rfl rfl ?_
 refine awl_live' [0, 1] fun ρ hL => ?_
 try simp only [go_sem, simprocAttr] at hL
 obtain ⟨h0, h1⟩ := hL
 refine awl_seq ?_
 refine awl_regS _ rfl fun K hK => ?_
 try simp only [go_sem, simprocAttr, h0, h1]
 repeat' (refine And.intro (by first | rfl | omega | (simp; done)) ?_)
 refine hK _ _ (.mk (awl_live' [0, 1] fun ρ hL => ?_))
 try simp only [go_sem, simprocAttr, h0, h1] at hL
 try clear h0 h1
 obtain ⟨h0, h1⟩ := hL
 clear hK K
 refine awl_seq ?_
 refine awl_seq ?_
 refine awl_regS _ rfl fun K hK => ?_
 try simp only [go_sem, simprocAttr, h0, h1]
 repeat' (refine And.intro (by first | rfl | omega | (simp; done)) ?_)
 refine hK _ _ (.mk (awl_live' [0, 1, 10] fun ρ hL => ?_))
 try simp only [go_sem, simprocAttr, h0, h1] at hL
 try clear h0 h1
 obtain ⟨h0, h1, h10⟩ := hL
 clear hK K
 refine awl_cond h10 (fun c1 => ?_) (fun c1 => ?_)
 ·
  try simp only [cnd] at c1
  refine awl_seq ?_
  refine awl_regS _ rfl fun K hK => ?_
  try simp only [go_sem, simprocAttr, h0, h1, h10]
  repeat' (refine And.intro (by first | rfl | omega | (simp; done)) ?_)
  refine hK _ _ (.mk (awl_live' [4] fun ρ hL => ?_))
  try simp only [go_sem, simprocAttr, h0, h1, h10] at hL
  try clear h0 h1 h10
  have h4 := hL
  clear hL
  clear hK K
  refine awl_ret ?_
  refine ret0 (by simp only [go_sem, simprocAttr, h4]; exact rfl) ?_
  try simp only [go_sem, simprocAttr]
  all_goals (rw [decide_eq_false]; rintro rfl; exact c1 rfl)
 ·
  try simp only [cnd] at c1
  refine awl_skip ?_
  refine awl_seq ?_
  refine awl_seq ?_
  refine awl_regS _ rfl fun K hK => ?_
  try simp only [go_sem, simprocAttr, h0, h1, h10]
  repeat' (refine And.intro (by first | rfl | omega | (simp; done)) ?_)
  refine hK _ _ (.mk (awl_live' [0, 1, 5] fun ρ hL => ?_))
  try simp only [go_sem, simprocAttr, h0, h1, h10] at hL
  try clear h0 h1 h10
  obtain ⟨h0, h1, h5⟩ := hL
  clear hK K
  have e1_0 := h0
  have e1_1 := h1
  refine awl_loopH (fun H0 n σ G => ∃ (i : Nat), n = xs.length - i ∧ (i ≤ xs.length) ∧ (xs.take i = ys.take i) ∧ liveE [0, 1] σ ρ ∧ σ 5 = .int .i64 (i : Int) ∧ G = H0) (fun H0 σ G => (xs = ys) ∧ liveE [] σ ρ ∧ G = H0) ((fun (i : Nat) => xs.length - i) 0) ?init1 (fun n ρ G hI => ?round1) (fun ρ G hJ => ?after1)
  case init1 => exact ⟨0, rfl, (Nat.zero_le _), (by simp), liveE_refl _ _, (h5), rfl⟩
  case round1 =>
   obtain ⟨i, hn, i1_0, i1_1, hL, k5, hG⟩ := hI
   subst hG
   try simp only [go_sem, simprocAttr, h0, h1, h5] at hL
   clear h0 h1 h5
   obtain ⟨h0, h1⟩ := hL
   have h5 := k5
   clear k5
   refine awl_seq ?_
   refine awl_seq ?_
   refine awl_regS _ rfl fun K hK => ?_
   try simp only [go_sem, simprocAttr, h0, h1, h5]
   repeat' (refine And.intro (by first | rfl | omega | (simp; done)) ?_)
   refine hK _ _ (.mk (awl_live' [0, 1, 5, 14] fun ρ hL => ?_))
   try simp only [go_sem, simprocAttr, h0, h1, h5] at hL
   try clear h0 h1 h5
   obtain ⟨h0, h1, h5, h14⟩ := hL
   clear hK K
   refine awl_cond h14 (fun c2 => ?_) (fun c2 => ?_)
   ·
    try simp only [cnd] at c2
    have hi1 : i < xs.length := by omega
    refine awl_skip ?_
    refine awl_seq ?_
    refine awl_block fun R1 hw1 hR1 => ?_
    refine awl_seq ?_
    have hj : i < ys.length := by omega
    refine awl_regD mixed _ rfl fun K hK => ?_
    try simp only [go_sem, simprocAttr, h0, h1, h5, h14, hi1, hj]
    repeat' (refine And.intro (by first | omega | (exact ⟨[0, 0, 3, 7, 0, 0, 48, 112, 255, 511], by kernel_rfl⟩) | kernel_rfl) ?_)
    refine dS_call_ro rfl (sat_laws_eqWord ?_ ?_) ?ha ?hv ?hh ?_
    case ha => simp only [go_sem, simprocAttr, h0, h1, h5, h14, hi1, hj]; first | done | rfl
    case hv => first | rfl | (simp only [go_sem]; done)
    case hh => first | rfl | (simp only [go_sem]; done)
    try simp only [go_sem, simprocAttr, h0, h1, h5, h14, hi1, hj]
    repeat' (refine And.intro (by first | omega | (exact ⟨[0, 0, 3, 7, 0, 0, 48, 112, 255, 511], by kernel_rfl⟩) | kernel_rfl) ?_)
    refine hK _ _ (.mk (awl_live' [0, 1, 5, 26] fun ρ hL => ?_))
    try simp only [go_sem, simprocAttr, h0, h1, h5, h14, hi1, hj] at hL
    try clear h0 h1 h5 h14
    obtain ⟨h0, h1, h5, h26⟩ := hL
    clear hK K
    refine awl_cond h26 (fun c3 => ?_) (fun c3 => ?_)
    ·
     try simp only [cnd] at c3
     refine awl_seq ?_
     refine awl_regS _ rfl fun K hK => ?_
     try simp only [go_sem, simprocAttr, h0, h1, h5, h26, hi1]
     repeat' (refine And.intro (by first | rfl | omega | (simp; done)) ?_)
     refine hK _ _ (.mk (awl_live' [4] fun ρ hL => ?_))
     try simp only [go_sem, simprocAttr, h0, h1, h5, h26, hi1] at hL
     try clear h0 h1 h5 h26
     have h4 := hL
     clear hL
     clear hK K
     refine awl_ret ?_
     refine blk_ret ?_
     refine loop_ret ?_
     refine ret0 (by simp only [go_sem, simprocAttr, h4, hi1]; exact rfl) ?_
     try simp only [go_sem, simprocAttr]
     all_goals try clear hR1
     all_goals (rw [decide_eq_false]; rintro rfl; first | exact c3 rfl | (simp at c3; done))
    ·
     try simp only [cnd] at c3
     refine awl_skip ?_
     refine awl_nil ?_
     refine blk_normal (hR1 _ _ (.mk ?_))
     have w1 : IntKind.i64.wrap ((i : Int) + 1) = ((i + 1 : Nat) : Int) := by rw [wrap64 (by omega)]; omega
     refine awl_regS _ rfl fun K hK => ?_
     try simp only [go_sem, simprocAttr, h0, h1, h5, h26, hi1, w1]
     repeat' (refine And.intro (by first | rfl | omega | (simp; done)) ?_)
     refine hK _ _ (.mk (awl_live' [0, 1, 5] fun ρ hL => ?_))
     try simp only [go_sem, simprocAttr, h0, h1, h5, h26, hi1, w1] at hL
     try clear h0 h1 h5 h26
     obtain ⟨h0, h1, h5⟩ := hL
     clear hK K
     refine awl_nil ?_
     refine loop_again _ ?meas ⟨i + 1, rfl, (by omega), (by exact take_succ_eq (d := noWord) hi1 hj i1_1 (by simpa using c3)), (by simp only [go_sem, simprocAttr, h0, h1, h5, hi1, e1_0, e1_1]), (h5), rfl⟩
     case meas => subst hn; omega
   ·
    try simp only [cnd] at c2
    refine awl_exit ?_
    refine loop_break ?_
    exact ⟨(by exact eq_of_take (i := i) (by omega) (by omega) i1_1), (by simp only [go_sem, simprocAttr, h0, h1, h5, h14, e1_0, e1_1]), rfl⟩
  case after1 =>
   obtain ⟨j1_0, hL, hG⟩ := hJ
   subst hG
   clear h0 h1 h5
   clear hL
   refine awl_seq ?_
   refine awl_regS _ rfl fun K hK => ?_
   try simp only [go_sem, simprocAttr]
   repeat' (refine And.intro (by first | rfl | omega | (simp; done)) ?_)
   refine hK _ _ (.mk (awl_live' [4] fun ρ hL => ?_))
   try simp only [go_sem, simprocAttr] at hL
   have h4 := hL
   clear hL
   clear hK K
   refine awl_ret ?_
   refine ret0 (by simp only [go_sem, simprocAttr, h4]; exact rfl) ?_
   try simp only [go_sem, simprocAttr]
   all_goals try clear hR1
   all_goals (rw [decide_eq_true j1_0])
set_option maxHeartbeats 8000000 in
set_option maxRecDepth 100000 in
theorem sat_laws_szWordS (xs : List Word) (l : Int) (hb : xs.length ≤ 9223372036854775807) (hl : leftOk l) : Sat Tryz.prog 52 [.sl xs.length xs.length (rows xs), .int .i64 l] [] (.int .i64 (szL l xs.length)) [] := by
 refine sat_mk [.tmp 4] 0 12 Tryz.call52 Tryz.func52 Tryz.ntmps52 rfl rfl rfl rfl rfl ?_
 refine awl_live' [0, 1] fun ρ hL => ?_
 try simp only [go_sem, simprocAttr] at hL
 obtain ⟨h0, h1⟩ := hL
 refine awl_seq ?_
 refine awl_regS _ rfl fun K hK => ?_
 try simp only [go_sem, simprocAttr, h0, h1]
 repeat' (refine And.intro (by first | rfl | omega | (simp; done)) ?_)
 refine hK _ _ (.mk (awl_live' [0, 1] fun ρ hL => ?_))
 try simp only [go_sem, simprocAttr, h0, h1] at hL
 try clear h0 h1
 obtain ⟨h0, h1⟩ := hL
 clear hK K
 refine awl_seq ?_
 have hl1 := hl.1
 have hl2 := hl.2
 have w0 : IntKind.i64.wrap (l - (xs.length : Int)) = l - (xs.length : Int) := wrap64 (by omega)
 refine awl_regS _ rfl fun K hK => ?_
 try simp only [go_sem, simprocAttr, h0, h1, w0]
 repeat' (refine And.intro (by first | rfl | omega | (simp; done)) ?_)
 refine hK _ _ (.mk (awl_live' [1] fun ρ hL => ?_))
 try simp only [go_sem, simprocAttr, h0, h1, w0] at hL
 try clear h0 h1
 have h1 := hL
 clear hL
 clear hK K
 refine awl_seq ?_
 refine awl_seq ?_
 refine awl_regS _ rfl fun K hK => ?_
 try simp only [go_sem, simprocAttr, h1]
 repeat' (refine And.intro (by first | rfl | omega | (simp; done)) ?_)
 refine hK _ _ (.mk (awl_live' [1, 10] fun ρ hL => ?_))
 try simp only [go_sem, simprocAttr, h1] at hL
 try clear h1
 obtain ⟨h1, h10⟩ := hL
 clear hK K
 refine awl_cond h10 (fun c1 => ?_) (fun c1 => ?_)
 ·
  try simp only [cnd] at c1
  refine awl_seq ?_
  refine awl_regS _ rfl fun K hK => ?_
  try simp only [go_sem, simprocAttr, h1, h10]
  repeat' (refine And.intro (by first | rfl | omega | (simp; done)) ?_)
  refine hK _ _ (.mk (awl_live' [4] fun ρ hL => ?_))
  try simp only [go_sem, simprocAttr, h1, h10] at hL
  try clear h1 h10
  have h4 := hL
  clear hL
  clear hK K
  refine awl_ret ?_
  refine ret0 (by simp only [go_sem, simprocAttr, h4]; exact rfl) ?_
  try simp only [go_sem, simprocAttr]
  all_goals (rw [szL, if_pos c1])
 ·
  try simp only [cnd] at c1
  refine awl_skip ?_
  refine awl_seq ?_
  refine awl_regS _ rfl fun K hK => ?_
  try simp only [go_sem, simprocAttr, h1, h10]
  repeat' (refine And.intro (by first | rfl | omega | (simp; done)) ?_)
  refine hK _ _ (.mk (awl_live' [4] fun ρ hL => ?_))
  try simp only [go_sem, simprocAttr, h1, h10] at hL
  try clear h1 h10
  have h4 := hL
  clear hL
  clear hK K
  refine awl_ret ?_
  refine ret0 (by simp only [go_sem, simprocAttr, h4]; exact rfl) ?_
  try simp only [go_sem, simprocAttr]
  all_goals (rw [szL, if_neg c1])
set_option maxHeartbeats 8000000 in
set_option maxRecDepth 100000 in
theorem sat_laws_toBoolS (xs : List Bool) (hb : xs.length ≤ 1099511627776) : Sat Tryz.prog 97 [.sl xs.length xs.length (rows xs)] [] (.slice 0 0 xs.length 0) [⟨1, rows xs, true, false⟩] := by
 refine sat_mk [.tmp 2] 0 22 Tryz.call97 Tryz.func97 Tryz.ntmps97 rfl rfl rfl rfl rfl ?_
 refine awl_live' [0] fun ρ hL => ?_
 try simp only [go_sem, simprocAttr, List.length_append, List.length_take, List.length_replicate] at hL
 have h0 := hL
 clear hL
 refine awl_seq ?_
 refine awl_regS _ rfl fun K hK => ?_
 try simp only [go_sem, simprocAttr, h0, List.length_append, List.length_take, List.length_replicate]
 repeat' (refine And.intro (by first | rfl | omega | (simp; done)) ?_)
 refine hK _ _ (.mk (awl_live' [0] fun ρ hL => ?_))
 try simp only [go_sem, simprocAttr, h0, List.length_append, List.length_take, List.length_replicate] at hL
 try clear h0
 have h0 := hL
 clear hL
 clear hK K
 refine awl_seq ?_
 refine awl_regS _ rfl fun K hK => ?_
 try simp only [go_sem, simprocAttr, h0, List.length_append, List.length_take, List.length_replicate]
 repeat' (refine And.intro (by first | rfl | omega | (simp; done)) ?_)
 refine hK _ _ (.mk (awl_live' [0, 3] fun ρ hL => ?_))
 try simp only [go_sem, simprocAttr, h0, List.length_append, List.length_take, List.length_replicate] at hL
 try clear h0
 obtain ⟨h0, h3⟩ := hL
 clear hK K
 refine awl_seq ?_
 refine awl_seq ?_
 refine awl_regS _ rfl fun K hK => ?_
 try simp only [go_sem, simprocAttr, h0, h3, List.length_append, List.length_take, List.length_replicate]
 repeat' (refine And.intro (by first | rfl | omega | (simp; done)) ?_)
 refine hK _ _ (.mk (awl_live' [0, 3, 4] fun ρ hL => ?_))
 try simp only [go_sem, simprocAttr, h0, h3, List.length_append, List.length_take, List.length_replicate] at hL
 try clear h0 h3
 obtain ⟨h0, h3, h4⟩ := hL
 clear hK K
 have e1_0 := h0
 have e1_3 := h3
 refine awl_loopH (fun H0 n σ G => ∃ (i : Nat), n = xs.length - i ∧ (i ≤ xs.length) ∧ liveE [0, 3] σ ρ ∧ σ 4 = .int .i64 (i : Int) ∧ G = [⟨1, rows (xs.take i ++ List.replicate (xs.length - i) false), true, false⟩]) (fun H0 σ G => liveE [3] σ ρ ∧ G = [⟨1, rows xs, true, false⟩]) ((fun (i : Nat) => xs.length - i) 0) ?init1 (fun n ρ G hI => ?round1) (fun ρ G hJ => ?after1)
 case init1 => exact ⟨0, rfl, (Nat.zero_le _), liveE_refl _ _, (h4), rfl⟩
 case round1 =>
  obtain ⟨i, hn, i1_0, hL, k4, hG⟩ := hI
  subst hG
  try simp only [go_sem, simprocAttr, h0, h3, h4, List.length_append, List.length_take, List.length_replicate] at hL
  clear h0 h3 h4
  obtain ⟨h0, h3⟩ := hL
  have h4 := k4
  clear k4
  refine awl_seq ?_
  refine awl_seq ?_
  refine awl_regS _ rfl fun K hK => ?_
  try simp only [go_sem, simprocAttr, h0, h3, h4, List.length_append, List.length_take, List.length_replicate]
  repeat' (refine And.intro (by first | rfl | omega | (simp; done)) ?_)
  refine hK _ _ (.mk (awl_live' [0, 3, 4, 11] fun ρ hL => ?_))
  try simp only [go_sem, simprocAttr, h0, h3, h4, List.length_append, List.length_take, List.length_replicate] at hL
  try clear h0 h3 h4
  obtain ⟨h0, h3, h4, h11⟩ := hL
  clear hK K
  refine awl_cond h11 (fun c1 => ?_) (fun c1 => ?_)
  ·
   try simp only [cnd] at c1
   have hi1 : i < xs.length := by omega
   refine awl_skip ?_
   refine awl_seq ?_
   refine awl_block fun R1 hw1 hR1 => ?_
   refine awl_regS _ rfl fun K hK => ?_
   try simp only [go_sem, simprocAttr, h0, h3, h4, h11, hi1, List.length_append, List.length_take, List.length_replicate]
   repeat' (refine And.intro (by first | rfl | omega | (simp; done)) ?_)
   refine hK _ _ (.mk (awl_live' [0, 3, 4] fun ρ hL => ?_))
   try simp only [go_sem, simprocAttr, h0, h3, h4, h11, hi1, List.length_append, List.length_take, List.length_replicate] at hL
   try clear h0 h3 h4 h11
   obtain ⟨h0, h3, h4⟩ := hL
   clear hK K
   refine awl_nil ?_
   refine blk_normal (hR1 _ _ (.mk ?_))
   have w1 : IntKind.i64.wrap ((i : Int) + 1) = ((i + 1 : Nat) : Int) := by rw [wrap64 (by omega)]; omega
   refine awl_regS _ rfl fun K hK => ?_
   try simp only [go_sem, simprocAttr, h0, h3, h4, hi1, w1, List.length_append, List.length_take, List.length_replicate]
   repeat' (refine And.intro (by first | rfl | omega | (simp; done)) ?_)
   refine hK _ _ (.mk (awl_live' [0, 3, 4] fun ρ hL => ?_))
   try simp only [go_sem, simprocAttr, h0, h3, h4, hi1, w1, List.length_append, List.length_take, List.length_replicate] at hL
   try clear h0 h3 h4
   obtain ⟨h0, h3, h4⟩ := hL
   clear hK K
   refine awl_nil ?_
   refine loop_again _ ?meas ⟨i + 1, rfl, (by omega), (by simp only [go_sem, simprocAttr, h0, h3, h4, hi1, List.length_append, List.length_take, List.length_replicate, e1_0, e1_3]), (h4), by rw [bools_put (by simp; omega), set_take (d := false) hi1 rfl]⟩
   case meas => subst hn; omega
  ·
   try simp only [cnd] at c1
   refine awl_exit ?_
   refine loop_break ?_
   exact ⟨(by simp only [go_sem, simprocAttr, h0, h3, h4, h11, List.length_append, List.length_take, List.length_replicate, e1_0, e1_3]), by rw [show i = xs.length by omega]; simp⟩
 case after1 =>
  obtain ⟨hL, hG⟩ := hJ
  subst hG
  try simp only [go_sem, simprocAttr, h0, h3, h4, List.length_append, List.length_take, List.length_replicate] at hL
  clear h0 h3 h4
  have h3 := hL
  clear hL
  refine awl_seq ?_
  refine awl_regS _ rfl fun K hK => ?_
  try simp only [go_sem, simprocAttr, h3, List.length_append, List.length_take, List.length_replicate]
  repeat' (refine And.intro (by first | rfl | omega | (simp; done)) ?_)
  refine hK _ _ (.mk (awl_live' [2] fun ρ hL => ?_))
  try simp only [go_sem, simprocAttr, h3, List.length_append, List.length_take, List.length_replicate] at hL
  try clear h3
  have h2 := hL
  clear hL
  clear hK K
  refine awl_ret ?_
  refine ret_wk (Wk.norm [] (RefE.refl.upd h2 (Ref.cap _ _ _ _ 0 (Nat.zero_le _)))) ?_
  refine retK [0] [0] rfl (by simp only [go_sem, simprocAttr, h2, List.length_append, List.length_take, List.length_replicate]; exact rfl) (by decide) (by first | rfl | (simp only [go_sem, simprocAttr, h2, List.length_append, List.length_take, List.length_replicate]; first | done | rfl)) (by first | rfl | (simp only [go_sem, simprocAttr, h2, List.length_append, List.length_take, List.length_replicate]; first | done | rfl)) ?_ ?_
  all_goals try simp only [go_sem, simprocAttr, h2, List.length_append, List.length_take, List.length_replicate]
  all_goals try clear hR1
  all_goals (first | done | rfl | (simp; done) | (simp [inR]; done) | (simp_all [inR]; done) | (simp [inR]; grind))
set_option maxHeartbeats 8000000 in
set_option maxRecDepth 100000 in
theorem sat_laws_eqBoolS (xs : List Bool) (ys : List Bool) (hb : xs.length ≤ 1099511627776) : Sat Tryz.prog 112 [.sl xs.length xs.length (rows xs), .sl ys.length ys.length (rows ys)] [] (.bool (decide (xs = ys))) [] := by
 refine sat_mk [.tmp 4] 0 26 Tryz.call112 Tryz.func112 Tryz.ntmps112 rfl rfl rfl rfl rfl ?_
 refine awl_live' [0, 1] fun ρ hL => ?_
 try simp only [go_sem, simprocAttr] at hL
 obtain ⟨h0, h1⟩ := hL
 refine awl_seq ?_
 refine awl_regS _ rfl fun K hK => ?_
 try simp only [go_sem, simprocAttr, h0, h1]
 repeat' (refine And.intro (by first | rfl | omega | (simp; done)) ?_)
 refine hK _ _ (.mk (awl_live' [0, 1] fun ρ hL => ?_))
 try simp only [go_sem, simprocAttr, h0, h1] at hL
 try clear h0 h1
 obtain ⟨h0, h1⟩ := hL
 clear hK K
 refine awl_seq ?_
 refine awl_seq ?_
 refine awl_regS _ rfl fun K hK => ?_
 try simp only [go_sem, simprocAttr, h0, h1]
 repeat' (refine And.intro (by first | rfl | omega | (simp; done)) ?_)
 refine hK _ _ (.mk (awl_live' [0, 1, 10] fun ρ hL => ?_))
 try simp only [go_sem, simprocAttr, h0, h1] at hL
 try clear h0 h1
 obtain ⟨h0, h1, h10⟩ := hL
 clear hK K
 refine awl_cond h10 (fun c1 => ?_) (fun c1 => ?_)
 ·
  try simp only [cnd] at c1
  refine awl_seq ?_
  refine awl_regS _ rfl fun K hK => ?_
  try simp only [go_sem, simprocAttr, h0, h1, h10]
  repeat' (refine And.intro (by first | rfl | omega | (simp; done)) ?_)
  refine hK _ _ (.mk (awl_live' [4] fun ρ hL => ?_))
  try simp only [go_sem, simprocAttr, h0, h1, h10] at hL
  try clear h0 h1 h10
  have h4 := hL
  clear hL
  clear hK K
  refine awl_ret ?_
  refine ret0 (by simp only [go_sem, simprocAttr, h4]; exact rfl) ?_
  try simp only [go_sem, simprocAttr]
  all_goals (rw [decide_eq_false]; rintro rfl; exact c1 rfl)
 ·
  try simp only [cnd] at c1
  refine awl_skip ?_
  refine awl_seq ?_
  refine awl_seq ?_
  refine awl_regS _ rfl fun K hK => ?_
  try simp only [go_sem, simprocAttr, h0, h1, h10]
  repeat' (refine And.intro (by first | rfl | omega | (simp; done)) ?_)
  refine hK _ _ (.mk (awl_live' [0, 1, 5] fun ρ hL => ?_))
  try simp only [go_sem, simprocAttr, h0, h1, h10] at hL
  try clear h0 h1 h10
  obtain ⟨h0, h1, h5⟩ := hL
  clear hK K
  have e1_0 := h0
  have e1_1 := h1
  refine awl_loopH (fun H0 n σ G => ∃ (i : Nat), n = xs.length - i ∧ (i ≤ xs.length) ∧ (xs.take i = ys.take i) ∧ liveE [0, 1] σ ρ ∧ σ 5 = .int .i64 (i : Int) ∧ G = H0) (fun H0 σ G => (xs = ys) ∧ liveE [] σ ρ ∧ G = H0) ((fun (i : Nat) => xs.length - i) 0) ?init1 (fun n ρ G hI => ?round1) (fun ρ G hJ => ?after1)
  case init1 => exact ⟨0, rfl, (Nat.zero_le _), (by simp), liveE_refl _ _, (h5), rfl⟩
  case round1 =>
   obtain ⟨i, hn, i1_0, i1_1, hL, k5, hG⟩ := hI
   subst hG
   try simp only [go_sem, simprocAttr, h0, h1, h5] at hL
   clear h0 h1 h5
   obtain ⟨h0, h1⟩ := hL
   have h5 := k5
   clear k5
   refine awl_seq ?_
   refine awl_seq ?_
   refine awl_regS _ rfl fun K hK => ?_
   try simp only [go_sem, simprocAttr, h0, h1, h5]
   repeat' (refine And.intro (by first | rfl | omega | (simp; done)) ?_)
   refine hK _ _ (.mk (awl_live' [0, 1, 5, 14] fun ρ hL => ?_))
   try simp only [go_sem, simprocAttr, h0, h1, h5] at hL
   try clear h0 h1 h5
   obtain ⟨h0, h1, h5, h14⟩ := hL
   clear hK K
   refine awl_cond h14 (fun c2 => ?_) (fun c2 => ?_)
   ·
    try simp only [cnd] at c2
    have hi1 : i < xs.length := by omega
    refine awl_skip ?_
    refine awl_seq ?_
    refine awl_block fun R1 hw1 hR1 => ?_
    refine awl_seq ?_
    have hj : i < ys.length := by omega
    refine awl_regD mixed _ rfl fun K hK => ?_
    try simp only [go_sem, simprocAttr, h0, h1, h5, h14, hi1, hj]
    repeat' (refine And.intro (by first | omega | (exact ⟨[0, 0, 3, 7, 0, 0, 48, 112, 255], by kernel_rfl⟩) | kernel_rfl) ?_)
    refine hK _ _ (.mk (awl_live' [0, 1, 5, 25] fun ρ hL => ?_))
    try simp only [go_sem, simprocAttr, h0, h1, h5, h14, hi1, hj] at hL
    try clear h0 h1 h5 h14
    obtain ⟨h0, h1, h5, h25⟩ := hL
    clear hK K
    refine awl_cond h25 (fun c3 => ?_) (fun c3 => ?_)
    ·
     try simp only [cnd] at c3
     refine awl_seq ?_
     refine awl_regS _ rfl fun K hK => ?_
     try simp only [go_sem, simprocAttr, h0, h1, h5, h25, hi1]
     repeat' (refine And.intro (by first | rfl | omega | (simp; done)) ?_)
     refine hK _ _ (.mk (awl_live' [4] fun ρ hL => ?_))
     try simp only [go_sem, simprocAttr, h0, h1, h5, h25, hi1] at hL
     try clear h0 h1 h5 h25
     have h4 := hL
     clear hL
     clear hK K
     refine awl_ret ?_
     refine blk_ret ?_
     refine loop_ret ?_
     refine ret0 (by simp only [go_sem, simprocAttr, h4, hi1]; exact rfl) ?_
     try simp only [go_sem, simprocAttr]
     all_goals try clear hR1
     all_goals (rw [decide_eq_false]; rintro rfl; first | exact c3 rfl | (simp at c3; done))
    ·
     try simp only [cnd] at c3
     refine awl_skip ?_
     refine awl_nil ?_
     refine blk_normal (hR1 _ _ (.mk ?_))
     have w1 : IntKind.i64.wrap ((i : Int) + 1) = ((i + 1 : Nat) : Int) := by rw [wrap64 (by omega)]; omega
     refine awl_regS _ rfl fun K hK => ?_
     try simp only [go_sem, simprocAttr, h0, h1, h5, h25, hi1, w1]
     repeat' (refine And.intro (by first | rfl | omega | (simp; done)) ?_)
     refine hK _ _ (.mk (awl_live' [0, 1, 5] fun ρ hL => ?_))
     try simp only [go_sem, simprocAttr, h0, h1, h5, h25, hi1, w1] at hL
     try clear h0 h1 h5 h25
     obtain ⟨h0, h1, h5⟩ := hL
     clear hK K
     refine awl_nil ?_
     refine loop_again _ ?meas ⟨i + 1, rfl, (by omega), (by exact take_succ_eq (d := false) hi1 hj i1_1 (by simpa using c3)), (by simp only [go_sem, simprocAttr, h0, h1, h5, hi1, e1_0, e1_1]), (h5), rfl⟩
     case meas => subst hn; omega
   ·
    try simp only [cnd] at c2
    refine awl_exit ?_
    refine loop_break ?_
    exact ⟨(by exact eq_of_take (i := i) (by omega) (by omega) i1_1), (by simp only [go_sem, simprocAttr, h0, h1, h5, h14, e1_0, e1_1]), rfl⟩
  case after1 =>
   obtain ⟨j1_0, hL, hG⟩ := hJ
   subst hG
   clear h0 h1 h5
   clear hL
   refine awl_seq ?_
   refine awl_regS _ rfl fun K hK => ?_
   try simp only [go_sem, simprocAttr]
   repeat' (refine And.intro (by first | rfl | omega | (simp; done)) ?_)
   refine hK _ _ (.mk (awl_live' [4] fun ρ hL => ?_))
   try simp only [go_sem, simprocAttr] at hL
   have h4 := hL
   clear hL
   clear hK K
   refine awl_ret ?_
   refine ret0 (by simp only [go_sem, simprocAttr, h4]; exact rfl) ?_
   try simp only [go_sem, simprocAttr]
   all_goals try clear hR1
   all_goals (rw [decide_eq_true j1_0])
set_option maxHeartbeats 8000000 in
set_option maxRecDepth 100000 in
theorem sat_laws_szBoolS (xs : List Bool) (l : Int) (hb : xs.length ≤ 9223372036854775807) (hl : leftOk l) : Sat Tryz.prog 90 [.sl xs.length xs.length (rows xs), .int .i64 l] [] (.int .i64 (szL l xs.length)) [] := by
 refine sat_mk [.tmp 4] 0 12 Tryz.call90 Tryz.func90 Tryz.ntmps90 rfl rfl rfl rfl rfl ?_
 refine awl_live' [0, 1] fun ρ hL => ?_
 try simp only [go_sem, simprocAttr] at hL
 obtain ⟨h0, h1⟩ := hL
 refine awl_seq ?_
 refine awl_regS _ rfl fun K hK => ?_
 try simp only [go_sem, simprocAttr, h0, h1]
 repeat' (refine And.intro (by first | rfl | omega | (simp; done)) ?_)
 refine hK _ _ (.mk (awl_live' [0, 1] fun ρ hL => ?_))
 try simp only [go_sem, simprocAttr, h0, h1] at hL
 try clear h0 h1
 obtain ⟨h0, h1⟩ := hL
 clear hK K
 refine awl_seq ?_
 have hl1 := hl.1
 have hl2 := hl.2
 have w0 : IntKind.i64.wrap (l - (xs.length : Int)) = l - (xs.length : Int) := wrap64 (by omega)
 refine awl_regS _ rfl fun K hK => ?_
 try simp only [go_sem, simprocAttr, h0, h1, w0]
 repeat' (refine And.intro (by first | rfl | omega | (simp; done)) ?_)
 refine hK _ _ (.mk (awl_live' [1] fun ρ hL => ?_))
 try simp only [go_sem, simprocAttr, h0, h1, w0] at hL
 try clear h0 h1
 have h1 := hL
 clear hL
 clear hK K
 refine awl_seq ?_
 refine awl_seq ?_
 refine awl_regS _ rfl fun K hK => ?_
 try simp only [go_sem, simprocAttr, h1]
 repeat' (refine And.intro (by first | rfl | omega | (simp; done)) ?_)
 refine hK _ _ (.mk (awl_live' [1, 10] fun ρ hL => ?_))
 try simp only [go_sem, simprocAttr, h1] at hL
 try clear h1
 obtain ⟨h1, h10⟩ := hL
 clear hK K
 refine awl_cond h10 (fun c1 => ?_) (fun c1 => ?_)
 ·
  try simp only [cnd] at c1
  refine awl_seq ?_
  refine awl_regS _ rfl fun K hK => ?_
  try simp only [go_sem, simprocAttr, h1, h10]
  repeat' (refine And.intro (by first | rfl | omega | (simp; done)) ?_)
  refine hK _ _ (.mk (awl_live' [4] fun ρ hL => ?_))
  try simp only [go_sem, simprocAttr, h1, h10] at hL
  try clear h1 h10
  have h4 := hL
  clear hL
  clear hK K
  refine awl_ret ?_
  refine ret0 (by simp only [go_sem, simprocAttr, h4]; exact rfl) ?_
  try simp only [go_sem, simprocAttr]
  all_goals (rw [szL, if_pos c1])
 ·
  try simp only [cnd] at c1
  refine awl_skip ?_
  refine awl_seq ?_
  refine awl_regS _ rfl fun K hK => ?_
  try simp only [go_sem, simprocAttr, h1, h10]
  repeat' (refine And.intro (by first | rfl | omega | (simp; done)) ?_)
  refine hK _ _ (.mk (awl_live' [4] fun ρ hL => ?_))
  try simp only [go_sem, simprocAttr, h1, h10] at hL
  try clear h1 h10
  have h4 := hL
  clear hL
  clear hK K
  refine awl_ret ?_
  refine ret0 (by simp only [go_sem, simprocAttr, h4]; exact rfl) ?_
  try simp only [go_sem, simprocAttr]
  all_goals (rw [szL, if_neg c1])
set_option maxHeartbeats 8000000 in
set_option maxRecDepth 100000 in
theorem sat_laws_szMemory (m : Mem) (l : Int) (hb : m.sm) (hl : leftOk l) : Sat Tryz.prog 53 [.agg m.cells, .int .i64 l] [] (.int .i64 (szM l m)) [] := by
 refine sat_mk [.tmp 4] 0 18 Tryz.call53 Tryz.func53 Tryz.ntmps53 rfl rfl rfl rfl rfl ?_
 refine awl_live' [0, 1] fun ρ hL => ?_
 try simp only [go_sem, simprocAttr] at hL
 obtain ⟨h0, h1⟩ := hL
 refine awl_seq ?_
 refine awl_regS _ rfl fun K hK => ?_
 try simp only [go_sem, simprocAttr, h0, h1]
 repeat' (refine And.intro (by first | rfl | omega | (simp; done)) ?_)
 refine hK _ _ (.mk (awl_live' [1, 2] fun ρ hL => ?_))
 try simp only [go_sem, simprocAttr, h0, h1] at hL
 try clear h0 h1
 obtain ⟨h1, h2⟩ := hL
 clear hK K
 refine awl_seq ?_
 refine awl_regS _ rfl fun K hK => ?_
 try simp only [go_sem, simprocAttr, h1, h2]
 repeat' (refine And.intro (by first | rfl | omega | (simp; done)) ?_)
 refine opS_call_ro rfl (sat_laws_szWordS m.words l hb.1 hl) ?ha ?hv ?hh ?_
 case ha => simp only [go_sem, simprocAttr, h1, h2]; first | done | rfl
 case hv => first | rfl | (simp only [go_sem]; done)
 case hh => first | rfl | (simp only [go_sem]; done)
 try simp only [go_sem, simprocAttr, h1, h2]
 repeat' (refine And.intro (by first | rfl | omega | (simp; done)) ?_)
 refine hK _ _ (.mk (awl_live' [1, 2] fun ρ hL => ?_))
 try simp only [go_sem, simprocAttr, h1, h2] at hL
 try clear h1 h2
 obtain ⟨h1, h2⟩ := hL
 clear hK K
 refine awl_seq ?_
 refine awl_seq ?_
 refine awl_regS _ rfl fun K hK => ?_
 try simp only [go_sem, simprocAttr, h1, h2]
 repeat' (refine And.intro (by first | rfl | omega | (simp; done)) ?_)
 refine hK _ _ (.mk (awl_live' [1, 2, 10] fun ρ hL => ?_))
 try simp only [go_sem, simprocAttr, h1, h2] at hL
 try clear h1 h2
 obtain ⟨h1, h2, h10⟩ := hL
 clear hK K
 refine awl_cond h10 (fun c1 => ?_) (fun c1 => ?_)
 ·
  try simp only [cnd] at c1
  refine awl_seq ?_
  refine awl_regS _ rfl fun K hK => ?_
  try simp only [go_sem, simprocAttr, h1, h2, h10]
  repeat' (refine And.intro (by first | rfl | omega | (simp; done)) ?_)
  refine hK _ _ (.mk (awl_live' [4] fun ρ hL => ?_))
  try simp only [go_sem, simprocAttr, h1, h2, h10] at hL
  try clear h1 h2 h10
  have h4 := hL
  clear hL
  clear hK K
  refine awl_ret ?_
  refine ret0 (by simp only [go_sem, simprocAttr, h4]; exact rfl) ?_
  try simp only [go_sem, simprocAttr]
  all_goals (rw [szM, if_pos c1])
 ·
  try simp only [cnd] at c1
  refine awl_skip ?_
  refine awl_seq ?_
  refine awl_regS _ rfl fun K hK => ?_
  try simp only [go_sem, simprocAttr, h1, h2, h10]
  repeat' (refine And.intro (by first | rfl | omega | (simp; done)) ?_)
  refine opS_call_ro rfl (sat_laws_szBoolS m.gone _ hb.2 (szL_ok hl c1).2) ?ha ?hv ?hh ?_
  case ha => simp only [go_sem, simprocAttr, h1, h2, h10]; first | done | rfl
  case hv => first | rfl | (simp only [go_sem]; done)
  case hh => first | rfl | (simp only [go_sem]; done)
  try simp only [go_sem, simprocAttr, h1, h2, h10]
  repeat' (refine And.intro (by first | rfl | omega | (simp; done)) ?_)
  refine hK _ _ (.mk (awl_live' [1] fun ρ hL => ?_))
  try simp only [go_sem, simprocAttr, h1, h2, h10] at hL
  try clear h1 h2 h10
  have h1 := hL
  clear hL
  clear hK K
  refine awl_seq ?_
  refine awl_seq ?_
  refine awl_regS _ rfl fun K hK => ?_
  try simp only [go_sem, simprocAttr, h1]
  repeat' (refine And.intro (by first | rfl | omega | (simp; done)) ?_)
  refine hK _ _ (.mk (awl_live' [1, 16] fun ρ hL => ?_))
  try simp only [go_sem, simprocAttr, h1] at hL
  try clear h1
  obtain ⟨h1, h16⟩ := hL
  clear hK K
  refine awl_cond h16 (fun c2 => ?_) (fun c2 => ?_)
  ·
   try simp only [cnd] at c2
   refine awl_seq ?_
   refine awl_regS _ rfl fun K hK => ?_
   try simp only [go_sem, simprocAttr, h1, h16]
   repeat' (refine And.intro (by first | rfl | omega | (simp; done)) ?_)
   refine hK _ _ (.mk (awl_live' [4] fun ρ hL => ?_))
   try simp only [go_sem, simprocAttr, h1, h16] at hL
   try clear h1 h16
   have h4 := hL
   clear hL
   clear hK K
   refine awl_ret ?_
   refine ret0 (by simp only [go_sem, simprocAttr, h4]; exact rfl) ?_
   try simp only [go_sem, simprocAttr]
   all_goals (rw [szM, if_neg c1, if_pos c2])
  ·
   try simp only [cnd] at c2
   refine awl_skip ?_
   refine awl_seq ?_
   refine awl_regS _ rfl fun K hK => ?_
   try simp only [go_sem, simprocAttr, h1, h16]
   repeat' (refine And.intro (by first | rfl | omega | (simp; done)) ?_)
   refine hK _ _ (.mk (awl_live' [4] fun ρ hL => ?_))
   try simp only [go_sem, simprocAttr, h1, h16] at hL
   try clear h1 h16
   have h4 := hL
   clear hL
   clear hK K
   refine awl_ret ?_
   refine ret0 (by simp only [go_sem, simprocAttr, h4]; exact rfl) ?_
   try simp only [go_sem, simprocAttr]
   all_goals (rw [szM, if_neg c1, if_neg c2])
set_option maxHeartbeats 8000000 in
set_option maxRecDepth 100000 in
theorem sat_laws_szState (s : Stt) (l : Int) (hb : s.sm) (hl : leftOk l) : Sat Tryz.prog 18 [.agg s.cells, .int .i64 l] [] (.int .i64 (szS l s)) [] := by
 refine sat_mk [.tmp 4] 0 18 Tryz.call18 Tryz.func18 Tryz.ntmps18 rfl rfl rfl rfl rfl ?_
 refine awl_live' [0, 1] fun ρ hL => ?_
 try simp only [go_sem, simprocAttr] at hL
 obtain ⟨h0, h1⟩ := hL
 refine awl_seq ?_
 refine awl_regS _ rfl fun K hK => ?_
 try simp only [go_sem, simprocAttr, h0, h1]
 repeat' (refine And.intro (by first | rfl | omega | (simp; done)) ?_)
 refine hK _ _ (.mk (awl_live' [1, 2] fun ρ hL => ?_))
 try simp only [go_sem, simprocAttr, h0, h1] at hL
 try clear h0 h1
 obtain ⟨h1, h2⟩ := hL
 clear hK K
 refine awl_seq ?_
 refine awl_regS _ rfl fun K hK => ?_
 try simp only [go_sem, simprocAttr, h1, h2]
 repeat' (refine And.intro (by first | rfl | omega | (simp; done)) ?_)
 refine opS_call_ro rfl (sat_laws_szWordS s.regs l hb.1 hl) ?ha ?hv ?hh ?_
 case ha => simp only [go_sem, simprocAttr, h1, h2]; first | done | rfl
 case hv => first | rfl | (simp only [go_sem]; done)
 case hh => first | rfl | (simp only [go_sem]; done)
 try simp only [go_sem, simprocAttr, h1, h2]
 repeat' (refine And.intro (by first | rfl | omega | (simp; done)) ?_)
 refine hK _ _ (.mk (awl_live' [1, 2] fun ρ hL => ?_))
 try simp only [go_sem, simprocAttr, h1, h2] at hL
 try clear h1 h2
 obtain ⟨h1, h2⟩ := hL
 clear hK K
 refine awl_seq ?_
 refine awl_seq ?_
 refine awl_regS _ rfl fun K hK => ?_
 try simp only [go_sem, simprocAttr, h1, h2]
 repeat' (refine And.intro (by first | rfl | omega | (simp; done)) ?_)
 refine hK _ _ (.mk (awl_live' [1, 2, 10] fun ρ hL => ?_))
 try simp only [go_sem, simprocAttr, h1, h2] at hL
 try clear h1 h2
 obtain ⟨h1, h2, h10⟩ := hL
 clear hK K
 refine awl_cond h10 (fun c1 => ?_) (fun c1 => ?_)
 ·
  try simp only [cnd] at c1
  refine awl_seq ?_
  refine awl_regS _ rfl fun K hK => ?_
  try simp only [go_sem, simprocAttr, h1, h2, h10]
  repeat' (refine And.intro (by first | rfl | omega | (simp; done)) ?_)
  refine hK _ _ (.mk (awl_live' [4] fun ρ hL => ?_))
  try simp only [go_sem, simprocAttr, h1, h2, h10] at hL
  try clear h1 h2 h10
  have h4 := hL
  clear hL
  clear hK K
  refine awl_ret ?_
  refine ret0 (by simp only [go_sem, simprocAttr, h4]; exact rfl) ?_
  try simp only [go_sem, simprocAttr]
  all_goals (rw [szS, if_pos c1])
 ·
  try simp only [cnd] at c1
  refine awl_skip ?_
  refine awl_seq ?_
  refine awl_regS _ rfl fun K hK => ?_
  try simp only [go_sem, simprocAttr, h1, h2, h10]
  repeat' (refine And.intro (by first | rfl | omega | (simp; done)) ?_)
  refine opS_call_ro rfl (sat_laws_szMemory s.mem _ hb.2 (szL_ok hl c1).2) ?ha ?hv ?hh ?_
  case ha => simp only [go_sem, simprocAttr, h1, h2, h10]; first | done | rfl
  case hv => first | rfl | (simp only [go_sem]; done)
  case hh => first | rfl | (simp only [go_sem]; done)
  try simp only [go_sem, simprocAttr, h1, h2, h10]
  repeat' (refine And.intro (by first | rfl | omega | (simp; done)) ?_)
  refine hK _ _ (.mk (awl_live' [1] fun ρ hL => ?_))
  try simp only [go_sem, simprocAttr, h1, h2, h10] at hL
  try clear h1 h2 h10
  have h1 := hL
  clear hL
  clear hK K
  refine awl_seq ?_
  refine awl_seq ?_
  refine awl_regS _ rfl fun K hK => ?_
  try simp only [go_sem, simprocAttr, h1]
  repeat' (refine And.intro (by first | rfl | omega | (simp; done)) ?_)
  refine hK _ _ (.mk (awl_live' [1, 16] fun ρ hL => ?_))
  try simp only [go_sem, simprocAttr, h1] at hL
  try clear h1
  obtain ⟨h1, h16⟩ := hL
  clear hK K
  refine awl_cond h16 (fun c2 => ?_) (fun c2 => ?_)
  ·
   try simp only [cnd] at c2
   refine awl_seq ?_
   refine awl_regS _ rfl fun K hK => ?_
   try simp only [go_sem, simprocAttr, h1, h16]
   repeat' (refine And.intro (by first | rfl | omega | (simp; done)) ?_)
   refine hK _ _ (.mk (awl_live' [4] fun ρ hL => ?_))
   try simp only [go_sem, simprocAttr, h1, h16] at hL
   try clear h1 h16
   have h4 := hL
   clear hL
   clear hK K
   refine awl_ret ?_
   refine ret0 (by simp only [go_sem, simprocAttr, h4]; exact rfl) ?_
   try simp only [go_sem, simprocAttr]
   all_goals (rw [szS, if_neg c1, if_pos c2])
  ·
   try simp only [cnd] at c2
   refine awl_skip ?_
   refine awl_seq ?_
   refine awl_regS _ rfl fun K hK => ?_
   try simp only [go_sem, simprocAttr, h1, h16]
   repeat' (refine And.intro (by first | rfl | omega | (simp; done)) ?_)
   refine hK _ _ (.mk (awl_live' [4] fun ρ hL => ?_))
   try simp only [go_sem, simprocAttr, h1, h16] at hL
   try clear h1 h16
   have h4 := hL
   clear hL
   clear hK K
   refine awl_ret ?_
   refine ret0 (by simp only [go_sem, simprocAttr, h4]; exact rfl) ?_
   try simp only [go_sem, simprocAttr]
   all_goals (rw [szS, if_neg c1, if_neg c2])
set_option maxHeartbeats 8000000 in
set_option maxRecDepth 100000 in
theorem sat_laws_toMemory (m : Mem) (hb : m.fit) : Sat Tryz.prog 64 [.agg m.cells] [] (.agg (m.own 0 1)) m.blks := by
 refine sat_mk [.cell 2 44] 0 13 Tryz.call64 Tryz.func64 Tryz.ntmps64 rfl rfl rfl rfl rfl ?_
 refine awl_live' [0] fun ρ hL => ?_
 try simp only [go_sem, simprocAttr] at hL
 have h0 := hL
 clear hL
 refine awl_seq ?_
 refine awl_regS _ rfl fun K hK => ?_
 try simp only [go_sem, simprocAttr, h0]
 repeat' (refine And.intro (by first | rfl | omega | (simp; done)) ?_)
 refine hK _ _ (.mk (awl_live' [1, 2] fun ρ hL => ?_))
 try simp only [go_sem, simprocAttr, h0] at hL
 try clear h0
 obtain ⟨h1, h2⟩ := hL
 clear hK K
 refine awl_seq ?_
 refine awl_regS _ rfl fun K hK => ?_
 try simp only [go_sem, simprocAttr, h1, h2]
 repeat' (refine And.intro (by first | rfl | omega | (simp; done)) ?_)
 refine hK _ _ (.mk (awl_live' [1, 2, 3] fun ρ hL => ?_))
 try simp only [go_sem, simprocAttr, h1, h2] at hL
 try clear h1 h2
 obtain ⟨h1, h2, h3⟩ := hL
 clear hK K
 refine awl_seq ?_
 refine awl_regS _ rfl fun K hK => ?_
 try simp only [go_sem, simprocAttr, h1, h2, h3]
 repeat' (refine And.intro (by first | rfl | omega | (simp; done)) ?_)
 refine opS_call_ro rfl (sat_laws_toWordS m.words (Nat.le_trans hb.1 (by decide))) ?ha ?hv ?hh ?_
 case ha => simp only [go_sem, simprocAttr, h1, h2, h3]; first | done | rfl
 case hv => first | rfl | (simp only [go_sem]; done)
 case hh => first | rfl | (simp only [go_sem]; done)
 try simp only [go_sem, simprocAttr, h1, h2, h3]
 repeat' (refine And.intro (by first | rfl | omega | (simp; done)) ?_)
 refine hK _ _ (.mk (awl_live' [1, 2, 3] fun ρ hL => ?_))
 try simp only [go_sem, simprocAttr, h1, h2, h3] at hL
 try clear h1 h2 h3
 obtain ⟨h1, h2, h3⟩ := hL
 clear hK K
 refine awl_seq ?_
 refine awl_regS _ rfl fun K hK => ?_
 try simp only [go_sem, simprocAttr, h1, h2, h3]
 repeat' (refine And.intro (by first | rfl | omega | (simp; done)) ?_)
 refine opS_call_ro rfl (sat_laws_toBoolS m.gone (Nat.le_trans hb.2 (by decide))) ?ha ?hv ?hh ?_
 case ha => simp only [go_sem, simprocAttr, h1, h2, h3]; first | done | rfl
 case hv => first | rfl | (simp only [go_sem]; done)
 case hh => first | rfl | (simp only [go_sem]; done)
 try simp only [go_sem, simprocAttr, h1, h2, h3]
 repeat' (refine And.intro (by first | rfl | omega | (simp; done)) ?_)
 refine hK _ _ (.mk (awl_live' [2, 3] fun ρ hL => ?_))
 try simp only [go_sem, simprocAttr, h1, h2, h3] at hL
 try clear h1 h2 h3
 obtain ⟨h2, h3⟩ := hL
 clear hK K
 refine awl_seq ?_
 refine awl_regS _ rfl fun K hK => ?_
 try simp only [go_sem, simprocAttr, h2, h3]
 repeat' (refine And.intro (by first | rfl | omega | (simp; done)) ?_)
 refine hK _ _ (.mk (awl_live' [2] fun ρ hL => ?_))
 try simp only [go_sem, simprocAttr, h2, h3] at hL
 try clear h2 h3
 have h2 := hL
 clear hL
 clear hK K
 refine awl_ret ?_
 refine retK [3, 4] [3, 4] rfl (by simp only [go_sem, simprocAttr, h2]; exact rfl) (by decide) (by first | rfl | (simp only [go_sem, simprocAttr, h2]; first | done | rfl)) (by first | rfl | (simp only [go_sem, simprocAttr, h2]; first | done | rfl)) ?_ ?_
 all_goals try simp only [go_sem, simprocAttr, h2]
 all_goals (first | done | rfl | (simp; done) | (simp [inR]; done) | (simp_all [inR]; done) | (simp [inR]; grind))
set_option maxHeartbeats 8000000 in
set_option maxRecDepth 100000 in
theorem sat_laws_toState (s : Stt) (hb : s.fit) : Sat Tryz.prog 27 [.agg s.cells] [] (.agg (s.own 0 1 2)) s.blks := by
 refine sat_mk [.cell 2 46] 0 20 Tryz.call27 Tryz.func27 Tryz.ntmps27 rfl rfl rfl rfl rfl ?_
 refine awl_live' [0] fun ρ hL => ?_
 try simp only [go_sem, simprocAttr] at hL
 have h0 := hL
 clear hL
 refine awl_seq ?_
 refine awl_regS _ rfl fun K hK => ?_
 try simp only [go_sem, simprocAttr, h0]
 repeat' (refine And.intro (by first | rfl | omega | (simp; done)) ?_)
 refine hK _ _ (.mk (awl_live' [1, 2] fun ρ hL => ?_))
 try simp only [go_sem, simprocAttr, h0] at hL
 try clear h0
 obtain ⟨h1, h2⟩ := hL
 clear hK K
 refine awl_seq ?_
 refine awl_regS _ rfl fun K hK => ?_
 try simp only [go_sem, simprocAttr, h1, h2]
 repeat' (refine And.intro (by first | rfl | omega | (simp; done)) ?_)
 refine hK _ _ (.mk (awl_live' [1, 2, 3] fun ρ hL => ?_))
 try simp only [go_sem, simprocAttr, h1, h2] at hL
 try clear h1 h2
 obtain ⟨h1, h2, h3⟩ := hL
 clear hK K
 refine awl_seq ?_
 refine awl_regS _ rfl fun K hK => ?_
 try simp only [go_sem, simprocAttr, h1, h2, h3]
 repeat' (refine And.intro (by first | rfl | omega | (simp; done)) ?_)
 refine opS_call_ro rfl (sat_laws_toWordS s.regs (Nat.le_trans hb.1 (by decide))) ?ha ?hv ?hh ?_
 case ha => simp only [go_sem, simprocAttr, h1, h2, h3]; first | done | rfl
 case hv => first | rfl | (simp only [go_sem]; done)
 case hh => first | rfl | (simp only [go_sem]; done)
 try simp only [go_sem, simprocAttr, h1, h2, h3]
 repeat' (refine And.intro (by first | rfl | omega | (simp; done)) ?_)
 refine hK _ _ (.mk (awl_live' [1, 2, 3] fun ρ hL => ?_))
 try simp only [go_sem, simprocAttr, h1, h2, h3] at hL
 try clear h1 h2 h3
 obtain ⟨h1, h2, h3⟩ := hL
 clear hK K
 refine awl_seq ?_
 refine awl_regS _ rfl fun K hK => ?_
 try simp only [go_sem, simprocAttr, h1, h2, h3]
 repeat' (refine And.intro (by first | rfl | omega | (simp; done)) ?_)
 refine opS_call_ro rfl (sat_laws_toWord s.pc) ?ha ?hv ?hh ?_
 case ha => simp only [go_sem, simprocAttr, h1, h2, h3]; first | done | rfl
 case hv => first | rfl | (simp only [go_sem]; done)
 case hh => first | rfl | (simp only [go_sem]; done)
 try simp only [go_sem, simprocAttr, h1, h2, h3]
 repeat' (refine And.intro (by first | rfl | omega | (simp; done)) ?_)
 refine hK _ _ (.mk (awl_live' [1, 2, 3] fun ρ hL => ?_))
 try simp only [go_sem, simprocAttr, h1, h2, h3] at hL
 try clear h1 h2 h3
 obtain ⟨h1, h2, h3⟩ := hL
 clear hK K
 refine awl_seq ?_
 refine awl_regS _ rfl fun K hK => ?_
 try simp only [go_sem, simprocAttr, h1, h2, h3]
 repeat' (refine And.intro (by first | rfl | omega | (simp; done)) ?_)
 refine opS_call_ro rfl (sat_laws_toMemory s.mem hb.2) ?ha ?hv ?hh ?_
 case ha => simp only [go_sem, simprocAttr, h1, h2, h3]; first | done | rfl
 case hv => first | rfl | (simp only [go_sem]; done)
 case hh => first | rfl | (simp only [go_sem]; done)
 try simp only [go_sem, simprocAttr, h1, h2, h3]
 repeat' (refine And.intro (by first | rfl | omega | (simp; done)) ?_)
 refine hK _ _ (.mk (awl_live' [1, 2, 3] fun ρ hL => ?_))
 try simp only [go_sem, simprocAttr, h1, h2, h3] at hL
 try clear h1 h2 h3
 obtain ⟨h1, h2, h3⟩ := hL
 clear hK K
 refine awl_seq ?_
 refine awl_regS _ rfl fun K hK => ?_
 try simp only [go_sem, simprocAttr, h1, h2, h3]
 repeat' (refine And.intro (by first | rfl | omega | (simp; done)) ?_)
 refine hK _ _ (.mk (awl_live' [2, 3] fun ρ hL => ?_))
 try simp only [go_sem, simprocAttr, h1, h2, h3] at hL
 try clear h1 h2 h3
 obtain ⟨h2, h3⟩ := hL
 clear hK K
 refine awl_seq ?_
 refine awl_regS _ rfl fun K hK => ?_
 try simp only [go_sem, simprocAttr, h2, h3]
 repeat' (refine And.intro (by first | rfl | omega | (simp; done)) ?_)
 refine hK _ _ (.mk (awl_live' [2] fun ρ hL => ?_))
 try simp only [go_sem, simprocAttr, h2, h3] at hL
 try clear h2 h3
 have h2 := hL
 clear hL
 clear hK K
 refine awl_ret ?_
 refine retK [3, 4, 5] [3, 4, 5] rfl (by simp only [go_sem, simprocAttr, h2]; exact rfl) (by decide) (by first | rfl | (simp only [go_sem, simprocAttr, h2]; first | done | rfl)) (by first | rfl | (simp only [go_sem, simprocAttr, h2]; first | done | rfl)) ?_ ?_
 all_goals try simp only [go_sem, simprocAttr, h2]
 all_goals (first | done | rfl | (simp; done) | (simp [inR]; done) | (simp_all [inR]; done) | (simp [inR]; grind))
set_option maxHeartbeats 8000000 in
set_option maxRecDepth 100000 in
theorem sat_laws_eqMemory (m : Mem) (n : Mem) (hb : m.fit) : Sat Tryz.prog 81 [.agg m.cells, .agg n.cells] [] (.bool (decide (m = n))) [] := by
 refine sat_mk [.tmp 4] 0 17 Tryz.call81 Tryz.func81 Tryz.ntmps81 rfl rfl rfl rfl rfl ?_
 refine awl_live' [0, 1] fun ρ hL => ?_
 try simp only [go_sem, simprocAttr] at hL
 obtain ⟨h0, h1⟩ := hL
 refine awl_seq ?_
 refine awl_regS _ rfl fun K hK => ?_
 try simp only [go_sem, simprocAttr, h0, h1]
 repeat' (refine And.intro (by first | rfl | omega | (simp; done)) ?_)
 refine hK _ _ (.mk (awl_live' [2, 3] fun ρ hL => ?_))
 try simp only [go_sem, simprocAttr, h0, h1] at hL
 try clear h0 h1
 obtain ⟨h2, h3⟩ := hL
 clear hK K
 refine awl_seq ?_
 refine awl_seq ?_
 refine awl_regS _ rfl fun K hK => ?_
 try simp only [go_sem, simprocAttr, h2, h3]
 repeat' (refine And.intro (by first | rfl | omega | (simp; done)) ?_)
 refine opS_call_ro rfl (sat_laws_eqWordS m.words n.words (Nat.le_trans hb.1 (by decide))) ?ha ?hv ?hh ?_
 case ha => simp only [go_sem, simprocAttr, h2, h3]; first | done | rfl
 case hv => first | rfl | (simp only [go_sem]; done)
 case hh => first | rfl | (simp only [go_sem]; done)
 try simp only [go_sem, simprocAttr, h2, h3]
 repeat' (refine And.intro (by first | rfl | omega | (simp; done)) ?_)
 refine hK _ _ (.mk (awl_live' [2, 3, 10] fun ρ hL => ?_))
 try simp only [go_sem, simprocAttr, h2, h3] at hL
 try clear h2 h3
 obtain ⟨h2, h3, h10⟩ := hL
 clear hK K
 refine awl_cond h10 (fun c1 => ?_) (fun c1 => ?_)
 ·
  try simp only [cnd] at c1
  refine awl_seq ?_
  refine awl_regS _ rfl fun K hK => ?_
  try simp only [go_sem, simprocAttr, h2, h3, h10]
  repeat' (refine And.intro (by first | rfl | omega | (simp; done)) ?_)
  refine hK _ _ (.mk (awl_live' [4] fun ρ hL => ?_))
  try simp only [go_sem, simprocAttr, h2, h3, h10] at hL
  try clear h2 h3 h10
  have h4 := hL
  clear hL
  clear hK K
  refine awl_ret ?_
  refine ret0 (by simp only [go_sem, simprocAttr, h4]; exact rfl) ?_
  try simp only [go_sem, simprocAttr]
  all_goals (rw [decide_eq_false]; rintro rfl; first | exact c1 rfl | exact c2 rfl | exact c3 rfl | exact c4 rfl | exact c5 rfl | exact c6 rfl | exact c7 rfl | (simp at c1; done) | (simp at c2; done) | (simp at c3; done) | (simp at c4; done)| (simp at c5; done))
 ·
  try simp only [cnd] at c1
  refine awl_skip ?_
  refine awl_seq ?_
  refine awl_seq ?_
  refine awl_regS _ rfl fun K hK => ?_
  try simp only [go_sem, simprocAttr, h2, h3, h10]
  repeat' (refine And.intro (by first | rfl | omega | (simp; done)) ?_)
  refine opS_call_ro rfl (sat_laws_eqBoolS m.gone n.gone (Nat.le_trans hb.2 (by decide))) ?ha ?hv ?hh ?_
  case ha => simp only [go_sem, simprocAttr, h2, h3, h10]; first | done | rfl
  case hv => first | rfl | (simp only [go_sem]; done)
  case hh => first | rfl | (simp only [go_sem]; done)
  try simp only [go_sem, simprocAttr, h2, h3, h10]
  repeat' (refine And.intro (by first | rfl | omega | (simp; done)) ?_)
  refine hK _ _ (.mk (awl_live' [16] fun ρ hL => ?_))
  try simp only [go_sem, simprocAttr, h2, h3, h10] at hL
  try clear h2 h3 h10
  have h16 := hL
  clear hL
  clear hK K
  refine awl_cond h16 (fun c2 => ?_) (fun c2 => ?_)
  ·
   try simp only [cnd] at c2
   refine awl_seq ?_
   refine awl_regS _ rfl fun K hK => ?_
   try simp only [go_sem, simprocAttr, h16]
   repeat' (refine And.intro (by first | rfl | omega | (simp; done)) ?_)
   refine hK _ _ (.mk (awl_live' [4] fun ρ hL => ?_))
   try simp only [go_sem, simprocAttr, h16] at hL
   try clear h16
   have h4 := hL
   clear hL
   clear hK K
   refine awl_ret ?_
   refine ret0 (by simp only [go_sem, simprocAttr, h4]; exact rfl) ?_
   try simp only [go_sem, simprocAttr]
   all_goals (rw [decide_eq_false]; rintro rfl; first | exact c1 rfl | exact c2 rfl | exact c3 rfl | exact c4 rfl | exact c5 rfl | exact c6 rfl | exact c7 rfl | (simp at c1; done) | (simp at c2; done) | (simp at c3; done) | (simp at c4; done)| (simp at c5; done))
  ·
   try simp only [cnd] at c2
   refine awl_skip ?_
   refine awl_seq ?_
   refine awl_regS _ rfl fun K hK => ?_
   try simp only [go_sem, simprocAttr, h16]
   repeat' (refine And.intro (by first | rfl | omega | (simp; done)) ?_)
   refine hK _ _ (.mk (awl_live' [4] fun ρ hL => ?_))
   try simp only [go_sem, simprocAttr, h16] at hL
   try clear h16
   have h4 := hL
   clear hL
   clear hK K
   refine awl_ret ?_
   refine ret0 (by simp only [go_sem, simprocAttr, h4]; exact rfl) ?_
   try simp only [go_sem, simprocAttr]
   all_goals (rw [decide_eq_true]; cases m; cases n; simp_all)
set_option maxHeartbeats 8000000 in
set_option maxRecDepth 100000 in
theorem sat_laws_eqState (s : Stt) (t : Stt) (hb : s.fit) : Sat Tryz.prog 36 [.agg s.cells, .agg t.cells] [] (.bool (decide (s = t))) [] := by
 refine sat_mk [.tmp 4] 0 28 Tryz.call36 Tryz.func36 Tryz.ntmps36 rfl rfl rfl rfl rfl ?_
 refine awl_live' [0, 1] fun ρ hL => ?_
 try simp only [go_sem, simprocAttr] at hL
 obtain ⟨h0, h1⟩ := hL
 refine awl_seq ?_
 refine awl_regS _ rfl fun K hK => ?_
 try simp only [go_sem, simprocAttr, h0, h1]
 repeat' (refine And.intro (by first | rfl | omega | (simp; done)) ?_)
 refine hK _ _ (.mk (awl_live' [2, 3] fun ρ hL => ?_))
 try simp only [go_sem, simprocAttr, h0, h1] at hL
 try clear h0 h1
 obtain ⟨h2, h3⟩ := hL
 clear hK K
 refine awl_seq ?_
 refine awl_seq ?_
 refine awl_regS _ rfl fun K hK => ?_
 try simp only [go_sem, simprocAttr, h2, h3]
 repeat' (refine And.intro (by first | rfl | omega | (simp; done)) ?_)
 refine opS_call_ro rfl (sat_laws_eqWordS s.regs t.regs (Nat.le_trans hb.1 (by decide))) ?ha ?hv ?hh ?_
 case ha => simp only [go_sem, simprocAttr, h2, h3]; first | done | rfl
 case hv => first | rfl | (simp only [go_sem]; done)
 case hh => first | rfl | (simp only [go_sem]; done)
 try simp only [go_sem, simprocAttr, h2, h3]
 repeat' (refine And.intro (by first | rfl | omega | (simp; done)) ?_)
 refine hK _ _ (.mk (awl_live' [2, 3, 10] fun ρ hL => ?_))
 try simp only [go_sem, simprocAttr, h2, h3] at hL
 try clear h2 h3
 obtain ⟨h2, h3, h10⟩ := hL
 clear hK K
 refine awl_cond h10 (fun c1 => ?_) (fun c1 => ?_)
 ·
  try simp only [cnd] at c1
  refine awl_seq ?_
  refine awl_regS _ rfl fun K hK => ?_
  try simp only [go_sem, simprocAttr, h2, h3, h10]
  repeat' (refine And.intro (by first | rfl | omega | (simp; done)) ?_)
  refine hK _ _ (.mk (awl_live' [4] fun ρ hL => ?_))
  try simp only [go_sem, simprocAttr, h2, h3, h10] at hL
  try clear h2 h3 h10
  have h4 := hL
  clear hL
  clear hK K
  refine awl_ret ?_
  refine ret0 (by simp only [go_sem, simprocAttr, h4]; exact rfl) ?_
  try simp only [go_sem, simprocAttr]
  all_goals (rw [decide_eq_false]; rintro rfl; first | exact c1 rfl | exact c2 rfl | exact c3 rfl | exact c4 rfl | exact c5 rfl | exact c6 rfl | exact c7 rfl | (simp at c1; done) | (simp at c2; done) | (simp at c3; done) | (simp at c4; done)| (simp at c5; done))
 ·
  try simp only [cnd] at c1
  refine awl_skip ?_
  refine awl_seq ?_
  refine awl_seq ?_
  refine awl_regS _ rfl fun K hK => ?_
  try simp only [go_sem, simprocAttr, h2, h3, h10]
  repeat' (refine And.intro (by first | rfl | omega | (simp; done)) ?_)
  refine opS_call_ro rfl (sat_laws_eqWord s.pc t.pc) ?ha ?hv ?hh ?_
  case ha => simp only [go_sem, simprocAttr, h2, h3, h10]; first | done | rfl
  case hv => first | rfl | (simp only [go_sem]; done)
  case hh => first | rfl | (simp only [go_sem]; done)
  try simp only [go_sem, simprocAttr, h2, h3, h10]
  repeat' (refine And.intro (by first | rfl | omega | (simp; done)) ?_)
  refine hK _ _ (.mk (awl_live' [2, 3, 16] fun ρ hL => ?_))
  try simp only [go_sem, simprocAttr, h2, h3, h10] at hL
  try clear h2 h3 h10
  obtain ⟨h2, h3, h16⟩ := hL
  clear hK K
  refine awl_cond h16 (fun c2 => ?_) (fun c2 => ?_)
  ·
   try simp only [cnd] at c2
   refine awl_seq ?_
   refine awl_regS _ rfl fun K hK => ?_
   try simp only [go_sem, simprocAttr, h2, h3, h16]
   repeat' (refine And.intro (by first | rfl | omega | (simp; done)) ?_)
   refine hK _ _ (.mk (awl_live' [4] fun ρ hL => ?_))
   try simp only [go_sem, simprocAttr, h2, h3, h16] at hL
   try clear h2 h3 h16
   have h4 := hL
   clear hL
   clear hK K
   refine awl_ret ?_
   refine ret0 (by simp only [go_sem, simprocAttr, h4]; exact rfl) ?_
   try simp only [go_sem, simprocAttr]
   all_goals (rw [decide_eq_false]; rintro rfl; first | exact c1 rfl | exact c2 rfl | exact c3 rfl | exact c4 rfl | exact c5 rfl | exact c6 rfl | exact c7 rfl | (simp at c1; done) | (simp at c2; done) | (simp at c3; done) | (simp at c4; done)| (simp at c5; done))
  ·
   try simp only [cnd] at c2
   refine awl_skip ?_
   refine awl_seq ?_
   refine awl_seq ?_
   refine awl_regS _ rfl fun K hK => ?_
   try simp only [go_sem, simprocAttr, h2, h3, h16]
   repeat' (refine And.intro (by first | rfl | omega | (simp; done)) ?_)
   refine opS_call_ro rfl (sat_laws_eqMemory s.mem t.mem hb.2) ?ha ?hv ?hh ?_
   case ha => simp only [go_sem, simprocAttr, h2, h3, h16]; first | done | rfl
   case hv => first | rfl | (simp only [go_sem]; done)
   case hh => first | rfl | (simp only [go_sem]; done)
   try simp only [go_sem, simprocAttr, h2, h3, h16]
   repeat' (refine And.intro (by first | rfl | omega | (simp; done)) ?_)
   refine hK _ _ (.mk (awl_live' [2, 3, 22] fun ρ hL => ?_))
   try simp only [go_sem, simprocAttr, h2, h3, h16] at hL
   try clear h2 h3 h16
   obtain ⟨h2, h3, h22⟩ := hL
   clear hK K
   refine awl_cond h22 (fun c3 => ?_) (fun c3 => ?_)
   ·
    try simp only [cnd] at c3
    refine awl_seq ?_
    refine awl_regS _ rfl fun K hK => ?_
    try simp only [go_sem, simprocAttr, h2, h3, h22]
    repeat' (refine And.intro (by first | rfl | omega | (simp; done)) ?_)
    refine hK _ _ (.mk (awl_live' [4] fun ρ hL => ?_))
    try simp only [go_sem, simprocAttr, h2, h3, h22] at hL
    try clear h2 h3 h22
    have h4 := hL
    clear hL
    clear hK K
    refine awl_ret ?_
    refine ret0 (by simp only [go_sem, simprocAttr, h4]; exact rfl) ?_
    try simp only [go_sem, simprocAttr]
    all_goals (rw [decide_eq_false]; rintro rfl; first | exact c1 rfl | exact c2 rfl | exact c3 rfl | exact c4 rfl | exact c5 rfl | exact c6 rfl | exact c7 rfl | (simp at c1; done) | (simp at c2; done) | (simp at c3; done) | (simp at c4; done)| (simp at c5; done))
   ·
    try simp only [cnd] at c3
    refine awl_skip ?_
    refine awl_seq ?_
    refine awl_seq ?_
    refine awl_regS _ rfl fun K hK => ?_
    try simp only [go_sem, simprocAttr, h2, h3, h22]
    repeat' (refine And.intro (by first | rfl | omega | (simp; done)) ?_)
    refine hK _ _ (.mk (awl_live' [27] fun ρ hL => ?_))
    try simp only [go_sem, simprocAttr, h2, h3, h22] at hL
    try clear h2 h3 h22
    have h27 := hL
    clear hL
    clear hK K
    refine awl_cond h27 (fun c4 => ?_) (fun c4 => ?_)
    ·
     try simp only [cnd] at c4
     refine awl_seq ?_
     refine awl_regS _ rfl fun K hK => ?_
     try simp only [go_sem, simprocAttr, h27]
     repeat' (refine And.intro (by first | rfl | omega | (simp; done)) ?_)
     refine hK _ _ (.mk (awl_live' [4] fun ρ hL => ?_))
     try simp only [go_sem, simprocAttr, h27] at hL
     try clear h27
     have h4 := hL
     clear hL
     clear hK K
     refine awl_ret ?_
     refine ret0 (by simp only [go_sem, simprocAttr, h4]; exact rfl) ?_
     try simp only [go_sem, simprocAttr]
     all_goals (rw [decide_eq_false]; rintro rfl; first | exact c1 rfl | exact c2 rfl | exact c3 rfl | exact c4 rfl | exact c5 rfl | exact c6 rfl | exact c7 rfl | (simp at c1; done) | (simp at c2; done) | (simp at c3; done) | (simp at c4; done)| (simp at c5; done))
    ·
     try simp only [cnd] at c4
     refine awl_skip ?_
     refine awl_seq ?_
     refine awl_regS _ rfl fun K hK => ?_
     try simp only [go_sem, simprocAttr, h27]
     repeat' (refine And.intro (by first | rfl | omega | (simp; done)) ?_)
     refine hK _ _ (.mk (awl_live' [4] fun ρ hL => ?_))
     try simp only [go_sem, simprocAttr, h27] at hL
     try clear h27
     have h4 := hL
     clear hL
     clear hK K
     refine awl_ret ?_
     refine ret0 (by simp only [go_sem, simprocAttr, h4]; exact rfl) ?_
     try simp only [go_sem, simprocAttr]
     all_goals (rw [decide_eq_true]; cases s; cases t; simp_all)
end Go.Proofs.YtopjagninmjkbaaGreat.AM
