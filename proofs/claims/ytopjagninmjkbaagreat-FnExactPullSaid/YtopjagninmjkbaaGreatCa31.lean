/- What the laws make, compare and count of commands. No conditions but those each theorem bears. -/
import Derived.Test.YtopjagninmjkbaaGreatFa
import Derived.Test.YtopjagninmjkbaaGreatSp13
import Derived.Test.YtopjagninmjkbaaGreatCa13
import Derived.Test.YtopjagninmjkbaaGreatCa16
set_option linter.unusedSimpArgs false
set_option linter.unusedVariables false
namespace Go.Proofs.YtopjagninmjkbaaGreat.AM
open Go

set_option maxHeartbeats 8000000 in
set_option maxRecDepth 100000 in
theorem sat_laws_toInsS (xs : List Ins) (hb : xs.length ≤ 1099511627776) : Sat Tryz.prog 8 [.sl xs.length xs.length (rows xs)] [] (.slice 0 0 xs.length 0) [⟨5, rows xs, true, false⟩] := by
 refine sat_mk [.tmp 2] 0 23 Tryz.call8 Tryz.func8 Tryz.ntmps8 rfl rfl rfl rfl rfl ?_
 refine awl_live' [0] fun ρ hL => ?_
 try simp only [go_sem, simprocAttr, List.length_append, List.length_take, List.length_replicate] at hL
 have h0 := hL
 clear hL
 refine awl_seq ?_
 refine awl_regS _ rfl fun K hK => ?_
 try simp only [go_sem, simprocAttr, h0, List.length_append, List.length_take, List.length_replicate]
 repeat' (refine And.intro (by first | rfl | omega | (simp; done)) ?_)
 refine hK _ _ (.mk (awl_live' [0] fun ρ hL => ?_))
 try simp only [go_sem, simprocAttr, h0, List.length_append, List.length_take, List.length_replicate] at hL
 try clear h0
 have h0 := hL
 clear hL
 clear hK K
 refine awl_seq ?_
 refine awl_regS _ rfl fun K hK => ?_
 try simp only [go_sem, simprocAttr, h0, List.length_append, List.length_take, List.length_replicate]
 repeat' (refine And.intro (by first | rfl | omega | (simp; done)) ?_)
 refine hK _ _ (.mk (awl_live' [0, 3] fun ρ hL => ?_))
 try simp only [go_sem, simprocAttr, h0, List.length_append, List.length_take, List.length_replicate] at hL
 try clear h0
 obtain ⟨h0, h3⟩ := hL
 clear hK K
 refine awl_seq ?_
 refine awl_seq ?_
 refine awl_regS _ rfl fun K hK => ?_
 try simp only [go_sem, simprocAttr, h0, h3, List.length_append, List.length_take, List.length_replicate]
 repeat' (refine And.intro (by first | rfl | omega | (simp; done)) ?_)
 refine hK _ _ (.mk (awl_live' [0, 3, 4] fun ρ hL => ?_))
 try simp only [go_sem, simprocAttr, h0, h3, List.length_append, List.length_take, List.length_replicate] at hL
 try clear h0 h3
 obtain ⟨h0, h3, h4⟩ := hL
 clear hK K
 have e1_0 := h0
 have e1_3 := h3
 refine awl_loopH (fun H0 n σ G => ∃ (i : Nat), n = xs.length - i ∧ (i ≤ xs.length) ∧ liveE [0, 3] σ ρ ∧ σ 4 = .int .i64 (i : Int) ∧ G = [⟨5, rows (xs.take i ++ List.replicate (xs.length - i) noIns), true, false⟩]) (fun H0 σ G => liveE [3] σ ρ ∧ G = [⟨5, rows xs, true, false⟩]) ((fun (i : Nat) => xs.length - i) 0) ?init1 (fun n ρ G hI => ?round1) (fun ρ G hJ => ?after1)
 case init1 => exact ⟨0, rfl, (Nat.zero_le _), liveE_refl _ _, (h4), rfl⟩
 case round1 =>
  obtain ⟨i, hn, i1_0, hL, k4, hG⟩ := hI
  subst hG
  try simp only [go_sem, simprocAttr, h0, h3, h4, List.length_append, List.length_take, List.length_replicate] at hL
  clear h0 h3 h4
  obtain ⟨h0, h3⟩ := hL
  have h4 := k4
  clear k4
  refine awl_seq ?_
  refine awl_seq ?_
  refine awl_regS _ rfl fun K hK => ?_
  try simp only [go_sem, simprocAttr, h0, h3, h4, List.length_append, List.length_take, List.length_replicate]
  repeat' (refine And.intro (by first | rfl | omega | (simp; done)) ?_)
  refine hK _ _ (.mk (awl_live' [0, 3, 4, 11] fun ρ hL => ?_))
  try simp only [go_sem, simprocAttr, h0, h3, h4, List.length_append, List.length_take, List.length_replicate] at hL
  try clear h0 h3 h4
  obtain ⟨h0, h3, h4, h11⟩ := hL
  clear hK K
  refine awl_cond h11 (fun c1 => ?_) (fun c1 => ?_)
  ·
   try simp only [cnd] at c1
   have hi1 : i < xs.length := by omega
   refine awl_skip ?_
   refine awl_seq ?_
   refine awl_block fun R1 hw1 hR1 => ?_
   refine awl_regS _ rfl fun K hK => ?_
   try simp only [go_sem, simprocAttr, h0, h3, h4, h11, hi1, List.length_append, List.length_take, List.length_replicate]
   repeat' (refine And.intro (by first | rfl | omega | (simp; done)) ?_)
   refine opS_call_ro rfl (sat_laws_toIns ?_) ?ha ?hv ?hh ?_
   case ha => simp only [go_sem, simprocAttr, h0, h3, h4, h11, hi1, List.length_append, List.length_take, List.length_replicate]; first | done | rfl
   case hv => first | rfl | (simp only [go_sem]; done)
   case hh => first | rfl | (simp only [go_sem]; done)
   try simp only [go_sem, simprocAttr, h0, h3, h4, h11, hi1, List.length_append, List.length_take, List.length_replicate]
   repeat' (refine And.intro (by first | rfl | omega | (simp; done)) ?_)
   refine hK _ _ (.mk (awl_live' [0, 3, 4] fun ρ hL => ?_))
   try simp only [go_sem, simprocAttr, h0, h3, h4, h11, hi1, List.length_append, List.length_take, List.length_replicate] at hL
   try clear h0 h3 h4 h11
   obtain ⟨h0, h3, h4⟩ := hL
   clear hK K
   refine awl_nil ?_
   refine blk_normal (hR1 _ _ (.mk ?_))
   have w1 : IntKind.i64.wrap ((i : Int) + 1) = ((i + 1 : Nat) : Int) := by rw [wrap64 (by omega)]; omega
   refine awl_regS _ rfl fun K hK => ?_
   try simp only [go_sem, simprocAttr, h0, h3, h4, hi1, w1, List.length_append, List.length_take, List.length_replicate]
   repeat' (refine And.intro (by first | rfl | omega | (simp; done)) ?_)
   refine hK _ _ (.mk (awl_live' [0, 3, 4] fun ρ hL => ?_))
   try simp only [go_sem, simprocAttr, h0, h3, h4, hi1, w1, List.length_append, List.length_take, List.length_replicate] at hL
   try clear h0 h3 h4
   obtain ⟨h0, h3, h4⟩ := hL
   clear hK K
   refine awl_nil ?_
   refine loop_again _ ?meas ⟨i + 1, rfl, (by omega), (by simp only [go_sem, simprocAttr, h0, h3, h4, hi1, List.length_append, List.length_take, List.length_replicate, e1_0, e1_3]), (h4), by rw [inss_put (by simp; omega), set_take (d := noIns) hi1 rfl]⟩
   case meas => subst hn; omega
  ·
   try simp only [cnd] at c1
   refine awl_exit ?_
   refine loop_break ?_
   exact ⟨(by simp only [go_sem, simprocAttr, h0, h3, h4, h11, List.length_append, List.length_take, List.length_replicate, e1_0, e1_3]), by rw [show i = xs.length by omega]; simp⟩
 case after1 =>
  obtain ⟨hL, hG⟩ := hJ
  subst hG
  try simp only [go_sem, simprocAttr, h0, h3, h4, List.length_append, List.length_take, List.length_replicate] at hL
  clear h0 h3 h4
  have h3 := hL
  clear hL
  refine awl_seq ?_
  refine awl_regS _ rfl fun K hK => ?_
  try simp only [go_sem, simprocAttr, h3, List.length_append, List.length_take, List.length_replicate]
  repeat' (refine And.intro (by first | rfl | omega | (simp; done)) ?_)
  refine hK _ _ (.mk (awl_live' [2] fun ρ hL => ?_))
  try simp only [go_sem, simprocAttr, h3, List.length_append, List.length_take, List.length_replicate] at hL
  try clear h3
  have h2 := hL
  clear hL
  clear hK K
  refine awl_ret ?_
  refine ret_wk (Wk.norm [] (RefE.refl.upd h2 (Ref.cap _ _ _ _ 0 (Nat.zero_le _)))) ?_
  refine retK [0] [0] rfl (by simp only [go_sem, simprocAttr, h2, List.length_append, List.length_take, List.length_replicate]; exact rfl) (by decide) (by first | rfl | (simp only [go_sem, simprocAttr, h2, List.length_append, List.length_take, List.length_replicate]; first | done | rfl)) (by first | rfl | (simp only [go_sem, simprocAttr, h2, List.length_append, List.length_take, List.length_replicate]; first | done | rfl)) ?_ ?_
  all_goals try simp only [go_sem, simprocAttr, h2, List.length_append, List.length_take, List.length_replicate]
  all_goals try clear hR1
  all_goals (first | done | rfl | (simp; done) | (simp [inR]; done) | (simp_all [inR]; done) | (simp [inR]; grind))
set_option maxHeartbeats 8000000 in
set_option maxRecDepth 100000 in
theorem sat_laws_eqInsS (xs : List Ins) (ys : List Ins) (hb : xs.length ≤ 1099511627776) : Sat Tryz.prog 12 [.sl xs.length xs.length (rows xs), .sl ys.length ys.length (rows ys)] [] (.bool (decide (xs = ys))) [] := by
 refine sat_mk [.tmp 4] 0 27 Tryz.call12 Tryz.func12 Tryz.ntmps12 rfl rfl rfl rfl rfl ?_
 refine awl_live' [0, 1] fun ρ hL => ?_
 try simp only [go_sem, simprocAttr] at hL
 obtain ⟨h0, h1⟩ := hL
 refine awl_seq ?_
 refine awl_regS _ rfl fun K hK => ?_
 try simp only [go_sem, simprocAttr, h0, h1]
 repeat' (refine And.intro (by first | rfl | omega | (simp; done)) ?_)
 refine hK _ _ (.mk (awl_live' [0, 1] fun ρ hL => ?_))
 try simp only [go_sem, simprocAttr, h0, h1] at hL
 try clear h0 h1
 obtain ⟨h0, h1⟩ := hL
 clear hK K
 refine awl_seq ?_
 refine awl_seq ?_
 refine awl_regS _ rfl fun K hK => ?_
 try simp only [go_sem, simprocAttr, h0, h1]
 repeat' (refine And.intro (by first | rfl | omega | (simp; done)) ?_)
 refine hK _ _ (.mk (awl_live' [0, 1, 10] fun ρ hL => ?_))
 try simp only [go_sem, simprocAttr, h0, h1] at hL
 try clear h0 h1
 obtain ⟨h0, h1, h10⟩ := hL
 clear hK K
 refine awl_cond h10 (fun c1 => ?_) (fun c1 => ?_)
 ·
  try simp only [cnd] at c1
  refine awl_seq ?_
  refine awl_regS _ rfl fun K hK => ?_
  try simp only [go_sem, simprocAttr, h0, h1, h10]
  repeat' (refine And.intro (by first | rfl | omega | (simp; done)) ?_)
  refine hK _ _ (.mk (awl_live' [4] fun ρ hL => ?_))
  try simp only [go_sem, simprocAttr, h0, h1, h10] at hL
  try clear h0 h1 h10
  have h4 := hL
  clear hL
  clear hK K
  refine awl_ret ?_
  refine ret0 (by simp only [go_sem, simprocAttr, h4]; exact rfl) ?_
  try simp only [go_sem, simprocAttr]
  all_goals (rw [decide_eq_false]; rintro rfl; exact c1 rfl)
 ·
  try simp only [cnd] at c1
  refine awl_skip ?_
  refine awl_seq ?_
  refine awl_seq ?_
  refine awl_regS _ rfl fun K hK => ?_
  try simp only [go_sem, simprocAttr, h0, h1, h10]
  repeat' (refine And.intro (by first | rfl | omega | (simp; done)) ?_)
  refine hK _ _ (.mk (awl_live' [0, 1, 5] fun ρ hL => ?_))
  try simp only [go_sem, simprocAttr, h0, h1, h10] at hL
  try clear h0 h1 h10
  obtain ⟨h0, h1, h5⟩ := hL
  clear hK K
  have e1_0 := h0
  have e1_1 := h1
  refine awl_loopH (fun H0 n σ G => ∃ (i : Nat), n = xs.length - i ∧ (i ≤ xs.length) ∧ (xs.take i = ys.take i) ∧ liveE [0, 1] σ ρ ∧ σ 5 = .int .i64 (i : Int) ∧ G = H0) (fun H0 σ G => (xs = ys) ∧ liveE [] σ ρ ∧ G = H0) ((fun (i : Nat) => xs.length - i) 0) ?init1 (fun n ρ G hI => ?round1) (fun ρ G hJ => ?after1)
  case init1 => exact ⟨0, rfl, (Nat.zero_le _), (by simp), liveE_refl _ _, (h5), rfl⟩
  case round1 =>
   obtain ⟨i, hn, i1_0, i1_1, hL, k5, hG⟩ := hI
   subst hG
   try simp only [go_sem, simprocAttr, h0, h1, h5] at hL
   clear h0 h1 h5
   obtain ⟨h0, h1⟩ := hL
   have h5 := k5
   clear k5
   refine awl_seq ?_
   refine awl_seq ?_
   refine awl_regS _ rfl fun K hK => ?_
   try simp only [go_sem, simprocAttr, h0, h1, h5]
   repeat' (refine And.intro (by first | rfl | omega | (simp; done)) ?_)
   refine hK _ _ (.mk (awl_live' [0, 1, 5, 14] fun ρ hL => ?_))
   try simp only [go_sem, simprocAttr, h0, h1, h5] at hL
   try clear h0 h1 h5
   obtain ⟨h0, h1, h5, h14⟩ := hL
   clear hK K
   refine awl_cond h14 (fun c2 => ?_) (fun c2 => ?_)
   ·
    try simp only [cnd] at c2
    have hi1 : i < xs.length := by omega
    refine awl_skip ?_
    refine awl_seq ?_
    refine awl_block fun R1 hw1 hR1 => ?_
    refine awl_seq ?_
    have hj : i < ys.length := by omega
    refine awl_regD mixed _ rfl fun K hK => ?_
    try simp only [go_sem, simprocAttr, h0, h1, h5, h14, hi1, hj]
    repeat' (refine And.intro (by first | omega | (exact ⟨[0, 0, 3, 7, 0, 0, 48, 112, 255, 511], by kernel_rfl⟩) | kernel_rfl) ?_)
    refine dS_call_ro rfl (sat_laws_eqIns ?_ ?_) ?ha ?hv ?hh ?_
    case ha => simp only [go_sem, simprocAttr, h0, h1, h5, h14, hi1, hj]; first | done | rfl
    case hv => first | rfl | (simp only [go_sem]; done)
    case hh => first | rfl | (simp only [go_sem]; done)
    try simp only [go_sem, simprocAttr, h0, h1, h5, h14, hi1, hj]
    repeat' (refine And.intro (by first | omega | (exact ⟨[0, 0, 3, 7, 0, 0, 48, 112, 255, 511], by kernel_rfl⟩) | kernel_rfl) ?_)
    refine hK _ _ (.mk (awl_live' [0, 1, 5, 26] fun ρ hL => ?_))
    try simp only [go_sem, simprocAttr, h0, h1, h5, h14, hi1, hj] at hL
    try clear h0 h1 h5 h14
    obtain ⟨h0, h1, h5, h26⟩ := hL
    clear hK K
    refine awl_cond h26 (fun c3 => ?_) (fun c3 => ?_)
    ·
     try simp only [cnd] at c3
     refine awl_seq ?_
     refine awl_regS _ rfl fun K hK => ?_
     try simp only [go_sem, simprocAttr, h0, h1, h5, h26, hi1]
     repeat' (refine And.intro (by first | rfl | omega | (simp; done)) ?_)
     refine hK _ _ (.mk (awl_live' [4] fun ρ hL => ?_))
     try simp only [go_sem, simprocAttr, h0, h1, h5, h26, hi1] at hL
     try clear h0 h1 h5 h26
     have h4 := hL
     clear hL
     clear hK K
     refine awl_ret ?_
     refine blk_ret ?_
     refine loop_ret ?_
     refine ret0 (by simp only [go_sem, simprocAttr, h4, hi1]; exact rfl) ?_
     try simp only [go_sem, simprocAttr]
     all_goals try clear hR1
     all_goals (rw [decide_eq_false]; rintro rfl; first | exact c3 rfl | (simp at c3; done))
    ·
     try simp only [cnd] at c3
     refine awl_skip ?_
     refine awl_nil ?_
     refine blk_normal (hR1 _ _ (.mk ?_))
     have w1 : IntKind.i64.wrap ((i : Int) + 1) = ((i + 1 : Nat) : Int) := by rw [wrap64 (by omega)]; omega
     refine awl_regS _ rfl fun K hK => ?_
     try simp only [go_sem, simprocAttr, h0, h1, h5, h26, hi1, w1]
     repeat' (refine And.intro (by first | rfl | omega | (simp; done)) ?_)
     refine hK _ _ (.mk (awl_live' [0, 1, 5] fun ρ hL => ?_))
     try simp only [go_sem, simprocAttr, h0, h1, h5, h26, hi1, w1] at hL
     try clear h0 h1 h5 h26
     obtain ⟨h0, h1, h5⟩ := hL
     clear hK K
     refine awl_nil ?_
     refine loop_again _ ?meas ⟨i + 1, rfl, (by omega), (by exact take_succ_eq (d := noIns) hi1 hj i1_1 (by simpa using c3)), (by simp only [go_sem, simprocAttr, h0, h1, h5, hi1, e1_0, e1_1]), (h5), rfl⟩
     case meas => subst hn; omega
   ·
    try simp only [cnd] at c2
    refine awl_exit ?_
    refine loop_break ?_
    exact ⟨(by exact eq_of_take (i := i) (by omega) (by omega) i1_1), (by simp only [go_sem, simprocAttr, h0, h1, h5, h14, e1_0, e1_1]), rfl⟩
  case after1 =>
   obtain ⟨j1_0, hL, hG⟩ := hJ
   subst hG
   clear h0 h1 h5
   clear hL
   refine awl_seq ?_
   refine awl_regS _ rfl fun K hK => ?_
   try simp only [go_sem, simprocAttr]
   repeat' (refine And.intro (by first | rfl | omega | (simp; done)) ?_)
   refine hK _ _ (.mk (awl_live' [4] fun ρ hL => ?_))
   try simp only [go_sem, simprocAttr] at hL
   have h4 := hL
   clear hL
   clear hK K
   refine awl_ret ?_
   refine ret0 (by simp only [go_sem, simprocAttr, h4]; exact rfl) ?_
   try simp only [go_sem, simprocAttr]
   all_goals try clear hR1
   all_goals (rw [decide_eq_true j1_0])
set_option maxHeartbeats 8000000 in
set_option maxRecDepth 100000 in
theorem sat_laws_szInsS (xs : List Ins) (l : Int) (hb : xs.length ≤ 9223372036854775807) (hl : leftOk l) : Sat Tryz.prog 5 [.sl xs.length xs.length (rows xs), .int .i64 l] [] (.int .i64 (szL l xs.length)) [] := by
 refine sat_mk [.tmp 4] 0 12 Tryz.call5 Tryz.func5 Tryz.ntmps5 rfl rfl rfl rfl rfl ?_
 refine awl_live' [0, 1] fun ρ hL => ?_
 try simp only [go_sem, simprocAttr] at hL
 obtain ⟨h0, h1⟩ := hL
 refine awl_seq ?_
 refine awl_regS _ rfl fun K hK => ?_
 try simp only [go_sem, simprocAttr, h0, h1]
 repeat' (refine And.intro (by first | rfl | omega | (simp; done)) ?_)
 refine hK _ _ (.mk (awl_live' [0, 1] fun ρ hL => ?_))
 try simp only [go_sem, simprocAttr, h0, h1] at hL
 try clear h0 h1
 obtain ⟨h0, h1⟩ := hL
 clear hK K
 refine awl_seq ?_
 have hl1 := hl.1
 have hl2 := hl.2
 have w0 : IntKind.i64.wrap (l - (xs.length : Int)) = l - (xs.length : Int) := wrap64 (by omega)
 refine awl_regS _ rfl fun K hK => ?_
 try simp only [go_sem, simprocAttr, h0, h1, w0]
 repeat' (refine And.intro (by first | rfl | omega | (simp; done)) ?_)
 refine hK _ _ (.mk (awl_live' [1] fun ρ hL => ?_))
 try simp only [go_sem, simprocAttr, h0, h1, w0] at hL
 try clear h0 h1
 have h1 := hL
 clear hL
 clear hK K
 refine awl_seq ?_
 refine awl_seq ?_
 refine awl_regS _ rfl fun K hK => ?_
 try simp only [go_sem, simprocAttr, h1]
 repeat' (refine And.intro (by first | rfl | omega | (simp; done)) ?_)
 refine hK _ _ (.mk (awl_live' [1, 10] fun ρ hL => ?_))
 try simp only [go_sem, simprocAttr, h1] at hL
 try clear h1
 obtain ⟨h1, h10⟩ := hL
 clear hK K
 refine awl_cond h10 (fun c1 => ?_) (fun c1 => ?_)
 ·
  try simp only [cnd] at c1
  refine awl_seq ?_
  refine awl_regS _ rfl fun K hK => ?_
  try simp only [go_sem, simprocAttr, h1, h10]
  repeat' (refine And.intro (by first | rfl | omega | (simp; done)) ?_)
  refine hK _ _ (.mk (awl_live' [4] fun ρ hL => ?_))
  try simp only [go_sem, simprocAttr, h1, h10] at hL
  try clear h1 h10
  have h4 := hL
  clear hL
  clear hK K
  refine awl_ret ?_
  refine ret0 (by simp only [go_sem, simprocAttr, h4]; exact rfl) ?_
  try simp only [go_sem, simprocAttr]
  all_goals (rw [szL, if_pos c1])
 ·
  try simp only [cnd] at c1
  refine awl_skip ?_
  refine awl_seq ?_
  refine awl_regS _ rfl fun K hK => ?_
  try simp only [go_sem, simprocAttr, h1, h10]
  repeat' (refine And.intro (by first | rfl | omega | (simp; done)) ?_)
  refine hK _ _ (.mk (awl_live' [4] fun ρ hL => ?_))
  try simp only [go_sem, simprocAttr, h1, h10] at hL
  try clear h1 h10
  have h4 := hL
  clear hL
  clear hK K
  refine awl_ret ?_
  refine ret0 (by simp only [go_sem, simprocAttr, h4]; exact rfl) ?_
  try simp only [go_sem, simprocAttr]
  all_goals (rw [szL, if_neg c1])
end Go.Proofs.YtopjagninmjkbaaGreat.AM
