/- What is guessed. No conditions but those each theorem bears. -/
import Derived.Test.YtopjagninmjkbaaGreatFa
import Derived.Test.YtopjagninmjkbaaGreatM4
import Derived.Test.YtopjagninmjkbaaGreatCa1
set_option linter.unusedSimpArgs false
set_option linter.unusedVariables false
namespace Go.Proofs.YtopjagninmjkbaaGreat.AM
open Go

set_option maxHeartbeats 8000000 in
set_option maxRecDepth 100000 in
theorem sat_spec_GuessOk (xs : List Int) (cap : Nat) (hb : xs.length ≤ 1099511627776) : Sat Tryz.prog 57 [.sl xs.length cap (ints xs)] [] (.bool (guessOk xs)) [] := by
 refine sat_mk [.tmp 2] 0 19 Tryz.call57 Tryz.func57 Tryz.ntmps57 rfl rfl rfl rfl rfl ?_
 refine awl_live' [0] fun ρ hL => ?_
 try simp only [go_sem, simprocAttr] at hL
 have h0 := hL
 clear hL
 refine awl_seq ?_
 refine awl_regS _ rfl fun K hK => ?_
 try simp only [go_sem, simprocAttr, h0]
 repeat' (refine And.intro (by first | rfl | omega | (simp; done)) ?_)
 refine hK _ _ (.mk (awl_live' [0] fun ρ hL => ?_))
 try simp only [go_sem, simprocAttr, h0] at hL
 try clear h0
 have h0 := hL
 clear hL
 clear hK K
 refine awl_seq ?_
 refine awl_seq ?_
 refine awl_regS _ rfl fun K hK => ?_
 try simp only [go_sem, simprocAttr, h0]
 repeat' (refine And.intro (by first | rfl | omega | (simp; done)) ?_)
 refine hK _ _ (.mk (awl_live' [0, 3] fun ρ hL => ?_))
 try simp only [go_sem, simprocAttr, h0] at hL
 try clear h0
 obtain ⟨h0, h3⟩ := hL
 clear hK K
 have e1_0 := h0
 refine awl_loopH (fun H0 n σ G => ∃ (i : Nat), n = xs.length - i ∧ (i ≤ xs.length) ∧ ((xs.take i).all (fun x => inR x (-1) 65535) = true) ∧ liveE [0] σ ρ ∧ σ 3 = .int .i64 (i : Int) ∧ G = H0) (fun H0 σ G => (xs.all (fun x => inR x (-1) 65535) = true) ∧ liveE [0] σ ρ ∧ G = H0) ((fun (i : Nat) => xs.length - i) 0) ?init1 (fun n ρ G hI => ?round1) (fun ρ G hJ => ?after1)
 case init1 => exact ⟨0, rfl, (Nat.zero_le _), (by simp), liveE_refl _ _, (h3), rfl⟩
 case round1 =>
  obtain ⟨i, hn, i1_0, i1_1, hL, k3, hG⟩ := hI
  subst hG
  try simp only [go_sem, simprocAttr, h0, h3] at hL
  clear h0 h3
  have h0 := hL
  clear hL
  have h3 := k3
  clear k3
  refine awl_seq ?_
  refine awl_seq ?_
  refine awl_regS _ rfl fun K hK => ?_
  try simp only [go_sem, simprocAttr, h0, h3]
  repeat' (refine And.intro (by first | rfl | omega | (simp; done)) ?_)
  refine hK _ _ (.mk (awl_live' [0, 3, 7] fun ρ hL => ?_))
  try simp only [go_sem, simprocAttr, h0, h3] at hL
  try clear h0 h3
  obtain ⟨h0, h3, h7⟩ := hL
  clear hK K
  refine awl_cond h7 (fun c1 => ?_) (fun c1 => ?_)
  ·
   try simp only [cnd] at c1
   have hi1 : i < xs.length := by omega
   refine awl_skip ?_
   refine awl_seq ?_
   refine awl_block fun R1 hw1 hR1 => ?_
   refine awl_seq ?_
   refine awl_regS _ rfl fun K hK => ?_
   try simp only [go_sem, simprocAttr, h0, h3, h7, hi1]
   repeat' (refine And.intro (by first | rfl | omega | (simp; done)) ?_)
   refine opS_call_ro rfl (sat_spec_l1In ?_ ?_ ?_) ?ha ?hv ?hh ?_
   case ha => simp only [go_sem, simprocAttr, h0, h3, h7, hi1]; first | done | rfl
   case hv => first | rfl | (simp only [go_sem]; done)
   case hh => first | rfl | (simp only [go_sem]; done)
   try simp only [go_sem, simprocAttr, h0, h3, h7, hi1]
   repeat' (refine And.intro (by first | rfl | omega | (simp; done)) ?_)
   refine hK _ _ (.mk (awl_live' [0, 3, 15] fun ρ hL => ?_))
   try simp only [go_sem, simprocAttr, h0, h3, h7, hi1] at hL
   try clear h0 h3 h7
   obtain ⟨h0, h3, h15⟩ := hL
   clear hK K
   refine awl_cond h15 (fun c2 => ?_) (fun c2 => ?_)
   ·
    try simp only [cnd] at c2
    refine awl_seq ?_
    refine awl_regS _ rfl fun K hK => ?_
    try simp only [go_sem, simprocAttr, h0, h3, h15, hi1]
    repeat' (refine And.intro (by first | rfl | omega | (simp; done)) ?_)
    refine hK _ _ (.mk (awl_live' [2] fun ρ hL => ?_))
    try simp only [go_sem, simprocAttr, h0, h3, h15, hi1] at hL
    try clear h0 h3 h15
    have h2 := hL
    clear hL
    clear hK K
    refine awl_ret ?_
    refine blk_ret ?_
    refine loop_ret ?_
    refine ret0 (by simp only [go_sem, simprocAttr, h2, hi1]; exact rfl) ?_
    try simp only [go_sem, simprocAttr]
    all_goals try clear hR1
    all_goals (rw [guessOk, all_false_of (d := 0) hi1 (by simpa using c2), Bool.and_false])
   ·
    try simp only [cnd] at c2
    refine awl_skip ?_
    refine awl_nil ?_
    refine blk_normal (hR1 _ _ (.mk ?_))
    have w1 : IntKind.i64.wrap ((i : Int) + 1) = ((i + 1 : Nat) : Int) := by rw [wrap64 (by omega)]; omega
    refine awl_regS _ rfl fun K hK => ?_
    try simp only [go_sem, simprocAttr, h0, h3, h15, hi1, w1]
    repeat' (refine And.intro (by first | rfl | omega | (simp; done)) ?_)
    refine hK _ _ (.mk (awl_live' [0, 3] fun ρ hL => ?_))
    try simp only [go_sem, simprocAttr, h0, h3, h15, hi1, w1] at hL
    try clear h0 h3 h15
    obtain ⟨h0, h3⟩ := hL
    clear hK K
    refine awl_nil ?_
    refine loop_again _ ?meas ⟨i + 1, rfl, (by omega), (by exact all_take_succ (d := 0) hi1 i1_1 (by simpa using c2)), (by simp only [go_sem, simprocAttr, h0, h3, hi1, e1_0]), (h3), rfl⟩
    case meas => subst hn; omega
  ·
   try simp only [cnd] at c1
   refine awl_exit ?_
   refine loop_break ?_
   exact ⟨(by exact all_of_take (by omega) i1_1), (by simp only [go_sem, simprocAttr, h0, h3, h7, e1_0]), rfl⟩
 case after1 =>
  obtain ⟨j1_0, hL, hG⟩ := hJ
  subst hG
  try simp only [go_sem, simprocAttr, h0, h3] at hL
  clear h0 h3
  have h0 := hL
  clear hL
  refine awl_seq ?_
  refine awl_regS _ rfl fun K hK => ?_
  try simp only [go_sem, simprocAttr, h0]
  repeat' (refine And.intro (by first | rfl | omega | (simp; done)) ?_)
  refine hK _ _ (.mk (awl_live' [2] fun ρ hL => ?_))
  try simp only [go_sem, simprocAttr, h0] at hL
  try clear h0
  have h2 := hL
  clear hL
  clear hK K
  refine awl_ret ?_
  refine ret0 (by simp only [go_sem, simprocAttr, h2]; exact rfl) ?_
  try simp only [go_sem, simprocAttr]
  all_goals try clear hR1
  all_goals (rw [guessOk, j1_0, Bool.and_true]; simp; omega)
set_option maxHeartbeats 8000000 in
set_option maxRecDepth 100000 in
theorem sat_laws_toIntS (xs : List Int) (cap : Nat) (hb : xs.length ≤ 1099511627776) : Sat Tryz.prog 30 [.sl xs.length cap (ints xs)] [] (.slice 0 0 xs.length 0) [⟨1, ints xs, true, false⟩] := by
 refine sat_mk [.tmp 2] 0 22 Tryz.call30 Tryz.func30 Tryz.ntmps30 rfl rfl rfl rfl rfl ?_
 refine awl_live' [0] fun ρ hL => ?_
 try simp only [go_sem, simprocAttr, zero_ints, List.length_append, List.length_take, List.length_replicate] at hL
 have h0 := hL
 clear hL
 refine awl_seq ?_
 refine awl_regS _ rfl fun K hK => ?_
 try simp only [go_sem, simprocAttr, h0, zero_ints, List.length_append, List.length_take, List.length_replicate]
 repeat' (refine And.intro (by first | rfl | omega | (simp; done)) ?_)
 refine hK _ _ (.mk (awl_live' [0] fun ρ hL => ?_))
 try simp only [go_sem, simprocAttr, h0, zero_ints, List.length_append, List.length_take, List.length_replicate] at hL
 try clear h0
 have h0 := hL
 clear hL
 clear hK K
 refine awl_seq ?_
 refine awl_regS _ rfl fun K hK => ?_
 try simp only [go_sem, simprocAttr, h0, zero_ints, List.length_append, List.length_take, List.length_replicate]
 repeat' (refine And.intro (by first | rfl | omega | (simp; done)) ?_)
 refine hK _ _ (.mk (awl_live' [0, 3] fun ρ hL => ?_))
 try simp only [go_sem, simprocAttr, h0, zero_ints, List.length_append, List.length_take, List.length_replicate] at hL
 try clear h0
 obtain ⟨h0, h3⟩ := hL
 clear hK K
 refine awl_seq ?_
 refine awl_seq ?_
 refine awl_regS _ rfl fun K hK => ?_
 try simp only [go_sem, simprocAttr, h0, h3, zero_ints, List.length_append, List.length_take, List.length_replicate]
 repeat' (refine And.intro (by first | rfl | omega | (simp; done)) ?_)
 refine hK _ _ (.mk (awl_live' [0, 3, 4] fun ρ hL => ?_))
 try simp only [go_sem, simprocAttr, h0, h3, zero_ints, List.length_append, List.length_take, List.length_replicate] at hL
 try clear h0 h3
 obtain ⟨h0, h3, h4⟩ := hL
 clear hK K
 have e1_0 := h0
 have e1_3 := h3
 refine awl_loopH (fun H0 n σ G => ∃ (i : Nat), n = xs.length - i ∧ (i ≤ xs.length) ∧ liveE [0, 3] σ ρ ∧ σ 4 = .int .i64 (i : Int) ∧ G = [⟨1, ints (xs.take i ++ List.replicate (xs.length - i) 0), true, false⟩]) (fun H0 σ G => liveE [3] σ ρ ∧ G = [⟨1, ints xs, true, false⟩]) ((fun (i : Nat) => xs.length - i) 0) ?init1 (fun n ρ G hI => ?round1) (fun ρ G hJ => ?after1)
 case init1 => exact ⟨0, rfl, (Nat.zero_le _), liveE_refl _ _, (h4), rfl⟩
 case round1 =>
  obtain ⟨i, hn, i1_0, hL, k4, hG⟩ := hI
  subst hG
  try simp only [go_sem, simprocAttr, h0, h3, h4, zero_ints, List.length_append, List.length_take, List.length_replicate] at hL
  clear h0 h3 h4
  obtain ⟨h0, h3⟩ := hL
  have h4 := k4
  clear k4
  refine awl_seq ?_
  refine awl_seq ?_
  refine awl_regS _ rfl fun K hK => ?_
  try simp only [go_sem, simprocAttr, h0, h3, h4, zero_ints, List.length_append, List.length_take, List.length_replicate]
  repeat' (refine And.intro (by first | rfl | omega | (simp; done)) ?_)
  refine hK _ _ (.mk (awl_live' [0, 3, 4, 11] fun ρ hL => ?_))
  try simp only [go_sem, simprocAttr, h0, h3, h4, zero_ints, List.length_append, List.length_take, List.length_replicate] at hL
  try clear h0 h3 h4
  obtain ⟨h0, h3, h4, h11⟩ := hL
  clear hK K
  refine awl_cond h11 (fun c1 => ?_) (fun c1 => ?_)
  ·
   try simp only [cnd] at c1
   have hi1 : i < xs.length := by omega
   refine awl_skip ?_
   refine awl_seq ?_
   refine awl_block fun R1 hw1 hR1 => ?_
   refine awl_regS _ rfl fun K hK => ?_
   try simp only [go_sem, simprocAttr, h0, h3, h4, h11, hi1, zero_ints, List.length_append, List.length_take, List.length_replicate]
   repeat' (refine And.intro (by first | rfl | omega | (simp; done)) ?_)
   refine hK _ _ (.mk (awl_live' [0, 3, 4] fun ρ hL => ?_))
   try simp only [go_sem, simprocAttr, h0, h3, h4, h11, hi1, zero_ints, List.length_append, List.length_take, List.length_replicate] at hL
   try clear h0 h3 h4 h11
   obtain ⟨h0, h3, h4⟩ := hL
   clear hK K
   refine awl_nil ?_
   refine blk_normal (hR1 _ _ (.mk ?_))
   have w1 : IntKind.i64.wrap ((i : Int) + 1) = ((i + 1 : Nat) : Int) := by rw [wrap64 (by omega)]; omega
   refine awl_regS _ rfl fun K hK => ?_
   try simp only [go_sem, simprocAttr, h0, h3, h4, hi1, w1, zero_ints, List.length_append, List.length_take, List.length_replicate]
   repeat' (refine And.intro (by first | rfl | omega | (simp; done)) ?_)
   refine hK _ _ (.mk (awl_live' [0, 3, 4] fun ρ hL => ?_))
   try simp only [go_sem, simprocAttr, h0, h3, h4, hi1, w1, zero_ints, List.length_append, List.length_take, List.length_replicate] at hL
   try clear h0 h3 h4
   obtain ⟨h0, h3, h4⟩ := hL
   clear hK K
   refine awl_nil ?_
   refine loop_again _ ?meas ⟨i + 1, rfl, (by omega), (by simp only [go_sem, simprocAttr, h0, h3, h4, hi1, zero_ints, List.length_append, List.length_take, List.length_replicate, e1_0, e1_3]), (h4), by rw [put_ints (by simp; omega), set_take (d := 0) hi1 rfl]⟩
   case meas => subst hn; omega
  ·
   try simp only [cnd] at c1
   refine awl_exit ?_
   refine loop_break ?_
   exact ⟨(by simp only [go_sem, simprocAttr, h0, h3, h4, h11, zero_ints, List.length_append, List.length_take, List.length_replicate, e1_0, e1_3]), by rw [show i = xs.length by omega]; simp⟩
 case after1 =>
  obtain ⟨hL, hG⟩ := hJ
  subst hG
  try simp only [go_sem, simprocAttr, h0, h3, h4, zero_ints, List.length_append, List.length_take, List.length_replicate] at hL
  clear h0 h3 h4
  have h3 := hL
  clear hL
  refine awl_seq ?_
  refine awl_regS _ rfl fun K hK => ?_
  try simp only [go_sem, simprocAttr, h3, zero_ints, List.length_append, List.length_take, List.length_replicate]
  repeat' (refine And.intro (by first | rfl | omega | (simp; done)) ?_)
  refine hK _ _ (.mk (awl_live' [2] fun ρ hL => ?_))
  try simp only [go_sem, simprocAttr, h3, zero_ints, List.length_append, List.length_take, List.length_replicate] at hL
  try clear h3
  have h2 := hL
  clear hL
  clear hK K
  refine awl_ret ?_
  refine ret_wk (Wk.norm [] (RefE.refl.upd h2 (Ref.cap _ _ _ _ 0 (Nat.zero_le _)))) ?_
  refine retK [0] [0] rfl (by simp only [go_sem, simprocAttr, h2, zero_ints, List.length_append, List.length_take, List.length_replicate]; exact rfl) (by decide) (by first | rfl | (simp only [go_sem, simprocAttr, h2, zero_ints, List.length_append, List.length_take, List.length_replicate]; first | done | rfl)) (by first | rfl | (simp only [go_sem, simprocAttr, h2, zero_ints, List.length_append, List.length_take, List.length_replicate]; first | done | rfl)) ?_ ?_
  all_goals try simp only [go_sem, simprocAttr, h2, zero_ints, List.length_append, List.length_take, List.length_replicate]
  all_goals try clear hR1
  all_goals (first | done | rfl | (simp; done) | (simp [inR]; done) | (simp_all [inR]; done) | (simp [inR]; grind))
set_option maxHeartbeats 8000000 in
set_option maxRecDepth 100000 in
theorem sat_laws_eqIntS (xs : List Int) (ys : List Int) (c : Nat) (d : Nat) (hb : xs.length ≤ 1099511627776) : Sat Tryz.prog 39 [.sl xs.length c (ints xs), .sl ys.length d (ints ys)] [] (.bool (decide (xs = ys))) [] := by
 refine sat_mk [.tmp 4] 0 26 Tryz.call39 Tryz.func39 Tryz.ntmps39 rfl rfl rfl rfl rfl ?_
 refine awl_live' [0, 1] fun ρ hL => ?_
 try simp only [go_sem, simprocAttr] at hL
 obtain ⟨h0, h1⟩ := hL
 refine awl_seq ?_
 refine awl_regS _ rfl fun K hK => ?_
 try simp only [go_sem, simprocAttr, h0, h1]
 repeat' (refine And.intro (by first | rfl | omega | (simp; done)) ?_)
 refine hK _ _ (.mk (awl_live' [0, 1] fun ρ hL => ?_))
 try simp only [go_sem, simprocAttr, h0, h1] at hL
 try clear h0 h1
 obtain ⟨h0, h1⟩ := hL
 clear hK K
 refine awl_seq ?_
 refine awl_seq ?_
 refine awl_regS _ rfl fun K hK => ?_
 try simp only [go_sem, simprocAttr, h0, h1]
 repeat' (refine And.intro (by first | rfl | omega | (simp; done)) ?_)
 refine hK _ _ (.mk (awl_live' [0, 1, 10] fun ρ hL => ?_))
 try simp only [go_sem, simprocAttr, h0, h1] at hL
 try clear h0 h1
 obtain ⟨h0, h1, h10⟩ := hL
 clear hK K
 refine awl_cond h10 (fun c1 => ?_) (fun c1 => ?_)
 ·
  try simp only [cnd] at c1
  refine awl_seq ?_
  refine awl_regS _ rfl fun K hK => ?_
  try simp only [go_sem, simprocAttr, h0, h1, h10]
  repeat' (refine And.intro (by first | rfl | omega | (simp; done)) ?_)
  refine hK _ _ (.mk (awl_live' [4] fun ρ hL => ?_))
  try simp only [go_sem, simprocAttr, h0, h1, h10] at hL
  try clear h0 h1 h10
  have h4 := hL
  clear hL
  clear hK K
  refine awl_ret ?_
  refine ret0 (by simp only [go_sem, simprocAttr, h4]; exact rfl) ?_
  try simp only [go_sem, simprocAttr]
  all_goals (rw [decide_eq_false]; rintro rfl; exact c1 rfl)
 ·
  try simp only [cnd] at c1
  refine awl_skip ?_
  refine awl_seq ?_
  refine awl_seq ?_
  refine awl_regS _ rfl fun K hK => ?_
  try simp only [go_sem, simprocAttr, h0, h1, h10]
  repeat' (refine And.intro (by first | rfl | omega | (simp; done)) ?_)
  refine hK _ _ (.mk (awl_live' [0, 1, 5] fun ρ hL => ?_))
  try simp only [go_sem, simprocAttr, h0, h1, h10] at hL
  try clear h0 h1 h10
  obtain ⟨h0, h1, h5⟩ := hL
  clear hK K
  have e1_0 := h0
  have e1_1 := h1
  refine awl_loopH (fun H0 n σ G => ∃ (i : Nat), n = xs.length - i ∧ (i ≤ xs.length) ∧ (xs.take i = ys.take i) ∧ liveE [0, 1] σ ρ ∧ σ 5 = .int .i64 (i : Int) ∧ G = H0) (fun H0 σ G => (xs = ys) ∧ liveE [] σ ρ ∧ G = H0) ((fun (i : Nat) => xs.length - i) 0) ?init1 (fun n ρ G hI => ?round1) (fun ρ G hJ => ?after1)
  case init1 => exact ⟨0, rfl, (Nat.zero_le _), (by simp), liveE_refl _ _, (h5), rfl⟩
  case round1 =>
   obtain ⟨i, hn, i1_0, i1_1, hL, k5, hG⟩ := hI
   subst hG
   try simp only [go_sem, simprocAttr, h0, h1, h5] at hL
   clear h0 h1 h5
   obtain ⟨h0, h1⟩ := hL
   have h5 := k5
   clear k5
   refine awl_seq ?_
   refine awl_seq ?_
   refine awl_regS _ rfl fun K hK => ?_
   try simp only [go_sem, simprocAttr, h0, h1, h5]
   repeat' (refine And.intro (by first | rfl | omega | (simp; done)) ?_)
   refine hK _ _ (.mk (awl_live' [0, 1, 5, 14] fun ρ hL => ?_))
   try simp only [go_sem, simprocAttr, h0, h1, h5] at hL
   try clear h0 h1 h5
   obtain ⟨h0, h1, h5, h14⟩ := hL
   clear hK K
   refine awl_cond h14 (fun c2 => ?_) (fun c2 => ?_)
   ·
    try simp only [cnd] at c2
    have hi1 : i < xs.length := by omega
    refine awl_skip ?_
    refine awl_seq ?_
    refine awl_block fun R1 hw1 hR1 => ?_
    refine awl_seq ?_
    have hj : i < ys.length := by omega
    refine awl_regD mixed _ rfl fun K hK => ?_
    try simp only [go_sem, simprocAttr, h0, h1, h5, h14, hi1, hj]
    repeat' (refine And.intro (by first | omega | (exact ⟨[0, 0, 3, 7, 0, 0, 48, 112, 255], by kernel_rfl⟩) | kernel_rfl) ?_)
    refine hK _ _ (.mk (awl_live' [0, 1, 5, 25] fun ρ hL => ?_))
    try simp only [go_sem, simprocAttr, h0, h1, h5, h14, hi1, hj] at hL
    try clear h0 h1 h5 h14
    obtain ⟨h0, h1, h5, h25⟩ := hL
    clear hK K
    refine awl_cond h25 (fun c3 => ?_) (fun c3 => ?_)
    ·
     try simp only [cnd] at c3
     refine awl_seq ?_
     refine awl_regS _ rfl fun K hK => ?_
     try simp only [go_sem, simprocAttr, h0, h1, h5, h25, hi1]
     repeat' (refine And.intro (by first | rfl | omega | (simp; done)) ?_)
     refine hK _ _ (.mk (awl_live' [4] fun ρ hL => ?_))
     try simp only [go_sem, simprocAttr, h0, h1, h5, h25, hi1] at hL
     try clear h0 h1 h5 h25
     have h4 := hL
     clear hL
     clear hK K
     refine awl_ret ?_
     refine blk_ret ?_
     refine loop_ret ?_
     refine ret0 (by simp only [go_sem, simprocAttr, h4, hi1]; exact rfl) ?_
     try simp only [go_sem, simprocAttr]
     all_goals try clear hR1
     all_goals (rw [decide_eq_false]; rintro rfl; exact c3 rfl)
    ·
     try simp only [cnd] at c3
     refine awl_skip ?_
     refine awl_nil ?_
     refine blk_normal (hR1 _ _ (.mk ?_))
     have w1 : IntKind.i64.wrap ((i : Int) + 1) = ((i + 1 : Nat) : Int) := by rw [wrap64 (by omega)]; omega
     refine awl_regS _ rfl fun K hK => ?_
     try simp only [go_sem, simprocAttr, h0, h1, h5, h25, hi1, w1]
     repeat' (refine And.intro (by first | rfl | omega | (simp; done)) ?_)
     refine hK _ _ (.mk (awl_live' [0, 1, 5] fun ρ hL => ?_))
     try simp only [go_sem, simprocAttr, h0, h1, h5, h25, hi1, w1] at hL
     try clear h0 h1 h5 h25
     obtain ⟨h0, h1, h5⟩ := hL
     clear hK K
     refine awl_nil ?_
     refine loop_again _ ?meas ⟨i + 1, rfl, (by omega), (by exact take_succ_eq (d := 0) hi1 hj i1_1 (by simpa using c3)), (by simp only [go_sem, simprocAttr, h0, h1, h5, hi1, e1_0, e1_1]), (h5), rfl⟩
     case meas => subst hn; omega
   ·
    try simp only [cnd] at c2
    refine awl_exit ?_
    refine loop_break ?_
    exact ⟨(by exact eq_of_take (i := i) (by omega) (by omega) i1_1), (by simp only [go_sem, simprocAttr, h0, h1, h5, h14, e1_0, e1_1]), rfl⟩
  case after1 =>
   obtain ⟨j1_0, hL, hG⟩ := hJ
   subst hG
   clear h0 h1 h5
   clear hL
   refine awl_seq ?_
   refine awl_regS _ rfl fun K hK => ?_
   try simp only [go_sem, simprocAttr]
   repeat' (refine And.intro (by first | rfl | omega | (simp; done)) ?_)
   refine hK _ _ (.mk (awl_live' [4] fun ρ hL => ?_))
   try simp only [go_sem, simprocAttr] at hL
   have h4 := hL
   clear hL
   clear hK K
   refine awl_ret ?_
   refine ret0 (by simp only [go_sem, simprocAttr, h4]; exact rfl) ?_
   try simp only [go_sem, simprocAttr]
   all_goals try clear hR1
   all_goals (rw [decide_eq_true j1_0])
set_option maxHeartbeats 8000000 in
set_option maxRecDepth 100000 in
theorem sat_slices_IndexFunc_int_int (xs : List Int) (c : Nat) (g : FuncId) (p : Int → Bool) (hb : xs.length ≤ 1099511627776) (hg : ∀ x, Sat Tryz.prog g [.int .i64 x] [] (.bool (p x)) []) : Sat Tryz.prog 121 [.sl xs.length c (ints xs), .func g [] []] [] (.int .i64 (firstAt p xs 0)) [] := by
 refine sat_mk [.tmp 4] 0 19 Tryz.call121 Tryz.func121 Tryz.ntmps121 rfl rfl rfl rfl rfl ?_
 refine awl_live' [0, 1] fun ρ hL => ?_
 try simp only [go_sem, simprocAttr] at hL
 obtain ⟨h0, h1⟩ := hL
 refine awl_seq ?_
 refine awl_regS _ rfl fun K hK => ?_
 try simp only [go_sem, simprocAttr, h0, h1]
 repeat' (refine And.intro (by first | rfl | omega | (simp; done)) ?_)
 refine hK _ _ (.mk (awl_live' [0, 1] fun ρ hL => ?_))
 try simp only [go_sem, simprocAttr, h0, h1] at hL
 try clear h0 h1
 obtain ⟨h0, h1⟩ := hL
 clear hK K
 refine awl_seq ?_
 refine awl_seq ?_
 refine awl_regS _ rfl fun K hK => ?_
 try simp only [go_sem, simprocAttr, h0, h1]
 repeat' (refine And.intro (by first | rfl | omega | (simp; done)) ?_)
 refine hK _ _ (.mk (awl_live' [0, 1, 7, 8] fun ρ hL => ?_))
 try simp only [go_sem, simprocAttr, h0, h1] at hL
 try clear h0 h1
 obtain ⟨h0, h1, h7, h8⟩ := hL
 clear hK K
 have e1_0 := h0
 have e1_1 := h1
 have e1_7 := h7
 refine awl_loopH (fun H0 n σ G => ∃ (i : Nat), n = xs.length - i ∧ (i ≤ xs.length) ∧ (firstAt p (xs.drop i) i = firstAt p xs 0) ∧ liveE [0, 1, 7] σ ρ ∧ σ 8 = .int .i64 (i : Int) ∧ G = H0) (fun H0 σ G => (firstAt p xs 0 = -1) ∧ liveE [] σ ρ ∧ G = H0) ((fun (i : Nat) => xs.length - i) 0) ?init1 (fun n ρ G hI => ?round1) (fun ρ G hJ => ?after1)
 case init1 => exact ⟨0, rfl, (Nat.zero_le _), (by simp), liveE_refl _ _, (h8), rfl⟩
 case round1 =>
  obtain ⟨i, hn, i1_0, i1_1, hL, k8, hG⟩ := hI
  subst hG
  try simp only [go_sem, simprocAttr, h0, h1, h7, h8] at hL
  clear h0 h1 h7 h8
  obtain ⟨h0, h1, h7⟩ := hL
  have h8 := k8
  clear k8
  refine awl_seq ?_
  refine awl_regS _ rfl fun K hK => ?_
  try simp only [go_sem, simprocAttr, h0, h1, h7, h8]
  repeat' (refine And.intro (by first | rfl | omega | (simp; done)) ?_)
  refine hK _ _ (.mk (awl_live' [0, 1, 7, 8, 9] fun ρ hL => ?_))
  try simp only [go_sem, simprocAttr, h0, h1, h7, h8] at hL
  try clear h0 h1 h7 h8
  obtain ⟨h0, h1, h7, h8, h9⟩ := hL
  clear hK K
  refine awl_seq ?_
  refine awl_cond h9 (fun c1 => ?_) (fun c1 => ?_)
  ·
   try simp only [cnd] at c1
   have hi1 : i < xs.length := by omega
   refine awl_skip ?_
   refine awl_seq ?_
   refine awl_block fun R1 hw1 hR1 => ?_
   refine awl_seq ?_
   refine awl_regS _ rfl fun K hK => ?_
   try simp only [go_sem, simprocAttr, h0, h1, h7, h8, h9, hi1]
   repeat' (refine And.intro (by first | rfl | omega | (simp; done)) ?_)
   refine hK _ _ (.mk (awl_live' [0, 1, 5, 7, 8] fun ρ hL => ?_))
   try simp only [go_sem, simprocAttr, h0, h1, h7, h8, h9, hi1] at hL
   try clear h0 h1 h7 h8 h9
   obtain ⟨h0, h1, h5, h7, h8⟩ := hL
   clear hK K
   refine awl_seq ?_
   refine awl_regS _ rfl fun K hK => ?_
   try simp only [go_sem, simprocAttr, h0, h1, h5, h7, h8, hi1]
   repeat' (refine And.intro (by first | rfl | omega | (simp; done)) ?_)
   refine opS_call_ro (by simp only [go_sem, simprocAttr, h0, h1, h5, h7, h8, hi1]; exact rfl) (hg ?_) ?ha ?hv ?hh ?_
   case ha => simp only [go_sem, simprocAttr, h0, h1, h5, h7, h8, hi1]; first | done | rfl
   case hv => first | rfl | (simp only [go_sem]; done)
   case hh => first | rfl | (simp only [go_sem]; done)
   try simp only [go_sem, simprocAttr, h0, h1, h5, h7, h8, hi1]
   repeat' (refine And.intro (by first | rfl | omega | (simp; done)) ?_)
   refine hK _ _ (.mk (awl_live' [0, 1, 5, 7, 8, 16] fun ρ hL => ?_))
   try simp only [go_sem, simprocAttr, h0, h1, h5, h7, h8, hi1] at hL
   try clear h0 h1 h5 h7 h8
   obtain ⟨h0, h1, h5, h7, h8, h16⟩ := hL
   clear hK K
   refine awl_cond h16 (fun c2 => ?_) (fun c2 => ?_)
   ·
    try simp only [cnd] at c2
    refine awl_seq ?_
    refine awl_regS _ rfl fun K hK => ?_
    try simp only [go_sem, simprocAttr, h0, h1, h5, h7, h8, h16, hi1]
    repeat' (refine And.intro (by first | rfl | omega | (simp; done)) ?_)
    refine hK _ _ (.mk (awl_live' [4] fun ρ hL => ?_))
    try simp only [go_sem, simprocAttr, h0, h1, h5, h7, h8, h16, hi1] at hL
    try clear h0 h1 h5 h7 h8 h16
    have h4 := hL
    clear hL
    clear hK K
    refine awl_ret ?_
    refine blk_ret ?_
    refine loop_ret ?_
    refine ret0 (by simp only [go_sem, simprocAttr, h4, hi1]; exact rfl) ?_
    try simp only [go_sem, simprocAttr]
    all_goals try clear hR1
    all_goals (have := firstAt_drop (p := p) (d := 0) xs i 0 hi1; rw [← i1_1]; simp only [Nat.zero_add] at this; rw [this, if_pos (by simpa using c2)])
   ·
    try simp only [cnd] at c2
    refine awl_skip ?_
    refine awl_nil ?_
    refine blk_normal (hR1 _ _ (.mk ?_))
    have w1 : IntKind.i64.wrap ((i : Int) + 1) = ((i + 1 : Nat) : Int) := by rw [wrap64 (by omega)]; omega
    refine awl_regS _ rfl fun K hK => ?_
    try simp only [go_sem, simprocAttr, h0, h1, h5, h7, h8, h16, hi1, w1]
    repeat' (refine And.intro (by first | rfl | omega | (simp; done)) ?_)
    refine hK _ _ (.mk (awl_live' [0, 1, 7, 8] fun ρ hL => ?_))
    try simp only [go_sem, simprocAttr, h0, h1, h5, h7, h8, h16, hi1, w1] at hL
    try clear h0 h1 h5 h7 h8 h16
    obtain ⟨h0, h1, h7, h8⟩ := hL
    clear hK K
    refine awl_nil ?_
    refine loop_again _ ?meas ⟨i + 1, rfl, (by omega), (by have := firstAt_drop (p := p) (d := 0) xs i 0 hi1; rw [← i1_1]; simp only [Nat.zero_add] at this; rw [this, if_neg (by simpa using c2)]), (by simp only [go_sem, simprocAttr, h0, h1, h7, h8, hi1, e1_0, e1_1, e1_7]), (h8), rfl⟩
    case meas => subst hn; omega
  ·
   try simp only [cnd] at c1
   refine awl_exit ?_
   refine loop_break ?_
   exact ⟨(by rw [← i1_1, List.drop_of_length_le (by omega)]; rfl), (by simp only [go_sem, simprocAttr, h0, h1, h7, h8, h9, e1_0, e1_1, e1_7]), rfl⟩
 case after1 =>
  obtain ⟨j1_0, hL, hG⟩ := hJ
  subst hG
  clear h0 h1 h7 h8
  clear hL
  refine awl_seq ?_
  refine awl_regS _ rfl fun K hK => ?_
  try simp only [go_sem, simprocAttr]
  repeat' (refine And.intro (by first | rfl | omega | (simp; done)) ?_)
  refine hK _ _ (.mk (awl_live' [4] fun ρ hL => ?_))
  try simp only [go_sem, simprocAttr] at hL
  have h4 := hL
  clear hL
  clear hK K
  refine awl_ret ?_
  refine ret0 (by simp only [go_sem, simprocAttr, h4]; exact rfl) ?_
  try simp only [go_sem, simprocAttr]
  all_goals try clear hR1
  all_goals (rw [j1_0])
set_option maxHeartbeats 8000000 in
set_option maxRecDepth 100000 in
theorem sat_impl_GuessOk_1 (x : Int)  : Sat Tryz.prog 104 [.int .i64 x] [] (.bool (!inR x (-1) 65535)) [] := by
 refine sat_mk [.tmp 2] 0 6 Tryz.call104 Tryz.func104 Tryz.ntmps104 rfl rfl rfl rfl rfl ?_
 refine awl_live' [0] fun ρ hL => ?_
 try simp only [go_sem, simprocAttr] at hL
 have h0 := hL
 clear hL
 refine awl_seq ?_
 refine awl_regS _ rfl fun K hK => ?_
 try simp only [go_sem, simprocAttr, h0]
 repeat' (refine And.intro (by first | rfl | omega | (simp; done)) ?_)
 refine hK _ _ (.mk (awl_live' [0] fun ρ hL => ?_))
 try simp only [go_sem, simprocAttr, h0] at hL
 try clear h0
 have h0 := hL
 clear hL
 clear hK K
 refine awl_seq ?_
 refine awl_regS _ rfl fun K hK => ?_
 try simp only [go_sem, simprocAttr, h0]
 repeat' (refine And.intro (by first | rfl | omega | (simp; done)) ?_)
 refine opS_call_ro rfl (sat_impl_in ?_ ?_ ?_) ?ha ?hv ?hh ?_
 case ha => simp only [go_sem, simprocAttr, h0]; first | done | rfl
 case hv => first | rfl | (simp only [go_sem]; done)
 case hh => first | rfl | (simp only [go_sem]; done)
 try simp only [go_sem, simprocAttr, h0]
 repeat' (refine And.intro (by first | rfl | omega | (simp; done)) ?_)
 refine hK _ _ (.mk (awl_live' [2] fun ρ hL => ?_))
 try simp only [go_sem, simprocAttr, h0] at hL
 try clear h0
 have h2 := hL
 clear hL
 clear hK K
 refine awl_ret ?_
 refine ret0 (by simp only [go_sem, simprocAttr, h2]; exact rfl) ?_
 try simp only [go_sem, simprocAttr]
 all_goals (first | done | rfl | (simp; done) | (simp [inR]; done) | (simp_all [inR]; done) | (simp [inR]; grind))
set_option maxHeartbeats 8000000 in
set_option maxRecDepth 100000 in
theorem sat_slices_ContainsFunc_int_int (xs : List Int) (c : Nat) (g : FuncId) (p : Int → Bool) (hb : xs.length ≤ 1099511627776) (hg : ∀ x, Sat Tryz.prog g [.int .i64 x] [] (.bool (p x)) []) : Sat Tryz.prog 103 [.sl xs.length c (ints xs), .func g [] []] [] (.bool (xs.any p)) [] := by
 refine sat_mk [.tmp 4] 0 9 Tryz.call103 Tryz.func103 Tryz.ntmps103 rfl rfl rfl rfl rfl ?_
 refine awl_live' [0, 1] fun ρ hL => ?_
 try simp only [go_sem, simprocAttr] at hL
 obtain ⟨h0, h1⟩ := hL
 refine awl_seq ?_
 refine awl_regS _ rfl fun K hK => ?_
 try simp only [go_sem, simprocAttr, h0, h1]
 repeat' (refine And.intro (by first | rfl | omega | (simp; done)) ?_)
 refine hK _ _ (.mk (awl_live' [0, 1] fun ρ hL => ?_))
 try simp only [go_sem, simprocAttr, h0, h1] at hL
 try clear h0 h1
 obtain ⟨h0, h1⟩ := hL
 clear hK K
 refine awl_seq ?_
 refine awl_regS _ rfl fun K hK => ?_
 try simp only [go_sem, simprocAttr, h0, h1]
 repeat' (refine And.intro (by first | rfl | omega | (simp; done)) ?_)
 refine opS_call_ro rfl (sat_slices_IndexFunc_int_int ?_ ?_ ?_ p ?hp0 ?hp1) ?ha ?hv ?hh ?_
 case ha => simp only [go_sem, simprocAttr, h0, h1]; first | done | rfl
 case hp0 => first | assumption | omega | (simp; done)
 case hp1 => first | assumption | omega | (simp; done)
 case hv => first | rfl | (simp only [go_sem]; done)
 case hh => first | rfl | (simp only [go_sem]; done)
 try simp only [go_sem, simprocAttr, h0, h1]
 repeat' (refine And.intro (by first | rfl | omega | (simp; done)) ?_)
 refine hK _ _ (.mk (awl_live' [4] fun ρ hL => ?_))
 try simp only [go_sem, simprocAttr, h0, h1] at hL
 try clear h0 h1
 have h4 := hL
 clear hL
 clear hK K
 refine awl_ret ?_
 refine ret0 (by simp only [go_sem, simprocAttr, h4]; exact rfl) ?_
 try simp only [go_sem, simprocAttr]
 all_goals (have := firstAt_neg (p := p) xs 0; cases h : xs.any p <;> simp_all)
set_option maxHeartbeats 8000000 in
set_option maxRecDepth 100000 in
theorem sat_impl_GuessOk (xs : List Int) (c : Nat) (hb : xs.length ≤ 1099511627776) : Sat Tryz.prog 72 [.sl xs.length c (ints xs)] [] (.bool (guessOk xs)) [] := by
 refine sat_mk [.tmp 2] 0 11 Tryz.call72 Tryz.func72 Tryz.ntmps72 rfl rfl rfl rfl rfl ?_
 refine awl_live' [0] fun ρ hL => ?_
 try simp only [go_sem, simprocAttr] at hL
 have h0 := hL
 clear hL
 refine awl_seq ?_
 refine awl_regS _ rfl fun K hK => ?_
 try simp only [go_sem, simprocAttr, h0]
 repeat' (refine And.intro (by first | rfl | omega | (simp; done)) ?_)
 refine hK _ _ (.mk (awl_live' [0] fun ρ hL => ?_))
 try simp only [go_sem, simprocAttr, h0] at hL
 try clear h0
 have h0 := hL
 clear hL
 clear hK K
 refine awl_seq ?_
 refine awl_regS _ rfl fun K hK => ?_
 try simp only [go_sem, simprocAttr, h0]
 repeat' (refine And.intro (by first | rfl | omega | (simp; done)) ?_)
 refine awpS_live [0, 6] fun ρ hL => ?_
 try simp only [go_sem, simprocAttr, h0] at hL
 try clear h0
 obtain ⟨h0, h6⟩ := hL
 refine grp_andN (tc := 6) (tv := 9) (td := 10) (v := ?v1) 3 rfl [] h6 rfl (fun hb K1 hK1 => ?run) (fun hb => ?skip) (fun ρ hP hL => ?_)
 case skip =>
  exact awpS_skip (want := true) (b := _) (by rw [hb]; rfl) _ [] ρ h6 (fun _ _ => rfl) (by simp) rfl
 case run =>
  simp only [List.take_succ_cons, List.take_zero]
  rw [hb] at h6
  try simp only [go_sem, simprocAttr, h0, h6]
  repeat' (refine And.intro (by first | rfl | omega | (simp; done)) ?_)
  refine opS_call_ro rfl (sat_slices_ContainsFunc_int_int ?_ ?_ ?_ (fun x => !inR x (-1) 65535) ?hp0 ?hp1) ?ha ?hv ?hh ?_
  case ha => simp only [go_sem, simprocAttr, h0, h6]; first | done | rfl
  case hp0 => first | assumption | omega | (simp; done)
  case hp1 => exact sat_impl_GuessOk_1
  case hv => first | rfl | (simp only [go_sem]; done)
  case hh => first | rfl | (simp only [go_sem]; done)
  try simp only [go_sem, simprocAttr, h0, h6]
  repeat' (refine And.intro (by first | rfl | omega | (simp; done)) ?_)
  exact hK1 _ (by simp only [go_sem, simprocAttr, h0, h6]) (by simp only [go_sem, simprocAttr, h0, h6]; exact rfl) (by simp only [go_sem, simprocAttr, h0, h6])
 simp only [List.drop_succ_cons, List.drop_zero]
 clear hL h0 h6
 have h10 := hP
 clear hP
 try simp only [go_sem, simprocAttr, h10]
 repeat' (refine And.intro (by first | rfl | omega | (simp; done)) ?_)
 refine hK _ _ (.mk (awl_live' [2] fun ρ hL => ?_))
 try simp only [go_sem, simprocAttr, h10] at hL
 try clear h10
 have h2 := hL
 clear hL
 clear hK K
 refine awl_ret ?_
 refine ret0 (by simp only [go_sem, simprocAttr, h2]; exact rfl) ?_
 try simp only [go_sem, simprocAttr]
 all_goals (rw [guessOk, List.all_eq_not_any_not]; rw [show decide ((xs.length : Int) = 48) = decide (xs.length = 48) by rw [decide_eq_decide]; omega])
end Go.Proofs.YtopjagninmjkbaaGreat.AM
