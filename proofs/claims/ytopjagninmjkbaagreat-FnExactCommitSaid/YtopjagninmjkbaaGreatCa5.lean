/- Bounds, keys, words. No conditions but those each theorem bears. -/
import Derived.Test.YtopjagninmjkbaaGreatFa
import Derived.Test.YtopjagninmjkbaaGreatM4
import Derived.Test.YtopjagninmjkbaaGreatCa2
import Derived.Test.YtopjagninmjkbaaGreatCa3
set_option linter.unusedSimpArgs false
set_option linter.unusedVariables false
namespace Go.Proofs.YtopjagninmjkbaaGreat.AM
open Go

set_option maxHeartbeats 8000000 in
set_option maxRecDepth 100000 in
theorem sat_spec_l1Min (a : Int) (b : Int)  : Sat Tryz.prog 134 [.int .i64 a, .int .i64 b] [] (.int .i64 (min a b)) [] := by
 refine sat_mk [.tmp 4] 0 10 Tryz.call134 Tryz.func134 Tryz.ntmps134 rfl rfl rfl rfl rfl ?_
 refine awl_live' [0, 1] fun ρ hL => ?_
 try simp only [go_sem, simprocAttr] at hL
 obtain ⟨h0, h1⟩ := hL
 refine awl_seq ?_
 refine awl_regS _ rfl fun K hK => ?_
 try simp only [go_sem, simprocAttr, h0, h1]
 repeat' (refine And.intro (by first | rfl | omega | (simp; done)) ?_)
 refine hK _ _ (.mk (awl_live' [0, 1] fun ρ hL => ?_))
 try simp only [go_sem, simprocAttr, h0, h1] at hL
 try clear h0 h1
 obtain ⟨h0, h1⟩ := hL
 clear hK K
 refine awl_seq ?_
 refine awl_seq ?_
 refine awl_regS _ rfl fun K hK => ?_
 try simp only [go_sem, simprocAttr, h0, h1]
 repeat' (refine And.intro (by first | rfl | omega | (simp; done)) ?_)
 refine hK _ _ (.mk (awl_live' [0, 1, 7] fun ρ hL => ?_))
 try simp only [go_sem, simprocAttr, h0, h1] at hL
 try clear h0 h1
 obtain ⟨h0, h1, h7⟩ := hL
 clear hK K
 refine awl_cond h7 (fun c1 => ?_) (fun c1 => ?_)
 ·
  try simp only [cnd] at c1
  refine awl_seq ?_
  refine awl_regS _ rfl fun K hK => ?_
  try simp only [go_sem, simprocAttr, h0, h1, h7]
  repeat' (refine And.intro (by first | rfl | omega | (simp; done)) ?_)
  refine hK _ _ (.mk (awl_live' [4] fun ρ hL => ?_))
  try simp only [go_sem, simprocAttr, h0, h1, h7] at hL
  try clear h0 h1 h7
  have h4 := hL
  clear hL
  clear hK K
  refine awl_ret ?_
  refine ret0 (by simp only [go_sem, simprocAttr, h4]; exact rfl) ?_
  try simp only [go_sem, simprocAttr]
  all_goals (congr 1; omega)
 ·
  try simp only [cnd] at c1
  refine awl_skip ?_
  refine awl_seq ?_
  refine awl_regS _ rfl fun K hK => ?_
  try simp only [go_sem, simprocAttr, h0, h1, h7]
  repeat' (refine And.intro (by first | rfl | omega | (simp; done)) ?_)
  refine hK _ _ (.mk (awl_live' [4] fun ρ hL => ?_))
  try simp only [go_sem, simprocAttr, h0, h1, h7] at hL
  try clear h0 h1 h7
  have h4 := hL
  clear hL
  clear hK K
  refine awl_ret ?_
  refine ret0 (by simp only [go_sem, simprocAttr, h4]; exact rfl) ?_
  try simp only [go_sem, simprocAttr]
  all_goals (congr 1; omega)
set_option maxHeartbeats 8000000 in
set_option maxRecDepth 100000 in
theorem sat_spec_BoundsOk (a : Int) (b : Int)  : Sat Tryz.prog 125 [.int .i64 a, .int .i64 b] [] (.bool (boundsOk a b)) [] := by
 refine sat_mk [.tmp 4] 0 16 Tryz.call125 Tryz.func125 Tryz.ntmps125 rfl rfl rfl rfl rfl ?_
 refine awl_live' [0, 1] fun ρ hL => ?_
 try simp only [go_sem, simprocAttr] at hL
 obtain ⟨h0, h1⟩ := hL
 refine awl_seq ?_
 refine awl_regS _ rfl fun K hK => ?_
 try simp only [go_sem, simprocAttr, h0, h1]
 repeat' (refine And.intro (by first | rfl | omega | (simp; done)) ?_)
 refine hK _ _ (.mk (awl_live' [0, 1] fun ρ hL => ?_))
 try simp only [go_sem, simprocAttr, h0, h1] at hL
 try clear h0 h1
 obtain ⟨h0, h1⟩ := hL
 clear hK K
 refine awl_seq ?_
 refine awl_regS _ rfl fun K hK => ?_
 try simp only [go_sem, simprocAttr, h0, h1]
 repeat' (refine And.intro (by first | rfl | omega | (simp; done)) ?_)
 refine opS_call_ro rfl (sat_spec_l1In ?_ ?_ ?_) ?ha ?hv ?hh ?_
 case ha => simp only [go_sem, simprocAttr, h0, h1]; first | done | rfl
 case hv => first | rfl | (simp only [go_sem]; done)
 case hh => first | rfl | (simp only [go_sem]; done)
 try simp only [go_sem, simprocAttr, h0, h1]
 repeat' (refine And.intro (by first | rfl | omega | (simp; done)) ?_)
 refine awpS_live [0, 1, 7] fun ρ hL => ?_
 try simp only [go_sem, simprocAttr, h0, h1] at hL
 try clear h0 h1
 obtain ⟨h0, h1, h7⟩ := hL
 refine grp_andN (tc := 7) (tv := 9) (td := 10) (v := ?v1) 2 rfl [0, 1] h7 rfl (fun hb K1 hK1 => ?run) (fun hb => ?skip) (fun ρ hP hL => ?_)
 case skip =>
  exact awpS_skip (want := true) (b := _) (by rw [hb]; rfl) _ [] ρ h7 (fun _ _ => rfl) (by simp) rfl
 case run =>
  simp only [List.take_succ_cons, List.take_zero]
  rw [hb] at h7
  try simp only [go_sem, simprocAttr, h0, h1, h7]
  repeat' (refine And.intro (by first | rfl | omega | (simp; done)) ?_)
  refine opS_call_ro rfl (sat_spec_l1In ?_ ?_ ?_) ?ha ?hv ?hh ?_
  case ha => simp only [go_sem, simprocAttr, h0, h1, h7]; first | done | rfl
  case hv => first | rfl | (simp only [go_sem]; done)
  case hh => first | rfl | (simp only [go_sem]; done)
  try simp only [go_sem, simprocAttr, h0, h1, h7]
  repeat' (refine And.intro (by first | rfl | omega | (simp; done)) ?_)
  exact hK1 _ (by simp only [go_sem, simprocAttr, h0, h1, h7]) (by simp only [go_sem, simprocAttr, h0, h1, h7]; exact rfl) (by simp only [go_sem, simprocAttr, h0, h1, h7])
 simp only [List.drop_succ_cons, List.drop_zero]
 try simp only [go_sem, simprocAttr, h0, h1, h7] at hL
 try clear h0 h1 h7
 obtain ⟨h0, h1⟩ := hL
 have h10 := hP
 clear hP
 try simp only [go_sem, simprocAttr, h0, h1, h10]
 repeat' (refine And.intro (by first | rfl | omega | (simp; done)) ?_)
 refine awpS_live [0, 1, 11] fun ρ hL => ?_
 try simp only [go_sem, simprocAttr, h0, h1, h10] at hL
 try clear h0 h1 h10
 obtain ⟨h0, h1, h11⟩ := hL
 refine grp_andN (tc := 11) (tv := 14) (td := 15) (v := ?v2) 3 rfl [] h11 rfl (fun hb K1 hK1 => ?run) (fun hb => ?skip) (fun ρ hP hL => ?_)
 case skip =>
  exact awpS_skip (want := true) (b := _) (by rw [hb]; rfl) _ [] ρ h11 (fun _ _ => rfl) (by simp) rfl
 case run =>
  simp only [List.take_succ_cons, List.take_zero]
  rw [hb] at h11
  try simp only [go_sem, simprocAttr, h0, h1, h11]
  repeat' (refine And.intro (by first | rfl | omega | (simp; done)) ?_)
  exact hK1 _ (by simp only [go_sem, simprocAttr, h0, h1, h11]) (by simp only [go_sem, simprocAttr, h0, h1, h11]; exact rfl) (by simp only [go_sem, simprocAttr, h0, h1, h11])
 simp only [List.drop_succ_cons, List.drop_zero]
 clear hL h0 h1 h11
 have h15 := hP
 clear hP
 try simp only [go_sem, simprocAttr, h15]
 repeat' (refine And.intro (by first | rfl | omega | (simp; done)) ?_)
 refine hK _ _ (.mk (awl_live' [4] fun ρ hL => ?_))
 try simp only [go_sem, simprocAttr, h15] at hL
 try clear h15
 have h4 := hL
 clear hL
 clear hK K
 refine awl_ret ?_
 refine ret0 (by simp only [go_sem, simprocAttr, h4]; exact rfl) ?_
 try simp only [go_sem, simprocAttr]
 all_goals (rfl)
set_option maxHeartbeats 8000000 in
set_option maxRecDepth 100000 in
theorem sat_impl_BoundsOk (a : Int) (b : Int)  : Sat Tryz.prog 128 [.int .i64 a, .int .i64 b] [] (.bool (boundsOk a b)) [] := by
 refine sat_mk [.tmp 4] 0 12 Tryz.call128 Tryz.func128 Tryz.ntmps128 rfl rfl rfl rfl rfl ?_
 refine awl_live' [0, 1] fun ρ hL => ?_
 try simp only [go_sem, simprocAttr] at hL
 obtain ⟨h0, h1⟩ := hL
 refine awl_seq ?_
 refine awl_regS _ rfl fun K hK => ?_
 try simp only [go_sem, simprocAttr, h0, h1]
 repeat' (refine And.intro (by first | rfl | omega | (simp; done)) ?_)
 refine hK _ _ (.mk (awl_live' [0, 1] fun ρ hL => ?_))
 try simp only [go_sem, simprocAttr, h0, h1] at hL
 try clear h0 h1
 obtain ⟨h0, h1⟩ := hL
 clear hK K
 refine awl_seq ?_
 refine awl_regS _ rfl fun K hK => ?_
 try simp only [go_sem, simprocAttr, h0, h1]
 repeat' (refine And.intro (by first | rfl | omega | (simp; done)) ?_)
 refine opS_call_ro rfl (sat_impl_in ?_ ?_ ?_) ?ha ?hv ?hh ?_
 case ha => simp only [go_sem, simprocAttr, h0, h1]; first | done | rfl
 case hv => first | rfl | (simp only [go_sem]; done)
 case hh => first | rfl | (simp only [go_sem]; done)
 try simp only [go_sem, simprocAttr, h0, h1]
 repeat' (refine And.intro (by first | rfl | omega | (simp; done)) ?_)
 refine awpS_live [1, 8] fun ρ hL => ?_
 try simp only [go_sem, simprocAttr, h0, h1] at hL
 try clear h0 h1
 obtain ⟨h1, h8⟩ := hL
 refine grp_andN (tc := 8) (tv := 10) (td := 11) (v := ?v1) 2 rfl [] h8 rfl (fun hb K1 hK1 => ?run) (fun hb => ?skip) (fun ρ hP hL => ?_)
 case skip =>
  exact awpS_skip (want := true) (b := _) (by rw [hb]; rfl) _ [] ρ h8 (fun _ _ => rfl) (by simp) rfl
 case run =>
  simp only [List.take_succ_cons, List.take_zero]
  rw [hb] at h8
  try simp only [go_sem, simprocAttr, h1, h8]
  repeat' (refine And.intro (by first | rfl | omega | (simp; done)) ?_)
  exact hK1 _ (by simp only [go_sem, simprocAttr, h1, h8]) (by simp only [go_sem, simprocAttr, h1, h8]; exact rfl) (by simp only [go_sem, simprocAttr, h1, h8])
 simp only [List.drop_succ_cons, List.drop_zero]
 clear hL h1 h8
 have h11 := hP
 clear hP
 try simp only [go_sem, simprocAttr, h11]
 repeat' (refine And.intro (by first | rfl | omega | (simp; done)) ?_)
 refine hK _ _ (.mk (awl_live' [4] fun ρ hL => ?_))
 try simp only [go_sem, simprocAttr, h11] at hL
 try clear h11
 have h4 := hL
 clear hL
 clear hK K
 refine awl_ret ?_
 refine ret0 (by simp only [go_sem, simprocAttr, h4]; exact rfl) ?_
 try simp only [go_sem, simprocAttr]
 all_goals (congr 1; rw [Bool.eq_iff_iff, boundsOk_iff]; simp [inR]; omega)
set_option maxHeartbeats 8000000 in
set_option maxRecDepth 100000 in
theorem sat_spec_Pack (a : Int) (b : Int)  : Sat Tryz.prog 130 [.int .i64 a, .int .i64 b] [] (.tuple [.agg [.int .i64 (pack a b).1.1, .int .i64 (pack a b).1.2.1, .int .i64 (pack a b).1.2.2], .bool (pack a b).2]) [] := by
 refine sat_mk [.cell 4 153, .tmp 5] 0 43 Tryz.call130 Tryz.func130 Tryz.ntmps130 rfl rfl rfl rfl rfl ?_
 refine awl_live' [0, 1] fun ρ hL => ?_
 try simp only [go_sem, simprocAttr, bits64, fdiv_pow] at hL
 obtain ⟨h0, h1⟩ := hL
 refine awl_seq ?_
 refine awl_regS _ rfl fun K hK => ?_
 try simp only [go_sem, simprocAttr, h0, h1, bits64, fdiv_pow]
 repeat' (refine And.intro (by first | rfl | omega | (simp; done)) ?_)
 refine hK _ _ (.mk (awl_live' [0, 1, 4] fun ρ hL => ?_))
 try simp only [go_sem, simprocAttr, h0, h1, bits64, fdiv_pow] at hL
 try clear h0 h1
 obtain ⟨h0, h1, h4⟩ := hL
 clear hK K
 refine awl_seq ?_
 refine awl_seq ?_
 refine awl_regS _ rfl fun K hK => ?_
 try simp only [go_sem, simprocAttr, h0, h1, h4, bits64, fdiv_pow]
 repeat' (refine And.intro (by first | rfl | omega | (simp; done)) ?_)
 refine opS_call_ro rfl (sat_spec_BoundsOk ?_ ?_) ?ha ?hv ?hh ?_
 case ha => simp only [go_sem, simprocAttr, h0, h1, h4, bits64, fdiv_pow]; first | done | rfl
 case hv => first | rfl | (simp only [go_sem]; done)
 case hh => first | rfl | (simp only [go_sem]; done)
 try simp only [go_sem, simprocAttr, h0, h1, h4, bits64, fdiv_pow]
 repeat' (refine And.intro (by first | rfl | omega | (simp; done)) ?_)
 refine hK _ _ (.mk (awl_live' [0, 1, 4, 12] fun ρ hL => ?_))
 try simp only [go_sem, simprocAttr, h0, h1, h4, bits64, fdiv_pow] at hL
 try clear h0 h1 h4
 obtain ⟨h0, h1, h4, h12⟩ := hL
 clear hK K
 refine awl_cond h12 (fun c1 => ?_) (fun c1 => ?_)
 ·
  try simp only [cnd] at c1
  refine awl_seq ?_
  refine awl_regS _ rfl fun K hK => ?_
  try simp only [go_sem, simprocAttr, h0, h1, h4, h12, bits64, fdiv_pow]
  repeat' (refine And.intro (by first | rfl | omega | (simp; done)) ?_)
  refine hK _ _ (.mk (awl_live' [4, 5] fun ρ hL => ?_))
  try simp only [go_sem, simprocAttr, h0, h1, h4, h12, bits64, fdiv_pow] at hL
  try clear h0 h1 h4 h12
  obtain ⟨h4, h5⟩ := hL
  clear hK K
  refine awl_ret ?_
  refine ret0 (by simp only [go_sem, simprocAttr, h4, h5, bits64, fdiv_pow]; exact rfl) ?_
  try simp only [go_sem, simprocAttr]
  all_goals (simp [pack, c1])
 ·
  try simp only [cnd] at c1
  refine awl_skip ?_
  refine awl_seq ?_
  refine awl_seq ?_
  have hb : boundsOk a b = true := by simpa using c1
  refine awl_regS _ rfl fun K hK => ?_
  try simp only [go_sem, simprocAttr, h0, h1, h4, h12, bits64, fdiv_pow]
  repeat' (refine And.intro (by first | rfl | omega | (simp; done)) ?_)
  refine hK _ _ (.mk (awl_live' [0, 1, 4, 6] fun ρ hL => ?_))
  try simp only [go_sem, simprocAttr, h0, h1, h4, h12, bits64, fdiv_pow] at hL
  try clear h0 h1 h4 h12
  obtain ⟨h0, h1, h4, h6⟩ := hL
  clear hK K
  have e1_0 := h0
  have e1_1 := h1
  have e1_4 := h4
  refine awl_loopH (fun H0 n σ G => ∃ (i : Nat), n = 7 - i ∧ (i ≤ 7) ∧ (packFrom a b (7 - i) i = packAt a b) ∧ liveE [0, 1, 4] σ ρ ∧ σ 6 = .int .i64 (i : Int) ∧ G = H0) (fun H0 σ G => (packAt a b = none) ∧ liveE [4] σ ρ ∧ G = H0) ((fun (i : Nat) => 7 - i) 0) ?init1 (fun n ρ G hI => ?round1) (fun ρ G hJ => ?after1)
  case init1 => exact ⟨0, rfl, (Nat.zero_le _), (rfl), liveE_refl _ _, (h6), rfl⟩
  case round1 =>
   obtain ⟨i, hn, i1_0, i1_1, hL, k6, hG⟩ := hI
   subst hG
   try simp only [go_sem, simprocAttr, h0, h1, h4, h6, bits64, fdiv_pow] at hL
   clear h0 h1 h4 h6
   obtain ⟨h0, h1, h4⟩ := hL
   have h6 := k6
   clear k6
   refine awl_seq ?_
   refine awl_seq ?_
   refine awl_regS _ rfl fun K hK => ?_
   try simp only [go_sem, simprocAttr, h0, h1, h4, h6, bits64, fdiv_pow]
   repeat' (refine And.intro (by first | rfl | omega | (simp; done)) ?_)
   refine hK _ _ (.mk (awl_live' [0, 1, 4, 6, 15] fun ρ hL => ?_))
   try simp only [go_sem, simprocAttr, h0, h1, h4, h6, bits64, fdiv_pow] at hL
   try clear h0 h1 h4 h6
   obtain ⟨h0, h1, h4, h6, h15⟩ := hL
   clear hK K
   refine awl_cond h15 (fun c2 => ?_) (fun c2 => ?_)
   ·
    try simp only [cnd] at c2
    have hi1 : i < 7 := by omega
    refine awl_skip ?_
    refine awl_seq ?_
    refine awl_block fun R1 hw1 hR1 => ?_
    refine awl_seq ?_
    have hm : min i 64 = i := by omega
    have hp := pack_wraps hb hi1
    refine awl_regS _ rfl fun K hK => ?_
    try simp only [go_sem, simprocAttr, h0, h1, h4, h6, h15, hi1, bits64, fdiv_pow, hm]
    repeat' (refine And.intro (by first | rfl | omega | (simp; done)) ?_)
    refine hK _ _ (.mk (awl_live' [0, 1, 4, 6, 7] fun ρ hL => ?_))
    try simp only [go_sem, simprocAttr, h0, h1, h4, h6, h15, hi1, bits64, fdiv_pow, hm] at hL
    try clear h0 h1 h4 h6 h15
    obtain ⟨h0, h1, h4, h6, h7⟩ := hL
    clear hK K
    refine awl_seq ?_
    refine awl_regD mixed _ rfl fun K hK => ?_
    try simp only [go_sem, simprocAttr, h0, h1, h4, h6, h7, hi1, bits64, fdiv_pow, hm, hp]
    repeat' (refine And.intro (by first | omega | (exact ⟨[0, 0, 0, 6, 15, 0, 32, 127, 255, 0, 1023, 2047], by kernel_rfl⟩) | kernel_rfl) ?_)
    refine hK _ _ (.mk (awl_live' [0, 1, 4, 6, 7, 8] fun ρ hL => ?_))
    try simp only [go_sem, simprocAttr, h0, h1, h4, h6, h7, hi1, bits64, fdiv_pow, hm, hp] at hL
    try clear h0 h1 h4 h6 h7
    obtain ⟨h0, h1, h4, h6, h7, h8⟩ := hL
    clear hK K
    refine awl_seq ?_
    refine awl_regS _ rfl fun K hK => ?_
    try simp only [go_sem, simprocAttr, h0, h1, h4, h6, h7, h8, hi1, bits64, fdiv_pow]
    repeat' (refine And.intro (by first | rfl | omega | (simp; done)) ?_)
    refine awpS_live [0, 1, 4, 6, 7, 8, 34] fun ρ hL => ?_
    try simp only [go_sem, simprocAttr, h0, h1, h4, h6, h7, h8, hi1, bits64, fdiv_pow] at hL
    try clear h0 h1 h4 h6 h7 h8
    obtain ⟨h0, h1, h4, h6, h7, h8, h34⟩ := hL
    refine grp_andN (tc := 34) (tv := 36) (td := 37) (v := ?v1) 2 rfl [0, 1, 4, 6, 7, 8] h34 rfl (fun hb K1 hK1 => ?run) (fun hb => ?skip) (fun ρ hP hL => ?_)
    case skip =>
     exact awpS_skip (want := true) (b := _) (by rw [hb]; rfl) _ [] ρ h34 (fun _ _ => rfl) (by simp) rfl
    case run =>
     simp only [List.take_succ_cons, List.take_zero]
     rw [hb] at h34
     try simp only [go_sem, simprocAttr, h0, h1, h4, h6, h7, h8, h34, hi1, bits64, fdiv_pow]
     repeat' (refine And.intro (by first | rfl | omega | (simp; done)) ?_)
     exact hK1 _ (by simp only [go_sem, simprocAttr, h0, h1, h4, h6, h7, h8, h34, hi1, bits64, fdiv_pow]) (by simp only [go_sem, simprocAttr, h0, h1, h4, h6, h7, h8, h34, hi1, bits64, fdiv_pow]; exact rfl) (by simp only [go_sem, simprocAttr, h0, h1, h4, h6, h7, h8, h34, hi1, bits64, fdiv_pow])
    simp only [List.drop_succ_cons, List.drop_zero]
    try simp only [go_sem, simprocAttr, h0, h1, h4, h6, h7, h8, h34, hi1, bits64, fdiv_pow] at hL
    try clear h0 h1 h4 h6 h7 h8 h34
    obtain ⟨h0, h1, h4, h6, h7, h8⟩ := hL
    have h37 := hP
    clear hP
    try simp only [go_sem, simprocAttr, h0, h1, h4, h6, h7, h8, h37, hi1, bits64, fdiv_pow]
    repeat' (refine And.intro (by first | rfl | omega | (simp; done)) ?_)
    refine hK _ _ (.mk (awl_live' [0, 1, 4, 6, 7, 8, 37] fun ρ hL => ?_))
    try simp only [go_sem, simprocAttr, h0, h1, h4, h6, h7, h8, h37, hi1, bits64, fdiv_pow] at hL
    try clear h0 h1 h4 h6 h7 h8 h37
    obtain ⟨h0, h1, h4, h6, h7, h8, h37⟩ := hL
    clear hK K
    refine awl_cond h37 (fun c3 => ?_) (fun c3 => ?_)
    ·
     try simp only [cnd] at c3
     refine awl_seq ?_
     refine awl_regS _ rfl fun K hK => ?_
     try simp only [go_sem, simprocAttr, h0, h1, h4, h6, h7, h8, h37, hi1, bits64, fdiv_pow]
     repeat' (refine And.intro (by first | rfl | omega | (simp; done)) ?_)
     refine hK _ _ (.mk (awl_live' [4, 5] fun ρ hL => ?_))
     try simp only [go_sem, simprocAttr, h0, h1, h4, h6, h7, h8, h37, hi1, bits64, fdiv_pow] at hL
     try clear h0 h1 h4 h6 h7 h8 h37
     obtain ⟨h4, h5⟩ := hL
     clear hK K
     refine awl_ret ?_
     refine blk_ret ?_
     refine loop_ret ?_
     refine ret0 (by simp only [go_sem, simprocAttr, h4, h5, hi1, bits64, fdiv_pow]; exact rfl) ?_
     try simp only [go_sem, simprocAttr]
     all_goals try clear hR1
     all_goals (simp [pack, hb, ← i1_1, packFrom_go hi1, packFits, c3, packB, packL])
    ·
     try simp only [cnd] at c3
     refine awl_skip ?_
     refine awl_nil ?_
     refine blk_normal (hR1 _ _ (.mk ?_))
     have w1 : IntKind.i64.wrap ((i : Int) + 1) = ((i + 1 : Nat) : Int) := by rw [wrap64 (by omega)]; omega
     refine awl_regS _ rfl fun K hK => ?_
     try simp only [go_sem, simprocAttr, h0, h1, h4, h6, h7, h8, h37, hi1, w1, bits64, fdiv_pow]
     repeat' (refine And.intro (by first | rfl | omega | (simp; done)) ?_)
     refine hK _ _ (.mk (awl_live' [0, 1, 4, 6] fun ρ hL => ?_))
     try simp only [go_sem, simprocAttr, h0, h1, h4, h6, h7, h8, h37, hi1, w1, bits64, fdiv_pow] at hL
     try clear h0 h1 h4 h6 h7 h8 h37
     obtain ⟨h0, h1, h4, h6⟩ := hL
     clear hK K
     refine awl_nil ?_
     refine loop_again _ ?meas ⟨i + 1, rfl, (by omega), (by rw [← i1_1, packFrom_go hi1, if_neg]; simp only [packFits, Bool.and_eq_true, decide_eq_true_eq]; simp only [packB, packL]; omega), (by simp only [go_sem, simprocAttr, h0, h1, h4, h6, hi1, bits64, fdiv_pow, e1_0, e1_1, e1_4]), (h6), rfl⟩
     case meas => subst hn; omega
   ·
    try simp only [cnd] at c2
    refine awl_exit ?_
    refine loop_break ?_
    exact ⟨(by rw [← i1_1, show 7 - i = 0 by omega]; rfl), (by simp only [go_sem, simprocAttr, h0, h1, h4, h6, h15, bits64, fdiv_pow, e1_0, e1_1, e1_4]), rfl⟩
  case after1 =>
   obtain ⟨j1_0, hL, hG⟩ := hJ
   subst hG
   try simp only [go_sem, simprocAttr, h0, h1, h4, h6, bits64, fdiv_pow] at hL
   clear h0 h1 h4 h6
   have h4 := hL
   clear hL
   refine awl_seq ?_
   refine awl_regS _ rfl fun K hK => ?_
   try simp only [go_sem, simprocAttr, h4, bits64, fdiv_pow]
   repeat' (refine And.intro (by first | rfl | omega | (simp; done)) ?_)
   refine hK _ _ (.mk (awl_live' [4, 5] fun ρ hL => ?_))
   try simp only [go_sem, simprocAttr, h4, bits64, fdiv_pow] at hL
   try clear h4
   obtain ⟨h4, h5⟩ := hL
   clear hK K
   refine awl_ret ?_
   refine ret0 (by simp only [go_sem, simprocAttr, h4, h5, bits64, fdiv_pow]; exact rfl) ?_
   try simp only [go_sem, simprocAttr]
   all_goals try clear hR1
   all_goals (simp [pack, hb, j1_0])
set_option maxHeartbeats 8000000 in
set_option maxRecDepth 100000 in
theorem sat_impl_Pack (a : Int) (b : Int)  : Sat Tryz.prog 132 [.int .i64 a, .int .i64 b] [] (.tuple [.agg [.int .i64 (pack a b).1.1, .int .i64 (pack a b).1.2.1, .int .i64 (pack a b).1.2.2], .bool (pack a b).2]) [] := by
 refine sat_mk [.cell 4 153, .tmp 5] 0 45 Tryz.call132 Tryz.func132 Tryz.ntmps132 rfl rfl rfl rfl rfl ?_
 refine awl_live' [0, 1] fun ρ hL => ?_
 try simp only [go_sem, simprocAttr, bits64, fdiv_pow] at hL
 obtain ⟨h0, h1⟩ := hL
 refine awl_seq ?_
 refine awl_regS _ rfl fun K hK => ?_
 try simp only [go_sem, simprocAttr, h0, h1, bits64, fdiv_pow]
 repeat' (refine And.intro (by first | rfl | omega | (simp; done)) ?_)
 refine hK _ _ (.mk (awl_live' [0, 1, 4] fun ρ hL => ?_))
 try simp only [go_sem, simprocAttr, h0, h1, bits64, fdiv_pow] at hL
 try clear h0 h1
 obtain ⟨h0, h1, h4⟩ := hL
 clear hK K
 refine awl_seq ?_
 refine awl_seq ?_
 refine awl_regS _ rfl fun K hK => ?_
 try simp only [go_sem, simprocAttr, h0, h1, h4, bits64, fdiv_pow]
 repeat' (refine And.intro (by first | rfl | omega | (simp; done)) ?_)
 refine opS_call_ro rfl (sat_impl_BoundsOk ?_ ?_) ?ha ?hv ?hh ?_
 case ha => simp only [go_sem, simprocAttr, h0, h1, h4, bits64, fdiv_pow]; first | done | rfl
 case hv => first | rfl | (simp only [go_sem]; done)
 case hh => first | rfl | (simp only [go_sem]; done)
 try simp only [go_sem, simprocAttr, h0, h1, h4, bits64, fdiv_pow]
 repeat' (refine And.intro (by first | rfl | omega | (simp; done)) ?_)
 refine hK _ _ (.mk (awl_live' [0, 1, 4, 13] fun ρ hL => ?_))
 try simp only [go_sem, simprocAttr, h0, h1, h4, bits64, fdiv_pow] at hL
 try clear h0 h1 h4
 obtain ⟨h0, h1, h4, h13⟩ := hL
 clear hK K
 refine awl_cond h13 (fun c1 => ?_) (fun c1 => ?_)
 ·
  try simp only [cnd] at c1
  refine awl_seq ?_
  refine awl_regS _ rfl fun K hK => ?_
  try simp only [go_sem, simprocAttr, h0, h1, h4, h13, bits64, fdiv_pow]
  repeat' (refine And.intro (by first | rfl | omega | (simp; done)) ?_)
  refine hK _ _ (.mk (awl_live' [4, 5] fun ρ hL => ?_))
  try simp only [go_sem, simprocAttr, h0, h1, h4, h13, bits64, fdiv_pow] at hL
  try clear h0 h1 h4 h13
  obtain ⟨h4, h5⟩ := hL
  clear hK K
  refine awl_ret ?_
  refine ret0 (by simp only [go_sem, simprocAttr, h4, h5, bits64, fdiv_pow]; exact rfl) ?_
  try simp only [go_sem, simprocAttr]
  all_goals (simp [pack, c1])
 ·
  try simp only [cnd] at c1
  refine awl_skip ?_
  refine awl_seq ?_
  refine awl_seq ?_
  have hb : boundsOk a b = true := by simpa using c1
  refine awl_regS _ rfl fun K hK => ?_
  try simp only [go_sem, simprocAttr, h0, h1, h4, h13, bits64, fdiv_pow]
  repeat' (refine And.intro (by first | rfl | omega | (simp; done)) ?_)
  refine hK _ _ (.mk (awl_live' [0, 1, 4, 15] fun ρ hL => ?_))
  try simp only [go_sem, simprocAttr, h0, h1, h4, h13, bits64, fdiv_pow] at hL
  try clear h0 h1 h4 h13
  obtain ⟨h0, h1, h4, h15⟩ := hL
  clear hK K
  have e1_0 := h0
  have e1_1 := h1
  have e1_4 := h4
  refine awl_loopH (fun H0 n σ G => ∃ (i : Nat), n = 7 - i ∧ (i ≤ 7) ∧ (packFrom a b (7 - i) i = packAt a b) ∧ liveE [0, 1, 4] σ ρ ∧ σ 15 = .int .i64 (i : Int) ∧ G = H0) (fun H0 σ G => (packAt a b = none) ∧ liveE [4] σ ρ ∧ G = H0) ((fun (i : Nat) => 7 - i) 0) ?init1 (fun n ρ G hI => ?round1) (fun ρ G hJ => ?after1)
  case init1 => exact ⟨0, rfl, (Nat.zero_le _), (rfl), liveE_refl _ _, (h15), rfl⟩
  case round1 =>
   obtain ⟨i, hn, i1_0, i1_1, hL, k15, hG⟩ := hI
   subst hG
   try simp only [go_sem, simprocAttr, h0, h1, h4, h15, bits64, fdiv_pow] at hL
   clear h0 h1 h4 h15
   obtain ⟨h0, h1, h4⟩ := hL
   have h15 := k15
   clear k15
   refine awl_seq ?_
   refine awl_regS _ rfl fun K hK => ?_
   try simp only [go_sem, simprocAttr, h0, h1, h4, h15, bits64, fdiv_pow]
   repeat' (refine And.intro (by first | rfl | omega | (simp; done)) ?_)
   refine hK _ _ (.mk (awl_live' [0, 1, 4, 15, 16] fun ρ hL => ?_))
   try simp only [go_sem, simprocAttr, h0, h1, h4, h15, bits64, fdiv_pow] at hL
   try clear h0 h1 h4 h15
   obtain ⟨h0, h1, h4, h15, h16⟩ := hL
   clear hK K
   refine awl_seq ?_
   refine awl_cond h16 (fun c2 => ?_) (fun c2 => ?_)
   ·
    try simp only [cnd] at c2
    have hi1 : i < 7 := by omega
    refine awl_skip ?_
    refine awl_seq ?_
    refine awl_block fun R1 hw1 hR1 => ?_
    refine awl_seq ?_
    have hm : min i 64 = i := by omega
    have hp := pack_wraps hb hi1
    have hq := pack_tdiv hb hi1
    refine awl_regS _ rfl fun K hK => ?_
    try simp only [go_sem, simprocAttr, h0, h1, h4, h15, h16, hi1, bits64, fdiv_pow]
    repeat' (refine And.intro (by first | rfl | omega | (simp; done)) ?_)
    refine hK _ _ (.mk (awl_live' [0, 1, 4, 6, 15] fun ρ hL => ?_))
    try simp only [go_sem, simprocAttr, h0, h1, h4, h15, h16, hi1, bits64, fdiv_pow] at hL
    try clear h0 h1 h4 h15 h16
    obtain ⟨h0, h1, h4, h6, h15⟩ := hL
    clear hK K
    refine awl_seq ?_
    refine awl_regS _ rfl fun K hK => ?_
    try simp only [go_sem, simprocAttr, h0, h1, h4, h6, h15, hi1, bits64, fdiv_pow, hm, hp]
    repeat' (refine And.intro (by first | rfl | omega | (simp; done)) ?_)
    refine hK _ _ (.mk (awl_live' [0, 1, 4, 6, 7, 15] fun ρ hL => ?_))
    try simp only [go_sem, simprocAttr, h0, h1, h4, h6, h15, hi1, bits64, fdiv_pow, hm, hp] at hL
    try clear h0 h1 h4 h6 h15
    obtain ⟨h0, h1, h4, h6, h7, h15⟩ := hL
    clear hK K
    refine awl_seq ?_
    refine awl_regS _ rfl fun K hK => ?_
    try simp only [go_sem, simprocAttr, h0, h1, h4, h6, h7, h15, hi1, bits64, fdiv_pow, hm, hp, hq]
    repeat' (refine And.intro (by first | rfl | omega | (simp; done)) ?_)
    refine hK _ _ (.mk (awl_live' [0, 1, 4, 6, 7, 8, 15] fun ρ hL => ?_))
    try simp only [go_sem, simprocAttr, h0, h1, h4, h6, h7, h15, hi1, bits64, fdiv_pow, hm, hp, hq] at hL
    try clear h0 h1 h4 h6 h7 h15
    obtain ⟨h0, h1, h4, h6, h7, h8, h15⟩ := hL
    clear hK K
    refine awl_seq ?_
    refine awl_regS _ rfl fun K hK => ?_
    try simp only [go_sem, simprocAttr, h0, h1, h4, h6, h7, h8, h15, hi1, bits64, fdiv_pow, hm, hp, hq]
    repeat' (refine And.intro (by first | rfl | omega | (simp; done)) ?_)
    refine hK _ _ (.mk (awl_live' [0, 1, 4, 6, 8, 9, 15] fun ρ hL => ?_))
    try simp only [go_sem, simprocAttr, h0, h1, h4, h6, h7, h8, h15, hi1, bits64, fdiv_pow, hm, hp, hq] at hL
    try clear h0 h1 h4 h6 h7 h8 h15
    obtain ⟨h0, h1, h4, h6, h8, h9, h15⟩ := hL
    clear hK K
    refine awl_seq ?_
    refine awl_regS _ rfl fun K hK => ?_
    try simp only [go_sem, simprocAttr, h0, h1, h4, h6, h8, h9, h15, hi1, bits64, fdiv_pow]
    repeat' (refine And.intro (by first | rfl | omega | (simp; done)) ?_)
    refine awpS_live [0, 1, 4, 6, 8, 9, 15, 35] fun ρ hL => ?_
    try simp only [go_sem, simprocAttr, h0, h1, h4, h6, h8, h9, h15, hi1, bits64, fdiv_pow] at hL
    try clear h0 h1 h4 h6 h8 h9 h15
    obtain ⟨h0, h1, h4, h6, h8, h9, h15, h35⟩ := hL
    refine grp_andN (tc := 35) (tv := 37) (td := 38) (v := ?v1) 2 rfl [0, 1, 4, 6, 8, 9, 15] h35 rfl (fun hb K1 hK1 => ?run) (fun hb => ?skip) (fun ρ hP hL => ?_)
    case skip =>
     exact awpS_skip (want := true) (b := _) (by rw [hb]; rfl) _ [] ρ h35 (fun _ _ => rfl) (by simp) rfl
    case run =>
     simp only [List.take_succ_cons, List.take_zero]
     rw [hb] at h35
     try simp only [go_sem, simprocAttr, h0, h1, h4, h6, h8, h9, h15, h35, hi1, bits64, fdiv_pow]
     repeat' (refine And.intro (by first | rfl | omega | (simp; done)) ?_)
     exact hK1 _ (by simp only [go_sem, simprocAttr, h0, h1, h4, h6, h8, h9, h15, h35, hi1, bits64, fdiv_pow]) (by simp only [go_sem, simprocAttr, h0, h1, h4, h6, h8, h9, h15, h35, hi1, bits64, fdiv_pow]; exact rfl) (by simp only [go_sem, simprocAttr, h0, h1, h4, h6, h8, h9, h15, h35, hi1, bits64, fdiv_pow])
    simp only [List.drop_succ_cons, List.drop_zero]
    try simp only [go_sem, simprocAttr, h0, h1, h4, h6, h8, h9, h15, h35, hi1, bits64, fdiv_pow] at hL
    try clear h0 h1 h4 h6 h8 h9 h15 h35
    obtain ⟨h0, h1, h4, h6, h8, h9, h15⟩ := hL
    have h38 := hP
    clear hP
    try simp only [go_sem, simprocAttr, h0, h1, h4, h6, h8, h9, h15, h38, hi1, bits64, fdiv_pow]
    repeat' (refine And.intro (by first | rfl | omega | (simp; done)) ?_)
    refine hK _ _ (.mk (awl_live' [0, 1, 4, 6, 8, 9, 15, 38] fun ρ hL => ?_))
    try simp only [go_sem, simprocAttr, h0, h1, h4, h6, h8, h9, h15, h38, hi1, bits64, fdiv_pow] at hL
    try clear h0 h1 h4 h6 h8 h9 h15 h38
    obtain ⟨h0, h1, h4, h6, h8, h9, h15, h38⟩ := hL
    clear hK K
    refine awl_cond h38 (fun c3 => ?_) (fun c3 => ?_)
    ·
     try simp only [cnd] at c3
     refine awl_seq ?_
     refine awl_regS _ rfl fun K hK => ?_
     try simp only [go_sem, simprocAttr, h0, h1, h4, h6, h8, h9, h15, h38, hi1, bits64, fdiv_pow]
     repeat' (refine And.intro (by first | rfl | omega | (simp; done)) ?_)
     refine hK _ _ (.mk (awl_live' [4, 5] fun ρ hL => ?_))
     try simp only [go_sem, simprocAttr, h0, h1, h4, h6, h8, h9, h15, h38, hi1, bits64, fdiv_pow] at hL
     try clear h0 h1 h4 h6 h8 h9 h15 h38
     obtain ⟨h4, h5⟩ := hL
     clear hK K
     refine awl_ret ?_
     refine blk_ret ?_
     refine loop_ret ?_
     refine ret0 (by simp only [go_sem, simprocAttr, h4, h5, hi1, bits64, fdiv_pow]; exact rfl) ?_
     try simp only [go_sem, simprocAttr]
     all_goals try clear hR1
     all_goals (simp [pack, hb, ← i1_1, packFrom_go hi1, packFits, c3, packB, packL])
    ·
     try simp only [cnd] at c3
     refine awl_skip ?_
     refine awl_nil ?_
     refine blk_normal (hR1 _ _ (.mk ?_))
     have w1 : IntKind.i64.wrap ((i : Int) + 1) = ((i + 1 : Nat) : Int) := by rw [wrap64 (by omega)]; omega
     refine awl_regS _ rfl fun K hK => ?_
     try simp only [go_sem, simprocAttr, h0, h1, h4, h6, h8, h9, h15, h38, hi1, w1, bits64, fdiv_pow]
     repeat' (refine And.intro (by first | rfl | omega | (simp; done)) ?_)
     refine hK _ _ (.mk (awl_live' [0, 1, 4, 15] fun ρ hL => ?_))
     try simp only [go_sem, simprocAttr, h0, h1, h4, h6, h8, h9, h15, h38, hi1, w1, bits64, fdiv_pow] at hL
     try clear h0 h1 h4 h6 h8 h9 h15 h38
     obtain ⟨h0, h1, h4, h15⟩ := hL
     clear hK K
     refine awl_nil ?_
     refine loop_again _ ?meas ⟨i + 1, rfl, (by omega), (by rw [← i1_1, packFrom_go hi1, if_neg]; simp only [packFits, Bool.and_eq_true, decide_eq_true_eq]; simp only [packB, packL]; omega), (by simp only [go_sem, simprocAttr, h0, h1, h4, h15, hi1, bits64, fdiv_pow, e1_0, e1_1, e1_4]), (h15), rfl⟩
     case meas => subst hn; omega
   ·
    try simp only [cnd] at c2
    refine awl_exit ?_
    refine loop_break ?_
    exact ⟨(by rw [← i1_1, show 7 - i = 0 by omega]; rfl), (by simp only [go_sem, simprocAttr, h0, h1, h4, h15, h16, bits64, fdiv_pow, e1_0, e1_1, e1_4]), rfl⟩
  case after1 =>
   obtain ⟨j1_0, hL, hG⟩ := hJ
   subst hG
   try simp only [go_sem, simprocAttr, h0, h1, h4, h15, bits64, fdiv_pow] at hL
   clear h0 h1 h4 h15
   have h4 := hL
   clear hL
   refine awl_seq ?_
   refine awl_regS _ rfl fun K hK => ?_
   try simp only [go_sem, simprocAttr, h4, bits64, fdiv_pow]
   repeat' (refine And.intro (by first | rfl | omega | (simp; done)) ?_)
   refine hK _ _ (.mk (awl_live' [4, 5] fun ρ hL => ?_))
   try simp only [go_sem, simprocAttr, h4, bits64, fdiv_pow] at hL
   try clear h4
   obtain ⟨h4, h5⟩ := hL
   clear hK K
   refine awl_ret ?_
   refine ret0 (by simp only [go_sem, simprocAttr, h4, h5, bits64, fdiv_pow]; exact rfl) ?_
   try simp only [go_sem, simprocAttr]
   all_goals try clear hR1
   all_goals (simp [pack, hb, j1_0])
set_option maxHeartbeats 8000000 in
set_option maxRecDepth 100000 in
theorem sat_spec_Unpack (e : Int) (b : Int) (l : Int)  : Sat Tryz.prog 131 [.agg [.int .i64 e, .int .i64 b, .int .i64 l]] [] (.tuple [.int .i64 (unpack (e, b, l)).1, .int .i64 (unpack (e, b, l)).2.1, .bool (unpack (e, b, l)).2.2]) [] := by
 refine sat_mk [.tmp 2, .tmp 3, .tmp 4] 0 35 Tryz.call131 Tryz.func131 Tryz.ntmps131 rfl rfl rfl rfl rfl ?_
 refine awl_live' [0] fun ρ hL => ?_
 try simp only [go_sem, simprocAttr, bits64] at hL
 have h0 := hL
 clear hL
 refine awl_seq ?_
 refine awl_regS _ rfl fun K hK => ?_
 try simp only [go_sem, simprocAttr, h0, bits64]
 repeat' (refine And.intro (by first | rfl | omega | (simp; done)) ?_)
 refine hK _ _ (.mk (awl_live' [1] fun ρ hL => ?_))
 try simp only [go_sem, simprocAttr, h0, bits64] at hL
 try clear h0
 have h1 := hL
 clear hL
 clear hK K
 refine awl_seq ?_
 refine awl_seq ?_
 refine awl_regS _ rfl fun K hK => ?_
 try simp only [go_sem, simprocAttr, h1, bits64]
 repeat' (refine And.intro (by first | rfl | omega | (simp; done)) ?_)
 refine opS_call_ro rfl (sat_spec_l1In ?_ ?_ ?_) ?ha ?hv ?hh ?_
 case ha => simp only [go_sem, simprocAttr, h1, bits64]; first | done | rfl
 case hv => first | rfl | (simp only [go_sem]; done)
 case hh => first | rfl | (simp only [go_sem]; done)
 try simp only [go_sem, simprocAttr, h1, bits64]
 repeat' (refine And.intro (by first | rfl | omega | (simp; done)) ?_)
 refine awpS_live [1, 9] fun ρ hL => ?_
 try simp only [go_sem, simprocAttr, h1, bits64] at hL
 try clear h1
 obtain ⟨h1, h9⟩ := hL
 refine grp_orN (tc := 9) (tv := 13) (td := 14) (v := ?v1) 4 rfl [1] h9 rfl (fun hb K1 hK1 => ?run) (fun hb => ?skip) (fun ρ hP hL => ?_)
 case skip =>
  exact awpS_skip (want := false) (b := _) (by rw [hb]; rfl) _ [] ρ h9 (fun _ _ => rfl) (by simp) rfl
 case run =>
  simp only [List.take_succ_cons, List.take_zero]
  rw [hb] at h9
  try simp only [go_sem, simprocAttr, h1, h9, bits64]
  repeat' (refine And.intro (by first | rfl | omega | (simp; done)) ?_)
  refine opS_call_ro rfl (sat_spec_l1In ?_ ?_ ?_) ?ha ?hv ?hh ?_
  case ha => simp only [go_sem, simprocAttr, h1, h9, bits64]; first | done | rfl
  case hv => first | rfl | (simp only [go_sem]; done)
  case hh => first | rfl | (simp only [go_sem]; done)
  try simp only [go_sem, simprocAttr, h1, h9, bits64]
  repeat' (refine And.intro (by first | rfl | omega | (simp; done)) ?_)
  exact hK1 _ (by simp only [go_sem, simprocAttr, h1, h9, bits64]) (by simp only [go_sem, simprocAttr, h1, h9, bits64]; exact rfl) (by simp only [go_sem, simprocAttr, h1, h9, bits64])
 simp only [List.drop_succ_cons, List.drop_zero]
 try simp only [go_sem, simprocAttr, h1, h9, bits64] at hL
 try clear h1 h9
 have h1 := hL
 clear hL
 have h14 := hP
 clear hP
 try simp only [go_sem, simprocAttr, h1, h14, bits64]
 repeat' (refine And.intro (by first | rfl | omega | (simp; done)) ?_)
 refine awpS_live [1, 15] fun ρ hL => ?_
 try simp only [go_sem, simprocAttr, h1, h14, bits64] at hL
 try clear h1 h14
 obtain ⟨h1, h15⟩ := hL
 refine grp_orN (tc := 15) (tv := 19) (td := 20) (v := ?v2) 4 rfl [1] h15 rfl (fun hb K1 hK1 => ?run) (fun hb => ?skip) (fun ρ hP hL => ?_)
 case skip =>
  exact awpS_skip (want := false) (b := _) (by rw [hb]; rfl) _ [] ρ h15 (fun _ _ => rfl) (by simp) rfl
 case run =>
  simp only [List.take_succ_cons, List.take_zero]
  rw [hb] at h15
  try simp only [go_sem, simprocAttr, h1, h15, bits64]
  repeat' (refine And.intro (by first | rfl | omega | (simp; done)) ?_)
  refine opS_call_ro rfl (sat_spec_l1In ?_ ?_ ?_) ?ha ?hv ?hh ?_
  case ha => simp only [go_sem, simprocAttr, h1, h15, bits64]; first | done | rfl
  case hv => first | rfl | (simp only [go_sem]; done)
  case hh => first | rfl | (simp only [go_sem]; done)
  try simp only [go_sem, simprocAttr, h1, h15, bits64]
  repeat' (refine And.intro (by first | rfl | omega | (simp; done)) ?_)
  exact hK1 _ (by simp only [go_sem, simprocAttr, h1, h15, bits64]) (by simp only [go_sem, simprocAttr, h1, h15, bits64]; exact rfl) (by simp only [go_sem, simprocAttr, h1, h15, bits64])
 simp only [List.drop_succ_cons, List.drop_zero]
 try simp only [go_sem, simprocAttr, h1, h15, bits64] at hL
 try clear h1 h15
 have h1 := hL
 clear hL
 have h20 := hP
 clear hP
 try simp only [go_sem, simprocAttr, h1, h20, bits64]
 repeat' (refine And.intro (by first | rfl | omega | (simp; done)) ?_)
 refine hK _ _ (.mk (awl_live' [1, 20] fun ρ hL => ?_))
 try simp only [go_sem, simprocAttr, h1, h20, bits64] at hL
 try clear h1 h20
 obtain ⟨h1, h20⟩ := hL
 clear hK K
 refine awl_cond h20 (fun c1 => ?_) (fun c1 => ?_)
 ·
  try simp only [cnd] at c1
  refine awl_seq ?_
  refine awl_regS _ rfl fun K hK => ?_
  try simp only [go_sem, simprocAttr, h1, h20, bits64]
  repeat' (refine And.intro (by first | rfl | omega | (simp; done)) ?_)
  refine hK _ _ (.mk (awl_live' [2, 3, 4] fun ρ hL => ?_))
  try simp only [go_sem, simprocAttr, h1, h20, bits64] at hL
  try clear h1 h20
  obtain ⟨h2, h3, h4⟩ := hL
  clear hK K
  refine awl_ret ?_
  refine ret0 (by simp only [go_sem, simprocAttr, h2, h3, h4, bits64]; exact rfl) ?_
  try simp only [go_sem, simprocAttr]
  all_goals (rw [unpack, if_neg (by rintro ⟨p, q, r⟩; simp_all)])
 ·
  try simp only [cnd] at c1
  refine awl_skip ?_
  refine awl_seq ?_
  have hu := unpack_wraps (e := e) (b := b) (l := l) (by simp_all) (by simp_all) (by simp_all)
  refine awl_regD mixed _ rfl fun K hK => ?_
  try simp only [go_sem, simprocAttr, h1, h20, bits64, hu]
  repeat' (refine And.intro (by first | omega | (exact ⟨[0, 1, 0, 4, 15, 0, 32, 0, 128, 480, 0, 1024, 4064, 8160, 16383, 32767, 65535], by kernel_rfl⟩) | kernel_rfl) ?_)
  refine dS_call_ro rfl (sat_spec_l1Min ?_ ?_) ?ha ?hv ?hh ?_
  case ha => simp only [go_sem, simprocAttr, h1, h20, bits64, hu]; first | done | rfl
  case hv => first | rfl | (simp only [go_sem]; done)
  case hh => first | rfl | (simp only [go_sem]; done)
  try simp only [go_sem, simprocAttr, h1, h20, bits64, hu]
  repeat' (refine And.intro (by first | omega | (exact ⟨[0, 1, 0, 4, 15, 0, 32, 0, 128, 480, 0, 1024, 4064, 8160, 16383, 32767, 65535], by kernel_rfl⟩) | kernel_rfl) ?_)
  refine hK _ _ (.mk (awl_live' [2, 3, 4] fun ρ hL => ?_))
  try simp only [go_sem, simprocAttr, h1, h20, bits64, hu] at hL
  try clear h1 h20
  obtain ⟨h2, h3, h4⟩ := hL
  clear hK K
  refine awl_ret ?_
  refine ret0 (by simp only [go_sem, simprocAttr, h2, h3, h4, bits64]; exact rfl) ?_
  try simp only [go_sem, simprocAttr]
  all_goals (simp only [unpack, c1.1.1, c1.1.2, c1.2, and_self, if_true])
set_option maxHeartbeats 8000000 in
set_option maxRecDepth 100000 in
theorem sat_impl_Unpack (e : Int) (b : Int) (l : Int)  : Sat Tryz.prog 133 [.agg [.int .i64 e, .int .i64 b, .int .i64 l]] [] (.tuple [.int .i64 (unpack (e, b, l)).1, .int .i64 (unpack (e, b, l)).2.1, .bool (unpack (e, b, l)).2.2]) [] := by
 refine sat_mk [.tmp 2, .tmp 3, .tmp 4] 0 35 Tryz.call133 Tryz.func133 Tryz.ntmps133 rfl rfl rfl rfl rfl ?_
 refine awl_live' [0] fun ρ hL => ?_
 try simp only [go_sem, simprocAttr, bits64] at hL
 have h0 := hL
 clear hL
 refine awl_seq ?_
 refine awl_regS _ rfl fun K hK => ?_
 try simp only [go_sem, simprocAttr, h0, bits64]
 repeat' (refine And.intro (by first | rfl | omega | (simp; done)) ?_)
 refine hK _ _ (.mk (awl_live' [1] fun ρ hL => ?_))
 try simp only [go_sem, simprocAttr, h0, bits64] at hL
 try clear h0
 have h1 := hL
 clear hL
 clear hK K
 refine awl_seq ?_
 refine awl_seq ?_
 refine awl_regS _ rfl fun K hK => ?_
 try simp only [go_sem, simprocAttr, h1, bits64]
 repeat' (refine And.intro (by first | rfl | omega | (simp; done)) ?_)
 refine opS_call_ro rfl (sat_impl_in ?_ ?_ ?_) ?ha ?hv ?hh ?_
 case ha => simp only [go_sem, simprocAttr, h1, bits64]; first | done | rfl
 case hv => first | rfl | (simp only [go_sem]; done)
 case hh => first | rfl | (simp only [go_sem]; done)
 try simp only [go_sem, simprocAttr, h1, bits64]
 repeat' (refine And.intro (by first | rfl | omega | (simp; done)) ?_)
 refine awpS_live [1, 9] fun ρ hL => ?_
 try simp only [go_sem, simprocAttr, h1, bits64] at hL
 try clear h1
 obtain ⟨h1, h9⟩ := hL
 refine grp_orN (tc := 9) (tv := 13) (td := 14) (v := ?v1) 4 rfl [1] h9 rfl (fun hb K1 hK1 => ?run) (fun hb => ?skip) (fun ρ hP hL => ?_)
 case skip =>
  exact awpS_skip (want := false) (b := _) (by rw [hb]; rfl) _ [] ρ h9 (fun _ _ => rfl) (by simp) rfl
 case run =>
  simp only [List.take_succ_cons, List.take_zero]
  rw [hb] at h9
  try simp only [go_sem, simprocAttr, h1, h9, bits64]
  repeat' (refine And.intro (by first | rfl | omega | (simp; done)) ?_)
  refine opS_call_ro rfl (sat_impl_in ?_ ?_ ?_) ?ha ?hv ?hh ?_
  case ha => simp only [go_sem, simprocAttr, h1, h9, bits64]; first | done | rfl
  case hv => first | rfl | (simp only [go_sem]; done)
  case hh => first | rfl | (simp only [go_sem]; done)
  try simp only [go_sem, simprocAttr, h1, h9, bits64]
  repeat' (refine And.intro (by first | rfl | omega | (simp; done)) ?_)
  exact hK1 _ (by simp only [go_sem, simprocAttr, h1, h9, bits64]) (by simp only [go_sem, simprocAttr, h1, h9, bits64]; exact rfl) (by simp only [go_sem, simprocAttr, h1, h9, bits64])
 simp only [List.drop_succ_cons, List.drop_zero]
 try simp only [go_sem, simprocAttr, h1, h9, bits64] at hL
 try clear h1 h9
 have h1 := hL
 clear hL
 have h14 := hP
 clear hP
 try simp only [go_sem, simprocAttr, h1, h14, bits64]
 repeat' (refine And.intro (by first | rfl | omega | (simp; done)) ?_)
 refine awpS_live [1, 15] fun ρ hL => ?_
 try simp only [go_sem, simprocAttr, h1, h14, bits64] at hL
 try clear h1 h14
 obtain ⟨h1, h15⟩ := hL
 refine grp_orN (tc := 15) (tv := 19) (td := 20) (v := ?v2) 4 rfl [1] h15 rfl (fun hb K1 hK1 => ?run) (fun hb => ?skip) (fun ρ hP hL => ?_)
 case skip =>
  exact awpS_skip (want := false) (b := _) (by rw [hb]; rfl) _ [] ρ h15 (fun _ _ => rfl) (by simp) rfl
 case run =>
  simp only [List.take_succ_cons, List.take_zero]
  rw [hb] at h15
  try simp only [go_sem, simprocAttr, h1, h15, bits64]
  repeat' (refine And.intro (by first | rfl | omega | (simp; done)) ?_)
  refine opS_call_ro rfl (sat_impl_in ?_ ?_ ?_) ?ha ?hv ?hh ?_
  case ha => simp only [go_sem, simprocAttr, h1, h15, bits64]; first | done | rfl
  case hv => first | rfl | (simp only [go_sem]; done)
  case hh => first | rfl | (simp only [go_sem]; done)
  try simp only [go_sem, simprocAttr, h1, h15, bits64]
  repeat' (refine And.intro (by first | rfl | omega | (simp; done)) ?_)
  exact hK1 _ (by simp only [go_sem, simprocAttr, h1, h15, bits64]) (by simp only [go_sem, simprocAttr, h1, h15, bits64]; exact rfl) (by simp only [go_sem, simprocAttr, h1, h15, bits64])
 simp only [List.drop_succ_cons, List.drop_zero]
 try simp only [go_sem, simprocAttr, h1, h15, bits64] at hL
 try clear h1 h15
 have h1 := hL
 clear hL
 have h20 := hP
 clear hP
 try simp only [go_sem, simprocAttr, h1, h20, bits64]
 repeat' (refine And.intro (by first | rfl | omega | (simp; done)) ?_)
 refine hK _ _ (.mk (awl_live' [1, 20] fun ρ hL => ?_))
 try simp only [go_sem, simprocAttr, h1, h20, bits64] at hL
 try clear h1 h20
 obtain ⟨h1, h20⟩ := hL
 clear hK K
 refine awl_cond h20 (fun c1 => ?_) (fun c1 => ?_)
 ·
  try simp only [cnd] at c1
  refine awl_seq ?_
  refine awl_regS _ rfl fun K hK => ?_
  try simp only [go_sem, simprocAttr, h1, h20, bits64]
  repeat' (refine And.intro (by first | rfl | omega | (simp; done)) ?_)
  refine hK _ _ (.mk (awl_live' [2, 3, 4] fun ρ hL => ?_))
  try simp only [go_sem, simprocAttr, h1, h20, bits64] at hL
  try clear h1 h20
  obtain ⟨h2, h3, h4⟩ := hL
  clear hK K
  refine awl_ret ?_
  refine ret0 (by simp only [go_sem, simprocAttr, h2, h3, h4, bits64]; exact rfl) ?_
  try simp only [go_sem, simprocAttr]
  all_goals (rw [unpack, if_neg (by rintro ⟨p, q, r⟩; simp_all)])
 ·
  try simp only [cnd] at c1
  refine awl_skip ?_
  refine awl_seq ?_
  have hu := unpack_wraps (e := e) (b := b) (l := l) (by simp_all) (by simp_all) (by simp_all)
  refine awl_regD mixed _ rfl fun K hK => ?_
  try simp only [go_sem, simprocAttr, h1, h20, bits64, hu]
  repeat' (refine And.intro (by first | omega | (exact ⟨[0, 1, 0, 4, 15, 0, 32, 0, 128, 480, 0, 1024, 4064, 8160, 31, 32767, 65535], by kernel_rfl⟩) | kernel_rfl) ?_)
  refine hK _ _ (.mk (awl_live' [2, 3, 4] fun ρ hL => ?_))
  try simp only [go_sem, simprocAttr, h1, h20, bits64, hu] at hL
  try clear h1 h20
  obtain ⟨h2, h3, h4⟩ := hL
  clear hK K
  refine awl_ret ?_
  refine ret0 (by simp only [go_sem, simprocAttr, h2, h3, h4, bits64]; exact rfl) ?_
  try simp only [go_sem, simprocAttr]
  all_goals (simp only [unpack, c1.1.1, c1.1.2, c1.2, and_self, if_true])
set_option maxHeartbeats 8000000 in
set_option maxRecDepth 100000 in
theorem sat_spec_Wide (a : Int) (b : Int)  : Sat Tryz.prog 124 [.int .i64 a, .int .i64 b] [] (.tuple [.int .i64 (wide a b).1, .int .i64 (wide a b).2]) [] := by
 refine sat_mk [.tmp 4, .tmp 5] 0 30 Tryz.call124 Tryz.func124 Tryz.ntmps124 rfl rfl rfl rfl rfl ?_
 refine awl_live' [0, 1] fun ρ hL => ?_
 try simp only [go_sem, simprocAttr] at hL
 obtain ⟨h0, h1⟩ := hL
 refine awl_seq ?_
 refine awl_regS _ rfl fun K hK => ?_
 try simp only [go_sem, simprocAttr, h0, h1]
 repeat' (refine And.intro (by first | rfl | omega | (simp; done)) ?_)
 refine hK _ _ (.mk (awl_live' [0, 1] fun ρ hL => ?_))
 try simp only [go_sem, simprocAttr, h0, h1] at hL
 try clear h0 h1
 obtain ⟨h0, h1⟩ := hL
 clear hK K
 refine awl_seq ?_
 refine awl_regS _ rfl fun K hK => ?_
 try simp only [go_sem, simprocAttr, h0, h1]
 repeat' (refine And.intro (by first | rfl | omega | (simp; done)) ?_)
 refine opS_call_ro rfl (sat_spec_Pack ?_ ?_) ?ha ?hv ?hh ?_
 case ha => simp only [go_sem, simprocAttr, h0, h1]; first | done | rfl
 case hv => first | rfl | (simp only [go_sem]; done)
 case hh => first | rfl | (simp only [go_sem]; done)
 try simp only [go_sem, simprocAttr, h0, h1]
 repeat' (refine And.intro (by first | rfl | omega | (simp; done)) ?_)
 refine hK _ _ (.mk (awl_live' [0, 1, 6, 7] fun ρ hL => ?_))
 try simp only [go_sem, simprocAttr, h0, h1] at hL
 try clear h0 h1
 obtain ⟨h0, h1, h6, h7⟩ := hL
 clear hK K
 refine awl_seq ?_
 refine awl_seq ?_
 refine awl_regS _ rfl fun K hK => ?_
 try simp only [go_sem, simprocAttr, h0, h1, h6, h7]
 repeat' (refine And.intro (by first | rfl | omega | (simp; done)) ?_)
 refine hK _ _ (.mk (awl_live' [0, 1, 6, 18] fun ρ hL => ?_))
 try simp only [go_sem, simprocAttr, h0, h1, h6, h7] at hL
 try clear h0 h1 h6 h7
 obtain ⟨h0, h1, h6, h18⟩ := hL
 clear hK K
 refine awl_cond h18 (fun c1 => ?_) (fun c1 => ?_)
 ·
  try simp only [cnd] at c1
  refine awl_seq ?_
  refine awl_seq ?_
  refine awl_regS _ rfl fun K hK => ?_
  try simp only [go_sem, simprocAttr, h0, h1, h6, h18]
  repeat' (refine And.intro (by first | rfl | omega | (simp; done)) ?_)
  refine opS_call_ro rfl (sat_spec_BoundsOk ?_ ?_) ?ha ?hv ?hh ?_
  case ha => simp only [go_sem, simprocAttr, h0, h1, h6, h18]; first | done | rfl
  case hv => first | rfl | (simp only [go_sem]; done)
  case hh => first | rfl | (simp only [go_sem]; done)
  try simp only [go_sem, simprocAttr, h0, h1, h6, h18]
  repeat' (refine And.intro (by first | rfl | omega | (simp; done)) ?_)
  refine hK _ _ (.mk (awl_live' [21] fun ρ hL => ?_))
  try simp only [go_sem, simprocAttr, h0, h1, h6, h18] at hL
  try clear h0 h1 h6 h18
  have h21 := hL
  clear hL
  clear hK K
  refine awl_cond h21 (fun c2 => ?_) (fun c2 => ?_)
  ·
   try simp only [cnd] at c2
   refine awl_seq ?_
   refine awl_regS _ rfl fun K hK => ?_
   try simp only [go_sem, simprocAttr, h21]
   repeat' (refine And.intro (by first | rfl | omega | (simp; done)) ?_)
   refine hK _ _ (.mk (awl_live' [4, 5] fun ρ hL => ?_))
   try simp only [go_sem, simprocAttr, h21] at hL
   try clear h21
   obtain ⟨h4, h5⟩ := hL
   clear hK K
   refine awl_ret ?_
   refine ret0 (by simp only [go_sem, simprocAttr, h4, h5]; exact rfl) ?_
   try simp only [go_sem, simprocAttr]
   all_goals (simp_all [wide])
  ·
   try simp only [cnd] at c2
   refine awl_skip ?_
   refine awl_seq ?_
   refine awl_regS _ rfl fun K hK => ?_
   try simp only [go_sem, simprocAttr, h21]
   repeat' (refine And.intro (by first | rfl | omega | (simp; done)) ?_)
   refine hK _ _ (.mk (awl_live' [4, 5] fun ρ hL => ?_))
   try simp only [go_sem, simprocAttr, h21] at hL
   try clear h21
   obtain ⟨h4, h5⟩ := hL
   clear hK K
   refine awl_ret ?_
   refine ret0 (by simp only [go_sem, simprocAttr, h4, h5]; exact rfl) ?_
   try simp only [go_sem, simprocAttr]
   all_goals (simp_all [wide])
 ·
  try simp only [cnd] at c1
  refine awl_skip ?_
  refine awl_seq ?_
  refine awl_regS _ rfl fun K hK => ?_
  try simp only [go_sem, simprocAttr, h0, h1, h6, h18]
  repeat' (refine And.intro (by first | rfl | omega | (simp; done)) ?_)
  refine opS_call_ro rfl (sat_spec_Unpack (pack a b).1.1 (pack a b).1.2.1 (pack a b).1.2.2) ?ha ?hv ?hh ?_
  case ha => simp only [go_sem, simprocAttr, h0, h1, h6, h18]; first | done | rfl
  case hv => first | rfl | (simp only [go_sem]; done)
  case hh => first | rfl | (simp only [go_sem]; done)
  try simp only [go_sem, simprocAttr, h0, h1, h6, h18]
  repeat' (refine And.intro (by first | rfl | omega | (simp; done)) ?_)
  refine hK _ _ (.mk (awl_live' [8, 9] fun ρ hL => ?_))
  try simp only [go_sem, simprocAttr, h0, h1, h6, h18] at hL
  try clear h0 h1 h6 h18
  obtain ⟨h8, h9⟩ := hL
  clear hK K
  refine awl_seq ?_
  refine awl_regS _ rfl fun K hK => ?_
  try simp only [go_sem, simprocAttr, h8, h9]
  repeat' (refine And.intro (by first | rfl | omega | (simp; done)) ?_)
  refine hK _ _ (.mk (awl_live' [4, 5] fun ρ hL => ?_))
  try simp only [go_sem, simprocAttr, h8, h9] at hL
  try clear h8 h9
  obtain ⟨h4, h5⟩ := hL
  clear hK K
  refine awl_ret ?_
  refine ret0 (by simp only [go_sem, simprocAttr, h4, h5]; exact rfl) ?_
  try simp only [go_sem, simprocAttr]
  all_goals (simp_all [wide])
set_option maxHeartbeats 8000000 in
set_option maxRecDepth 100000 in
theorem sat_impl_Wide (a : Int) (b : Int)  : Sat Tryz.prog 127 [.int .i64 a, .int .i64 b] [] (.tuple [.int .i64 (wide a b).1, .int .i64 (wide a b).2]) [] := by
 refine sat_mk [.tmp 4, .tmp 5] 0 31 Tryz.call127 Tryz.func127 Tryz.ntmps127 rfl rfl rfl rfl rfl ?_
 refine awl_live' [0, 1] fun ρ hL => ?_
 try simp only [go_sem, simprocAttr] at hL
 obtain ⟨h0, h1⟩ := hL
 refine awl_seq ?_
 refine awl_regS _ rfl fun K hK => ?_
 try simp only [go_sem, simprocAttr, h0, h1]
 repeat' (refine And.intro (by first | rfl | omega | (simp; done)) ?_)
 refine hK _ _ (.mk (awl_live' [0, 1] fun ρ hL => ?_))
 try simp only [go_sem, simprocAttr, h0, h1] at hL
 try clear h0 h1
 obtain ⟨h0, h1⟩ := hL
 clear hK K
 refine awl_seq ?_
 refine awl_seq ?_
 refine awl_regS _ rfl fun K hK => ?_
 try simp only [go_sem, simprocAttr, h0, h1]
 repeat' (refine And.intro (by first | rfl | omega | (simp; done)) ?_)
 refine opS_call_ro rfl (sat_impl_BoundsOk ?_ ?_) ?ha ?hv ?hh ?_
 case ha => simp only [go_sem, simprocAttr, h0, h1]; first | done | rfl
 case hv => first | rfl | (simp only [go_sem]; done)
 case hh => first | rfl | (simp only [go_sem]; done)
 try simp only [go_sem, simprocAttr, h0, h1]
 repeat' (refine And.intro (by first | rfl | omega | (simp; done)) ?_)
 refine hK _ _ (.mk (awl_live' [0, 1, 14] fun ρ hL => ?_))
 try simp only [go_sem, simprocAttr, h0, h1] at hL
 try clear h0 h1
 obtain ⟨h0, h1, h14⟩ := hL
 clear hK K
 refine awl_cond h14 (fun c1 => ?_) (fun c1 => ?_)
 ·
  try simp only [cnd] at c1
  refine awl_seq ?_
  refine awl_regS _ rfl fun K hK => ?_
  try simp only [go_sem, simprocAttr, h0, h1, h14]
  repeat' (refine And.intro (by first | rfl | omega | (simp; done)) ?_)
  refine hK _ _ (.mk (awl_live' [4, 5] fun ρ hL => ?_))
  try simp only [go_sem, simprocAttr, h0, h1, h14] at hL
  try clear h0 h1 h14
  obtain ⟨h4, h5⟩ := hL
  clear hK K
  refine awl_ret ?_
  refine ret0 (by simp only [go_sem, simprocAttr, h4, h5]; exact rfl) ?_
  try simp only [go_sem, simprocAttr]
  all_goals (simp_all [wide, pack])
 ·
  try simp only [cnd] at c1
  refine awl_skip ?_
  refine awl_seq ?_
  refine awl_regS _ rfl fun K hK => ?_
  try simp only [go_sem, simprocAttr, h0, h1, h14]
  repeat' (refine And.intro (by first | rfl | omega | (simp; done)) ?_)
  refine opS_call_ro rfl (sat_impl_Pack ?_ ?_) ?ha ?hv ?hh ?_
  case ha => simp only [go_sem, simprocAttr, h0, h1, h14]; first | done | rfl
  case hv => first | rfl | (simp only [go_sem]; done)
  case hh => first | rfl | (simp only [go_sem]; done)
  try simp only [go_sem, simprocAttr, h0, h1, h14]
  repeat' (refine And.intro (by first | rfl | omega | (simp; done)) ?_)
  refine hK _ _ (.mk (awl_live' [6, 7] fun ρ hL => ?_))
  try simp only [go_sem, simprocAttr, h0, h1, h14] at hL
  try clear h0 h1 h14
  obtain ⟨h6, h7⟩ := hL
  clear hK K
  refine awl_seq ?_
  refine awl_seq ?_
  refine awl_regS _ rfl fun K hK => ?_
  try simp only [go_sem, simprocAttr, h6, h7]
  repeat' (refine And.intro (by first | rfl | omega | (simp; done)) ?_)
  refine hK _ _ (.mk (awl_live' [6, 22] fun ρ hL => ?_))
  try simp only [go_sem, simprocAttr, h6, h7] at hL
  try clear h6 h7
  obtain ⟨h6, h22⟩ := hL
  clear hK K
  refine awl_cond h22 (fun c2 => ?_) (fun c2 => ?_)
  ·
   try simp only [cnd] at c2
   refine awl_seq ?_
   refine awl_regS _ rfl fun K hK => ?_
   try simp only [go_sem, simprocAttr, h6, h22]
   repeat' (refine And.intro (by first | rfl | omega | (simp; done)) ?_)
   refine hK _ _ (.mk (awl_live' [4, 5] fun ρ hL => ?_))
   try simp only [go_sem, simprocAttr, h6, h22] at hL
   try clear h6 h22
   obtain ⟨h4, h5⟩ := hL
   clear hK K
   refine awl_ret ?_
   refine ret0 (by simp only [go_sem, simprocAttr, h4, h5]; exact rfl) ?_
   try simp only [go_sem, simprocAttr]
   all_goals (simp_all [wide])
  ·
   try simp only [cnd] at c2
   refine awl_skip ?_
   refine awl_seq ?_
   refine awl_regS _ rfl fun K hK => ?_
   try simp only [go_sem, simprocAttr, h6, h22]
   repeat' (refine And.intro (by first | rfl | omega | (simp; done)) ?_)
   refine opS_call_ro rfl (sat_impl_Unpack (pack a b).1.1 (pack a b).1.2.1 (pack a b).1.2.2) ?ha ?hv ?hh ?_
   case ha => simp only [go_sem, simprocAttr, h6, h22]; first | done | rfl
   case hv => first | rfl | (simp only [go_sem]; done)
   case hh => first | rfl | (simp only [go_sem]; done)
   try simp only [go_sem, simprocAttr, h6, h22]
   repeat' (refine And.intro (by first | rfl | omega | (simp; done)) ?_)
   refine hK _ _ (.mk (awl_live' [8, 9] fun ρ hL => ?_))
   try simp only [go_sem, simprocAttr, h6, h22] at hL
   try clear h6 h22
   obtain ⟨h8, h9⟩ := hL
   clear hK K
   refine awl_seq ?_
   refine awl_regS _ rfl fun K hK => ?_
   try simp only [go_sem, simprocAttr, h8, h9]
   repeat' (refine And.intro (by first | rfl | omega | (simp; done)) ?_)
   refine hK _ _ (.mk (awl_live' [4, 5] fun ρ hL => ?_))
   try simp only [go_sem, simprocAttr, h8, h9] at hL
   try clear h8 h9
   obtain ⟨h4, h5⟩ := hL
   clear hK K
   refine awl_ret ?_
   refine ret0 (by simp only [go_sem, simprocAttr, h4, h5]; exact rfl) ?_
   try simp only [go_sem, simprocAttr]
   all_goals (simp_all [wide])
set_option maxHeartbeats 8000000 in
set_option maxRecDepth 100000 in
theorem sat_spec_Exact (a : Int) (b : Int)  : Sat Tryz.prog 116 [.int .i64 a, .int .i64 b] [] (.bool (exact a b)) [] := by
 refine sat_mk [.tmp 4] 0 26 Tryz.call116 Tryz.func116 Tryz.ntmps116 rfl rfl rfl rfl rfl ?_
 refine awl_live' [0, 1] fun ρ hL => ?_
 try simp only [go_sem, simprocAttr] at hL
 obtain ⟨h0, h1⟩ := hL
 refine awl_seq ?_
 refine awl_regS _ rfl fun K hK => ?_
 try simp only [go_sem, simprocAttr, h0, h1]
 repeat' (refine And.intro (by first | rfl | omega | (simp; done)) ?_)
 refine hK _ _ (.mk (awl_live' [0, 1] fun ρ hL => ?_))
 try simp only [go_sem, simprocAttr, h0, h1] at hL
 try clear h0 h1
 obtain ⟨h0, h1⟩ := hL
 clear hK K
 refine awl_seq ?_
 refine awl_regS _ rfl fun K hK => ?_
 try simp only [go_sem, simprocAttr, h0, h1]
 repeat' (refine And.intro (by first | rfl | omega | (simp; done)) ?_)
 refine opS_call_ro rfl (sat_spec_Wide ?_ ?_) ?ha ?hv ?hh ?_
 case ha => simp only [go_sem, simprocAttr, h0, h1]; first | done | rfl
 case hv => first | rfl | (simp only [go_sem]; done)
 case hh => first | rfl | (simp only [go_sem]; done)
 try simp only [go_sem, simprocAttr, h0, h1]
 repeat' (refine And.intro (by first | rfl | omega | (simp; done)) ?_)
 refine hK _ _ (.mk (awl_live' [0, 1, 5, 6] fun ρ hL => ?_))
 try simp only [go_sem, simprocAttr, h0, h1] at hL
 try clear h0 h1
 obtain ⟨h0, h1, h5, h6⟩ := hL
 clear hK K
 refine awl_seq ?_
 refine awl_regS _ rfl fun K hK => ?_
 try simp only [go_sem, simprocAttr, h0, h1, h5, h6]
 repeat' (refine And.intro (by first | rfl | omega | (simp; done)) ?_)
 refine opS_call_ro rfl (sat_spec_BoundsOk ?_ ?_) ?ha ?hv ?hh ?_
 case ha => simp only [go_sem, simprocAttr, h0, h1, h5, h6]; first | done | rfl
 case hv => first | rfl | (simp only [go_sem]; done)
 case hh => first | rfl | (simp only [go_sem]; done)
 try simp only [go_sem, simprocAttr, h0, h1, h5, h6]
 repeat' (refine And.intro (by first | rfl | omega | (simp; done)) ?_)
 refine awpS_live [0, 1, 5, 6, 16] fun ρ hL => ?_
 try simp only [go_sem, simprocAttr, h0, h1, h5, h6] at hL
 try clear h0 h1 h5 h6
 obtain ⟨h0, h1, h5, h6, h16⟩ := hL
 refine grp_andN (tc := 16) (tv := 19) (td := 20) (v := ?v1) 3 rfl [1, 6] h16 rfl (fun hb K1 hK1 => ?run) (fun hb => ?skip) (fun ρ hP hL => ?_)
 case skip =>
  exact awpS_skip (want := true) (b := _) (by rw [hb]; rfl) _ [] ρ h16 (fun _ _ => rfl) (by simp) rfl
 case run =>
  simp only [List.take_succ_cons, List.take_zero]
  rw [hb] at h16
  try simp only [go_sem, simprocAttr, h0, h1, h5, h6, h16]
  repeat' (refine And.intro (by first | rfl | omega | (simp; done)) ?_)
  exact hK1 _ (by simp only [go_sem, simprocAttr, h0, h1, h5, h6, h16]) (by simp only [go_sem, simprocAttr, h0, h1, h5, h6, h16]; exact rfl) (by simp only [go_sem, simprocAttr, h0, h1, h5, h6, h16])
 simp only [List.drop_succ_cons, List.drop_zero]
 try simp only [go_sem, simprocAttr, h0, h1, h5, h6, h16] at hL
 try clear h0 h1 h5 h6 h16
 obtain ⟨h1, h6⟩ := hL
 have h20 := hP
 clear hP
 try simp only [go_sem, simprocAttr, h1, h6, h20]
 repeat' (refine And.intro (by first | rfl | omega | (simp; done)) ?_)
 refine awpS_live [1, 6, 21] fun ρ hL => ?_
 try simp only [go_sem, simprocAttr, h1, h6, h20] at hL
 try clear h1 h6 h20
 obtain ⟨h1, h6, h21⟩ := hL
 refine grp_andN (tc := 21) (tv := 24) (td := 25) (v := ?v2) 3 rfl [] h21 rfl (fun hb K1 hK1 => ?run) (fun hb => ?skip) (fun ρ hP hL => ?_)
 case skip =>
  exact awpS_skip (want := true) (b := _) (by rw [hb]; rfl) _ [] ρ h21 (fun _ _ => rfl) (by simp) rfl
 case run =>
  simp only [List.take_succ_cons, List.take_zero]
  rw [hb] at h21
  try simp only [go_sem, simprocAttr, h1, h6, h21]
  repeat' (refine And.intro (by first | rfl | omega | (simp; done)) ?_)
  exact hK1 _ (by simp only [go_sem, simprocAttr, h1, h6, h21]) (by simp only [go_sem, simprocAttr, h1, h6, h21]; exact rfl) (by simp only [go_sem, simprocAttr, h1, h6, h21])
 simp only [List.drop_succ_cons, List.drop_zero]
 clear hL h1 h6 h21
 have h25 := hP
 clear hP
 try simp only [go_sem, simprocAttr, h25]
 repeat' (refine And.intro (by first | rfl | omega | (simp; done)) ?_)
 refine hK _ _ (.mk (awl_live' [4] fun ρ hL => ?_))
 try simp only [go_sem, simprocAttr, h25] at hL
 try clear h25
 have h4 := hL
 clear hL
 clear hK K
 refine awl_ret ?_
 refine ret0 (by simp only [go_sem, simprocAttr, h4]; exact rfl) ?_
 try simp only [go_sem, simprocAttr]
 all_goals (first | done | rfl | (simp; done) | (simp [exact]; done) | (simp_all [exact]; done) | (simp [exact]; grind))
set_option maxHeartbeats 8000000 in
set_option maxRecDepth 100000 in
theorem sat_impl_Exact (a : Int) (b : Int)  : Sat Tryz.prog 120 [.int .i64 a, .int .i64 b] [] (.bool (exact a b)) [] := by
 refine sat_mk [.tmp 4] 0 26 Tryz.call120 Tryz.func120 Tryz.ntmps120 rfl rfl rfl rfl rfl ?_
 refine awl_live' [0, 1] fun ρ hL => ?_
 try simp only [go_sem, simprocAttr] at hL
 obtain ⟨h0, h1⟩ := hL
 refine awl_seq ?_
 refine awl_regS _ rfl fun K hK => ?_
 try simp only [go_sem, simprocAttr, h0, h1]
 repeat' (refine And.intro (by first | rfl | omega | (simp; done)) ?_)
 refine hK _ _ (.mk (awl_live' [0, 1] fun ρ hL => ?_))
 try simp only [go_sem, simprocAttr, h0, h1] at hL
 try clear h0 h1
 obtain ⟨h0, h1⟩ := hL
 clear hK K
 refine awl_seq ?_
 refine awl_regS _ rfl fun K hK => ?_
 try simp only [go_sem, simprocAttr, h0, h1]
 repeat' (refine And.intro (by first | rfl | omega | (simp; done)) ?_)
 refine opS_call_ro rfl (sat_impl_Wide ?_ ?_) ?ha ?hv ?hh ?_
 case ha => simp only [go_sem, simprocAttr, h0, h1]; first | done | rfl
 case hv => first | rfl | (simp only [go_sem]; done)
 case hh => first | rfl | (simp only [go_sem]; done)
 try simp only [go_sem, simprocAttr, h0, h1]
 repeat' (refine And.intro (by first | rfl | omega | (simp; done)) ?_)
 refine hK _ _ (.mk (awl_live' [0, 1, 5, 6] fun ρ hL => ?_))
 try simp only [go_sem, simprocAttr, h0, h1] at hL
 try clear h0 h1
 obtain ⟨h0, h1, h5, h6⟩ := hL
 clear hK K
 refine awl_seq ?_
 refine awl_regS _ rfl fun K hK => ?_
 try simp only [go_sem, simprocAttr, h0, h1, h5, h6]
 repeat' (refine And.intro (by first | rfl | omega | (simp; done)) ?_)
 refine opS_call_ro rfl (sat_impl_BoundsOk ?_ ?_) ?ha ?hv ?hh ?_
 case ha => simp only [go_sem, simprocAttr, h0, h1, h5, h6]; first | done | rfl
 case hv => first | rfl | (simp only [go_sem]; done)
 case hh => first | rfl | (simp only [go_sem]; done)
 try simp only [go_sem, simprocAttr, h0, h1, h5, h6]
 repeat' (refine And.intro (by first | rfl | omega | (simp; done)) ?_)
 refine awpS_live [0, 1, 5, 6, 16] fun ρ hL => ?_
 try simp only [go_sem, simprocAttr, h0, h1, h5, h6] at hL
 try clear h0 h1 h5 h6
 obtain ⟨h0, h1, h5, h6, h16⟩ := hL
 refine grp_andN (tc := 16) (tv := 19) (td := 20) (v := ?v1) 3 rfl [1, 6] h16 rfl (fun hb K1 hK1 => ?run) (fun hb => ?skip) (fun ρ hP hL => ?_)
 case skip =>
  exact awpS_skip (want := true) (b := _) (by rw [hb]; rfl) _ [] ρ h16 (fun _ _ => rfl) (by simp) rfl
 case run =>
  simp only [List.take_succ_cons, List.take_zero]
  rw [hb] at h16
  try simp only [go_sem, simprocAttr, h0, h1, h5, h6, h16]
  repeat' (refine And.intro (by first | rfl | omega | (simp; done)) ?_)
  exact hK1 _ (by simp only [go_sem, simprocAttr, h0, h1, h5, h6, h16]) (by simp only [go_sem, simprocAttr, h0, h1, h5, h6, h16]; exact rfl) (by simp only [go_sem, simprocAttr, h0, h1, h5, h6, h16])
 simp only [List.drop_succ_cons, List.drop_zero]
 try simp only [go_sem, simprocAttr, h0, h1, h5, h6, h16] at hL
 try clear h0 h1 h5 h6 h16
 obtain ⟨h1, h6⟩ := hL
 have h20 := hP
 clear hP
 try simp only [go_sem, simprocAttr, h1, h6, h20]
 repeat' (refine And.intro (by first | rfl | omega | (simp; done)) ?_)
 refine awpS_live [1, 6, 21] fun ρ hL => ?_
 try simp only [go_sem, simprocAttr, h1, h6, h20] at hL
 try clear h1 h6 h20
 obtain ⟨h1, h6, h21⟩ := hL
 refine grp_andN (tc := 21) (tv := 24) (td := 25) (v := ?v2) 3 rfl [] h21 rfl (fun hb K1 hK1 => ?run) (fun hb => ?skip) (fun ρ hP hL => ?_)
 case skip =>
  exact awpS_skip (want := true) (b := _) (by rw [hb]; rfl) _ [] ρ h21 (fun _ _ => rfl) (by simp) rfl
 case run =>
  simp only [List.take_succ_cons, List.take_zero]
  rw [hb] at h21
  try simp only [go_sem, simprocAttr, h1, h6, h21]
  repeat' (refine And.intro (by first | rfl | omega | (simp; done)) ?_)
  exact hK1 _ (by simp only [go_sem, simprocAttr, h1, h6, h21]) (by simp only [go_sem, simprocAttr, h1, h6, h21]; exact rfl) (by simp only [go_sem, simprocAttr, h1, h6, h21])
 simp only [List.drop_succ_cons, List.drop_zero]
 clear hL h1 h6 h21
 have h25 := hP
 clear hP
 try simp only [go_sem, simprocAttr, h25]
 repeat' (refine And.intro (by first | rfl | omega | (simp; done)) ?_)
 refine hK _ _ (.mk (awl_live' [4] fun ρ hL => ?_))
 try simp only [go_sem, simprocAttr, h25] at hL
 try clear h25
 have h4 := hL
 clear hL
 clear hK K
 refine awl_ret ?_
 refine ret0 (by simp only [go_sem, simprocAttr, h4]; exact rfl) ?_
 try simp only [go_sem, simprocAttr]
 all_goals (first | done | rfl | (simp; done) | (simp [exact]; done) | (simp_all [exact]; done) | (simp [exact]; grind))
set_option maxHeartbeats 8000000 in
set_option maxRecDepth 100000 in
theorem sat_spec_KeyOk (k : Key)  : Sat Tryz.prog 92 [.agg k.cells] [] (.bool (keyOk k)) [] := by
 refine sat_mk [.tmp 2] 0 18 Tryz.call92 Tryz.func92 Tryz.ntmps92 rfl rfl rfl rfl rfl ?_
 refine awl_live' [0] fun ρ hL => ?_
 try simp only [go_sem, simprocAttr] at hL
 have h0 := hL
 clear hL
 refine awl_seq ?_
 refine awl_regS _ rfl fun K hK => ?_
 try simp only [go_sem, simprocAttr, h0]
 repeat' (refine And.intro (by first | rfl | omega | (simp; done)) ?_)
 refine hK _ _ (.mk (awl_live' [1] fun ρ hL => ?_))
 try simp only [go_sem, simprocAttr, h0] at hL
 try clear h0
 have h1 := hL
 clear hL
 clear hK K
 refine awl_seq ?_
 refine awl_regS _ rfl fun K hK => ?_
 try simp only [go_sem, simprocAttr, h1]
 repeat' (refine And.intro (by first | rfl | omega | (simp; done)) ?_)
 refine opS_call_ro rfl (sat_spec_Exact ?_ ?_) ?ha ?hv ?hh ?_
 case ha => simp only [go_sem, simprocAttr, h1]; first | done | rfl
 case hv => first | rfl | (simp only [go_sem]; done)
 case hh => first | rfl | (simp only [go_sem]; done)
 try simp only [go_sem, simprocAttr, h1]
 repeat' (refine And.intro (by first | rfl | omega | (simp; done)) ?_)
 refine awpS_live [1, 8] fun ρ hL => ?_
 try simp only [go_sem, simprocAttr, h1] at hL
 try clear h1
 obtain ⟨h1, h8⟩ := hL
 refine grp_andN (tc := 8) (tv := 11) (td := 12) (v := ?v1) 3 rfl [1] h8 rfl (fun hb K1 hK1 => ?run) (fun hb => ?skip) (fun ρ hP hL => ?_)
 case skip =>
  exact awpS_skip (want := true) (b := _) (by rw [hb]; rfl) _ [] ρ h8 (fun _ _ => rfl) (by simp) rfl
 case run =>
  simp only [List.take_succ_cons, List.take_zero]
  rw [hb] at h8
  try simp only [go_sem, simprocAttr, h1, h8]
  repeat' (refine And.intro (by first | rfl | omega | (simp; done)) ?_)
  refine opS_call_ro rfl (sat_spec_l1In ?_ ?_ ?_) ?ha ?hv ?hh ?_
  case ha => simp only [go_sem, simprocAttr, h1, h8]; first | done | rfl
  case hv => first | rfl | (simp only [go_sem]; done)
  case hh => first | rfl | (simp only [go_sem]; done)
  try simp only [go_sem, simprocAttr, h1, h8]
  repeat' (refine And.intro (by first | rfl | omega | (simp; done)) ?_)
  exact hK1 _ (by simp only [go_sem, simprocAttr, h1, h8]) (by simp only [go_sem, simprocAttr, h1, h8]; exact rfl) (by simp only [go_sem, simprocAttr, h1, h8])
 simp only [List.drop_succ_cons, List.drop_zero]
 try simp only [go_sem, simprocAttr, h1, h8] at hL
 try clear h1 h8
 have h1 := hL
 clear hL
 have h12 := hP
 clear hP
 try simp only [go_sem, simprocAttr, h1, h12]
 repeat' (refine And.intro (by first | rfl | omega | (simp; done)) ?_)
 refine awpS_live [1, 13] fun ρ hL => ?_
 try simp only [go_sem, simprocAttr, h1, h12] at hL
 try clear h1 h12
 obtain ⟨h1, h13⟩ := hL
 refine grp_andN (tc := 13) (tv := 16) (td := 17) (v := ?v2) 3 rfl [] h13 rfl (fun hb K1 hK1 => ?run) (fun hb => ?skip) (fun ρ hP hL => ?_)
 case skip =>
  exact awpS_skip (want := true) (b := _) (by rw [hb]; rfl) _ [] ρ h13 (fun _ _ => rfl) (by simp) rfl
 case run =>
  simp only [List.take_succ_cons, List.take_zero]
  rw [hb] at h13
  try simp only [go_sem, simprocAttr, h1, h13]
  repeat' (refine And.intro (by first | rfl | omega | (simp; done)) ?_)
  refine opS_call_ro rfl (sat_spec_l1In ?_ ?_ ?_) ?ha ?hv ?hh ?_
  case ha => simp only [go_sem, simprocAttr, h1, h13]; first | done | rfl
  case hv => first | rfl | (simp only [go_sem]; done)
  case hh => first | rfl | (simp only [go_sem]; done)
  try simp only [go_sem, simprocAttr, h1, h13]
  repeat' (refine And.intro (by first | rfl | omega | (simp; done)) ?_)
  exact hK1 _ (by simp only [go_sem, simprocAttr, h1, h13]) (by simp only [go_sem, simprocAttr, h1, h13]; exact rfl) (by simp only [go_sem, simprocAttr, h1, h13])
 simp only [List.drop_succ_cons, List.drop_zero]
 clear hL h1 h13
 have h17 := hP
 clear hP
 try simp only [go_sem, simprocAttr, h17]
 repeat' (refine And.intro (by first | rfl | omega | (simp; done)) ?_)
 refine hK _ _ (.mk (awl_live' [2] fun ρ hL => ?_))
 try simp only [go_sem, simprocAttr, h17] at hL
 try clear h17
 have h2 := hL
 clear hL
 clear hK K
 refine awl_ret ?_
 refine ret0 (by simp only [go_sem, simprocAttr, h2]; exact rfl) ?_
 try simp only [go_sem, simprocAttr]
 all_goals (rfl)
set_option maxHeartbeats 8000000 in
set_option maxRecDepth 100000 in
theorem sat_impl_KeyOk (k : Key)  : Sat Tryz.prog 102 [.agg k.cells] [] (.bool (keyOk k)) [] := by
 refine sat_mk [.tmp 2] 0 18 Tryz.call102 Tryz.func102 Tryz.ntmps102 rfl rfl rfl rfl rfl ?_
 refine awl_live' [0] fun ρ hL => ?_
 try simp only [go_sem, simprocAttr] at hL
 have h0 := hL
 clear hL
 refine awl_seq ?_
 refine awl_regS _ rfl fun K hK => ?_
 try simp only [go_sem, simprocAttr, h0]
 repeat' (refine And.intro (by first | rfl | omega | (simp; done)) ?_)
 refine hK _ _ (.mk (awl_live' [1] fun ρ hL => ?_))
 try simp only [go_sem, simprocAttr, h0] at hL
 try clear h0
 have h1 := hL
 clear hL
 clear hK K
 refine awl_seq ?_
 refine awl_regS _ rfl fun K hK => ?_
 try simp only [go_sem, simprocAttr, h1]
 repeat' (refine And.intro (by first | rfl | omega | (simp; done)) ?_)
 refine opS_call_ro rfl (sat_impl_Exact ?_ ?_) ?ha ?hv ?hh ?_
 case ha => simp only [go_sem, simprocAttr, h1]; first | done | rfl
 case hv => first | rfl | (simp only [go_sem]; done)
 case hh => first | rfl | (simp only [go_sem]; done)
 try simp only [go_sem, simprocAttr, h1]
 repeat' (refine And.intro (by first | rfl | omega | (simp; done)) ?_)
 refine awpS_live [1, 8] fun ρ hL => ?_
 try simp only [go_sem, simprocAttr, h1] at hL
 try clear h1
 obtain ⟨h1, h8⟩ := hL
 refine grp_andN (tc := 8) (tv := 11) (td := 12) (v := ?v1) 3 rfl [1] h8 rfl (fun hb K1 hK1 => ?run) (fun hb => ?skip) (fun ρ hP hL => ?_)
 case skip =>
  exact awpS_skip (want := true) (b := _) (by rw [hb]; rfl) _ [] ρ h8 (fun _ _ => rfl) (by simp) rfl
 case run =>
  simp only [List.take_succ_cons, List.take_zero]
  rw [hb] at h8
  try simp only [go_sem, simprocAttr, h1, h8]
  repeat' (refine And.intro (by first | rfl | omega | (simp; done)) ?_)
  refine opS_call_ro rfl (sat_impl_in ?_ ?_ ?_) ?ha ?hv ?hh ?_
  case ha => simp only [go_sem, simprocAttr, h1, h8]; first | done | rfl
  case hv => first | rfl | (simp only [go_sem]; done)
  case hh => first | rfl | (simp only [go_sem]; done)
  try simp only [go_sem, simprocAttr, h1, h8]
  repeat' (refine And.intro (by first | rfl | omega | (simp; done)) ?_)
  exact hK1 _ (by simp only [go_sem, simprocAttr, h1, h8]) (by simp only [go_sem, simprocAttr, h1, h8]; exact rfl) (by simp only [go_sem, simprocAttr, h1, h8])
 simp only [List.drop_succ_cons, List.drop_zero]
 try simp only [go_sem, simprocAttr, h1, h8] at hL
 try clear h1 h8
 have h1 := hL
 clear hL
 have h12 := hP
 clear hP
 try simp only [go_sem, simprocAttr, h1, h12]
 repeat' (refine And.intro (by first | rfl | omega | (simp; done)) ?_)
 refine awpS_live [1, 13] fun ρ hL => ?_
 try simp only [go_sem, simprocAttr, h1, h12] at hL
 try clear h1 h12
 obtain ⟨h1, h13⟩ := hL
 refine grp_andN (tc := 13) (tv := 16) (td := 17) (v := ?v2) 3 rfl [] h13 rfl (fun hb K1 hK1 => ?run) (fun hb => ?skip) (fun ρ hP hL => ?_)
 case skip =>
  exact awpS_skip (want := true) (b := _) (by rw [hb]; rfl) _ [] ρ h13 (fun _ _ => rfl) (by simp) rfl
 case run =>
  simp only [List.take_succ_cons, List.take_zero]
  rw [hb] at h13
  try simp only [go_sem, simprocAttr, h1, h13]
  repeat' (refine And.intro (by first | rfl | omega | (simp; done)) ?_)
  refine opS_call_ro rfl (sat_impl_in ?_ ?_ ?_) ?ha ?hv ?hh ?_
  case ha => simp only [go_sem, simprocAttr, h1, h13]; first | done | rfl
  case hv => first | rfl | (simp only [go_sem]; done)
  case hh => first | rfl | (simp only [go_sem]; done)
  try simp only [go_sem, simprocAttr, h1, h13]
  repeat' (refine And.intro (by first | rfl | omega | (simp; done)) ?_)
  exact hK1 _ (by simp only [go_sem, simprocAttr, h1, h13]) (by simp only [go_sem, simprocAttr, h1, h13]; exact rfl) (by simp only [go_sem, simprocAttr, h1, h13])
 simp only [List.drop_succ_cons, List.drop_zero]
 clear hL h1 h13
 have h17 := hP
 clear hP
 try simp only [go_sem, simprocAttr, h17]
 repeat' (refine And.intro (by first | rfl | omega | (simp; done)) ?_)
 refine hK _ _ (.mk (awl_live' [2] fun ρ hL => ?_))
 try simp only [go_sem, simprocAttr, h17] at hL
 try clear h17
 have h2 := hL
 clear hL
 clear hK K
 refine awl_ret ?_
 refine ret0 (by simp only [go_sem, simprocAttr, h2]; exact rfl) ?_
 try simp only [go_sem, simprocAttr]
 all_goals (rfl)
set_option maxHeartbeats 8000000 in
set_option maxRecDepth 100000 in
theorem sat_spec_WordOk (w : Word)  : Sat Tryz.prog 56 [.agg w.cells] [] (.bool (wordOk w)) [] := by
 refine sat_mk [.tmp 2] 0 26 Tryz.call56 Tryz.func56 Tryz.ntmps56 rfl rfl rfl rfl rfl ?_
 refine awl_live' [0] fun ρ hL => ?_
 try simp only [go_sem, simprocAttr] at hL
 have h0 := hL
 clear hL
 refine awl_seq ?_
 refine awl_regS _ rfl fun K hK => ?_
 try simp only [go_sem, simprocAttr, h0]
 repeat' (refine And.intro (by first | rfl | omega | (simp; done)) ?_)
 refine hK _ _ (.mk (awl_live' [1] fun ρ hL => ?_))
 try simp only [go_sem, simprocAttr, h0] at hL
 try clear h0
 have h1 := hL
 clear hL
 clear hK K
 refine awl_seq ?_
 refine awl_regS _ rfl fun K hK => ?_
 try simp only [go_sem, simprocAttr, h1]
 repeat' (refine And.intro (by first | rfl | omega | (simp; done)) ?_)
 refine opS_call_ro rfl (sat_spec_l1In ?_ ?_ ?_) ?ha ?hv ?hh ?_
 case ha => simp only [go_sem, simprocAttr, h1]; first | done | rfl
 case hv => first | rfl | (simp only [go_sem]; done)
 case hh => first | rfl | (simp only [go_sem]; done)
 try simp only [go_sem, simprocAttr, h1]
 repeat' (refine And.intro (by first | rfl | omega | (simp; done)) ?_)
 refine awpS_live [1, 6] fun ρ hL => ?_
 try simp only [go_sem, simprocAttr, h1] at hL
 try clear h1
 obtain ⟨h1, h6⟩ := hL
 refine grp_andN (tc := 6) (tv := 24) (td := 25) (v := ?v1) 18 rfl [] h6 rfl (fun hb K1 hK1 => ?run) (fun hb => ?skip) (fun ρ hP hL => ?_)
 case skip =>
  exact awpS_skip (want := true) (b := _) (by rw [hb]; rfl) _ [] ρ h6 (fun _ _ => rfl) (by simp) rfl
 case run =>
  simp only [List.take_succ_cons, List.take_zero]
  rw [hb] at h6
  have g2_6 := h6
  have hK1_2 := hK1
  try simp only [go_sem, simprocAttr, h1, h6]
  repeat' (refine And.intro (by first | rfl | omega | (simp; done)) ?_)
  refine awpS_live [1, 6, 9] fun ρ hL => ?_
  try simp only [go_sem, simprocAttr, h1, h6] at hL
  try clear h1 h6
  obtain ⟨h1, h6, h9⟩ := hL
  refine grp_andGN (tc := 9) (tv := 12) (td := 13) (v := ?v3) 3 6 true rfl h6 [1, 6] rfl h9 rfl (fun hb K1 hK1 => ?run) (fun hb => ?skip) (fun ρ hP hL => ?_)
  case skip =>
   exact awpS_skip (want := true) (b := _) (by rw [hb]; rfl) _ [] ρ h9 (fun _ _ => rfl) (by simp) rfl
  case run =>
   simp only [List.take_succ_cons, List.take_zero]
   rw [hb] at h9
   try simp only [go_sem, simprocAttr, h1, h6, h9]
   repeat' (refine And.intro (by first | rfl | omega | (simp; done)) ?_)
   refine opS_call_ro rfl (sat_spec_KeyOk w.key) ?ha ?hv ?hh ?_
   case ha => simp only [go_sem, simprocAttr, h1, h6, h9]; first | done | rfl
   case hv => first | rfl | (simp only [go_sem]; done)
   case hh => first | rfl | (simp only [go_sem]; done)
   try simp only [go_sem, simprocAttr, h1, h6, h9]
   repeat' (refine And.intro (by first | rfl | omega | (simp; done)) ?_)
   exact hK1 _ (by simp only [go_sem, simprocAttr, h1, h6, h9]) (by simp only [go_sem, simprocAttr, h1, h6, h9]; exact rfl) (by simp only [go_sem, simprocAttr, h1, h6, h9])
  simp only [List.drop_succ_cons, List.drop_zero]
  try simp only [go_sem, simprocAttr, h1, h6, h9] at hL
  try clear h1 h6 h9
  obtain ⟨h1, h6⟩ := hL
  have h13 := hP
  clear hP
  try simp only [go_sem, simprocAttr, h1, h6, h13]
  repeat' (refine And.intro (by first | rfl | omega | (simp; done)) ?_)
  refine awpS_live [1, 6, 14] fun ρ hL => ?_
  try simp only [go_sem, simprocAttr, h1, h6, h13] at hL
  try clear h1 h6 h13
  obtain ⟨h1, h6, h14⟩ := hL
  refine grp_orGN (tc := 14) (tv := 23) (td := 24) (v := ?v4) 9 6 true rfl h6 [6] rfl h14 rfl (fun hb K1 hK1 => ?run) (fun hb => ?skip) (fun ρ hP hL => ?_)
  case skip =>
   exact awpS_skip (want := false) (b := _) (by rw [hb]; rfl) _ [] ρ h14 (fun _ _ => rfl) (by simp) rfl
  case run =>
   simp only [List.take_succ_cons, List.take_zero]
   rw [hb] at h14
   have g5_6 := h6
   have g5_14 := h14
   have hK1_5 := hK1
   try simp only [go_sem, simprocAttr, h1, h6, h14]
   repeat' (refine And.intro (by first | rfl | omega | (simp; done)) ?_)
   refine awpS_live [1, 6, 14, 18] fun ρ hL => ?_
   try simp only [go_sem, simprocAttr, h1, h6, h14] at hL
   try clear h1 h6 h14
   obtain ⟨h1, h6, h14, h18⟩ := hL
   refine grp_andGN (tc := 18) (tv := 22) (td := 23) (v := ?v6) 4 14 false rfl h14 [6, 14] rfl h18 rfl (fun hb K1 hK1 => ?run) (fun hb => ?skip) (fun ρ hP hL => ?_)
   case skip =>
    exact awpS_skip (want := true) (b := _) (by rw [hb]; rfl) _ [] ρ h18 (fun _ _ => rfl) (by simp) rfl
   case run =>
    simp only [List.take_succ_cons, List.take_zero]
    rw [hb] at h18
    try simp only [go_sem, simprocAttr, h1, h6, h14, h18]
    repeat' (refine And.intro (by first | rfl | omega | (simp; done)) ?_)
    exact hK1 _ (by simp only [go_sem, simprocAttr, h1, h6, h14, h18]) (by simp only [go_sem, simprocAttr, h1, h6, h14, h18]; exact rfl) (by simp only [go_sem, simprocAttr, h1, h6, h14, h18])
   simp only [List.drop_succ_cons, List.drop_zero]
   try simp only [go_sem, simprocAttr, h1, h6, h14, h18] at hL
   try clear h1 h6 h14 h18
   obtain ⟨h6, h14⟩ := hL
   have h23 := hP
   clear hP
   try simp only [go_sem, simprocAttr, h6, h14, h23]
   repeat' (refine And.intro (by first | rfl | omega | (simp; done)) ?_)
   exact hK1_5 _ (by simp only [go_sem, simprocAttr, h6, h14, h23, g5_6, g5_14]) (by simp only [go_sem, simprocAttr, h6, h14, h23, g5_6, g5_14]; exact rfl) (by simp only [go_sem, simprocAttr, h6, h14, h23, g5_6, g5_14])
  simp only [List.drop_succ_cons, List.drop_zero]
  try simp only [go_sem, simprocAttr, h1, h6, h14] at hL
  try clear h1 h6 h14
  have h6 := hL
  clear hL
  have h24 := hP
  clear hP
  try simp only [go_sem, simprocAttr, h6, h24]
  repeat' (refine And.intro (by first | rfl | omega | (simp; done)) ?_)
  exact hK1_2 _ (by simp only [go_sem, simprocAttr, h6, h24, g2_6]) (by simp only [go_sem, simprocAttr, h6, h24, g2_6]; exact rfl) (by simp only [go_sem, simprocAttr, h6, h24, g2_6])
 simp only [List.drop_succ_cons, List.drop_zero]
 clear hL h1 h6
 have h25 := hP
 clear hP
 try simp only [go_sem, simprocAttr, h25]
 repeat' (refine And.intro (by first | rfl | omega | (simp; done)) ?_)
 refine hK _ _ (.mk (awl_live' [2] fun ρ hL => ?_))
 try simp only [go_sem, simprocAttr, h25] at hL
 try clear h25
 have h2 := hL
 clear hL
 clear hK K
 refine awl_ret ?_
 refine ret0 (by simp only [go_sem, simprocAttr, h2]; exact rfl) ?_
 try simp only [go_sem, simprocAttr]
 all_goals (obtain ⟨n, is, ⟨b, t, p, k⟩⟩ := w; cases is <;> simp [wordOk, noKey])
set_option maxHeartbeats 8000000 in
set_option maxRecDepth 100000 in
theorem sat_impl_WordOk (w : Word)  : Sat Tryz.prog 71 [.agg w.cells] [] (.bool (wordOk w)) [] := by
 refine sat_mk [.tmp 2] 0 22 Tryz.call71 Tryz.func71 Tryz.ntmps71 rfl rfl rfl rfl rfl ?_
 refine awl_live' [0] fun ρ hL => ?_
 try simp only [go_sem, simprocAttr] at hL
 have h0 := hL
 clear hL
 refine awl_seq ?_
 refine awl_regS _ rfl fun K hK => ?_
 try simp only [go_sem, simprocAttr, h0]
 repeat' (refine And.intro (by first | rfl | omega | (simp; done)) ?_)
 refine hK _ _ (.mk (awl_live' [1] fun ρ hL => ?_))
 try simp only [go_sem, simprocAttr, h0] at hL
 try clear h0
 have h1 := hL
 clear hL
 clear hK K
 refine awl_seq ?_
 refine awl_seq ?_
 refine awl_regS _ rfl fun K hK => ?_
 try simp only [go_sem, simprocAttr, h1]
 repeat' (refine And.intro (by first | rfl | omega | (simp; done)) ?_)
 refine hK _ _ (.mk (awl_live' [1, 4] fun ρ hL => ?_))
 try simp only [go_sem, simprocAttr, h1] at hL
 try clear h1
 obtain ⟨h1, h4⟩ := hL
 clear hK K
 refine awl_cond h4 (fun c1 => ?_) (fun c1 => ?_)
 ·
  try simp only [cnd] at c1
  refine awl_seq ?_
  refine awl_regS _ rfl fun K hK => ?_
  try simp only [go_sem, simprocAttr, h1, h4]
  repeat' (refine And.intro (by first | rfl | omega | (simp; done)) ?_)
  refine opS_call_ro rfl (sat_impl_in ?_ ?_ ?_) ?ha ?hv ?hh ?_
  case ha => simp only [go_sem, simprocAttr, h1, h4]; first | done | rfl
  case hv => first | rfl | (simp only [go_sem]; done)
  case hh => first | rfl | (simp only [go_sem]; done)
  try simp only [go_sem, simprocAttr, h1, h4]
  repeat' (refine And.intro (by first | rfl | omega | (simp; done)) ?_)
  refine awpS_live [1, 8] fun ρ hL => ?_
  try simp only [go_sem, simprocAttr, h1, h4] at hL
  try clear h1 h4
  obtain ⟨h1, h8⟩ := hL
  refine grp_andN (tc := 8) (tv := 11) (td := 12) (v := ?v1) 3 rfl [] h8 rfl (fun hb K1 hK1 => ?run) (fun hb => ?skip) (fun ρ hP hL => ?_)
  case skip =>
   exact awpS_skip (want := true) (b := _) (by rw [hb]; rfl) _ [] ρ h8 (fun _ _ => rfl) (by simp) rfl
  case run =>
   simp only [List.take_succ_cons, List.take_zero]
   rw [hb] at h8
   try simp only [go_sem, simprocAttr, h1, h8]
   repeat' (refine And.intro (by first | rfl | omega | (simp; done)) ?_)
   refine opS_call_ro rfl (sat_impl_KeyOk w.key) ?ha ?hv ?hh ?_
   case ha => simp only [go_sem, simprocAttr, h1, h8]; first | done | rfl
   case hv => first | rfl | (simp only [go_sem]; done)
   case hh => first | rfl | (simp only [go_sem]; done)
   try simp only [go_sem, simprocAttr, h1, h8]
   repeat' (refine And.intro (by first | rfl | omega | (simp; done)) ?_)
   exact hK1 _ (by simp only [go_sem, simprocAttr, h1, h8]) (by simp only [go_sem, simprocAttr, h1, h8]; exact rfl) (by simp only [go_sem, simprocAttr, h1, h8])
  simp only [List.drop_succ_cons, List.drop_zero]
  clear hL h1 h8
  have h12 := hP
  clear hP
  try simp only [go_sem, simprocAttr, h12]
  repeat' (refine And.intro (by first | rfl | omega | (simp; done)) ?_)
  refine hK _ _ (.mk (awl_live' [2] fun ρ hL => ?_))
  try simp only [go_sem, simprocAttr, h12] at hL
  try clear h12
  have h2 := hL
  clear hL
  clear hK K
  refine awl_ret ?_
  refine ret0 (by simp only [go_sem, simprocAttr, h2]; exact rfl) ?_
  try simp only [go_sem, simprocAttr]
  all_goals (simp_all [wordOk])
 ·
  try simp only [cnd] at c1
  refine awl_skip ?_
  refine awl_seq ?_
  refine awl_regS _ rfl fun K hK => ?_
  try simp only [go_sem, simprocAttr, h1, h4]
  repeat' (refine And.intro (by first | rfl | omega | (simp; done)) ?_)
  refine opS_call_ro rfl (sat_impl_in ?_ ?_ ?_) ?ha ?hv ?hh ?_
  case ha => simp only [go_sem, simprocAttr, h1, h4]; first | done | rfl
  case hv => first | rfl | (simp only [go_sem]; done)
  case hh => first | rfl | (simp only [go_sem]; done)
  try simp only [go_sem, simprocAttr, h1, h4]
  repeat' (refine And.intro (by first | rfl | omega | (simp; done)) ?_)
  refine awpS_live [1, 16] fun ρ hL => ?_
  try simp only [go_sem, simprocAttr, h1, h4] at hL
  try clear h1 h4
  obtain ⟨h1, h16⟩ := hL
  refine grp_andN (tc := 16) (tv := 20) (td := 21) (v := ?v2) 4 rfl [] h16 rfl (fun hb K1 hK1 => ?run) (fun hb => ?skip) (fun ρ hP hL => ?_)
  case skip =>
   exact awpS_skip (want := true) (b := _) (by rw [hb]; rfl) _ [] ρ h16 (fun _ _ => rfl) (by simp) rfl
  case run =>
   simp only [List.take_succ_cons, List.take_zero]
   rw [hb] at h16
   try simp only [go_sem, simprocAttr, h1, h16]
   repeat' (refine And.intro (by first | rfl | omega | (simp; done)) ?_)
   exact hK1 _ (by simp only [go_sem, simprocAttr, h1, h16]) (by simp only [go_sem, simprocAttr, h1, h16]; exact rfl) (by simp only [go_sem, simprocAttr, h1, h16])
  simp only [List.drop_succ_cons, List.drop_zero]
  clear hL h1 h16
  have h21 := hP
  clear hP
  try simp only [go_sem, simprocAttr, h21]
  repeat' (refine And.intro (by first | rfl | omega | (simp; done)) ?_)
  refine hK _ _ (.mk (awl_live' [2] fun ρ hL => ?_))
  try simp only [go_sem, simprocAttr, h21] at hL
  try clear h21
  have h2 := hL
  clear hL
  clear hK K
  refine awl_ret ?_
  refine ret0 (by simp only [go_sem, simprocAttr, h2]; exact rfl) ?_
  try simp only [go_sem, simprocAttr]
  all_goals (obtain ⟨n, is, ⟨b, t, p, k⟩⟩ := w; cases is <;> simp_all [wordOk, noKey])
end Go.Proofs.YtopjagninmjkbaaGreat.AM
