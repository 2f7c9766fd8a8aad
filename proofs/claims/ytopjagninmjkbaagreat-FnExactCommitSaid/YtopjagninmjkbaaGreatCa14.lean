/- Cores in order; where an entry's words come from. No conditions but those each theorem bears. -/
import Derived.Test.YtopjagninmjkbaaGreatFa
import Derived.Test.YtopjagninmjkbaaGreatSp7
import Derived.Test.YtopjagninmjkbaaGreatCa12
set_option linter.unusedSimpArgs false
set_option linter.unusedVariables false
namespace Go.Proofs.YtopjagninmjkbaaGreat.AM
open Go

set_option maxHeartbeats 8000000 in
set_option maxRecDepth 100000 in
theorem sat_impl_CoreOk (c : Cor) (hf : c.fit) : Sat Tryz.prog 31 [.agg c.cells] [] (.bool (corOk c)) [] := by
 refine sat_mk [.tmp 2] 0 28 Tryz.call31 Tryz.func31 Tryz.ntmps31 rfl rfl rfl rfl rfl ?_
 refine awl_live' [0] fun ρ hL => ?_
 try simp only [go_sem, simprocAttr] at hL
 have h0 := hL
 clear hL
 refine awl_seq ?_
 refine awl_regS _ rfl fun K hK => ?_
 try simp only [go_sem, simprocAttr, h0]
 repeat' (refine And.intro (by first | rfl | omega | (simp; done)) ?_)
 refine hK _ _ (.mk (awl_live' [1] fun ρ hL => ?_))
 try simp only [go_sem, simprocAttr, h0] at hL
 try clear h0
 have h1 := hL
 clear hL
 clear hK K
 refine awl_seq ?_
 refine awl_regS _ rfl fun K hK => ?_
 try simp only [go_sem, simprocAttr, h1]
 repeat' (refine And.intro (by first | rfl | omega | (simp; done)) ?_)
 refine opS_call_ro rfl (sat_impl_StateOk c.s hf.1) ?ha ?hv ?hh ?_
 case ha => simp only [go_sem, simprocAttr, h1]; first | done | rfl
 case hv => first | rfl | (simp only [go_sem]; done)
 case hh => first | rfl | (simp only [go_sem]; done)
 try simp only [go_sem, simprocAttr, h1]
 repeat' (refine And.intro (by first | rfl | omega | (simp; done)) ?_)
 refine awpS_live [1, 6] fun ρ hL => ?_
 try simp only [go_sem, simprocAttr, h1] at hL
 try clear h1
 obtain ⟨h1, h6⟩ := hL
 refine grp_andN (tc := 6) (tv := 10) (td := 11) (v := ?v1) 4 rfl [1] h6 rfl (fun hb K1 hK1 => ?run) (fun hb => ?skip) (fun ρ hP hL => ?_)
 case skip =>
  exact awpS_skip (want := true) (b := _) (by rw [hb]; rfl) _ [] ρ h6 (fun _ _ => rfl) (by simp) rfl
 case run =>
  simp only [List.take_succ_cons, List.take_zero]
  rw [hb] at h6
  try simp only [go_sem, simprocAttr, h1, h6]
  repeat' (refine And.intro (by first | rfl | omega | (simp; done)) ?_)
  exact hK1 _ (by simp only [go_sem, simprocAttr, h1, h6]) (by simp only [go_sem, simprocAttr, h1, h6]; exact rfl) (by simp only [go_sem, simprocAttr, h1, h6])
 simp only [List.drop_succ_cons, List.drop_zero]
 try simp only [go_sem, simprocAttr, h1, h6] at hL
 try clear h1 h6
 have h1 := hL
 clear hL
 have h11 := hP
 clear hP
 try simp only [go_sem, simprocAttr, h1, h11]
 repeat' (refine And.intro (by first | rfl | omega | (simp; done)) ?_)
 refine awpS_live [1, 12] fun ρ hL => ?_
 try simp only [go_sem, simprocAttr, h1, h11] at hL
 try clear h1 h11
 obtain ⟨h1, h12⟩ := hL
 refine grp_andN (tc := 12) (tv := 16) (td := 17) (v := ?v2) 4 rfl [1] h12 rfl (fun hb K1 hK1 => ?run) (fun hb => ?skip) (fun ρ hP hL => ?_)
 case skip =>
  exact awpS_skip (want := true) (b := _) (by rw [hb]; rfl) _ [] ρ h12 (fun _ _ => rfl) (by simp) rfl
 case run =>
  simp only [List.take_succ_cons, List.take_zero]
  rw [hb] at h12
  try simp only [go_sem, simprocAttr, h1, h12]
  repeat' (refine And.intro (by first | rfl | omega | (simp; done)) ?_)
  refine opS_call_ro rfl (sat_slices_ContainsFunc_impl_Entry_impl_Entry c.rob _ [] (fun x => !entOk x) (Nat.le_trans hf.2.1 (by decide)) (fun _ _ _ => rfl) (fun x => sat_impl_CoreOk_1 x)) ?ha ?hv ?hh ?_
  case ha => simp only [go_sem, simprocAttr, h1, h12]; first | done | rfl
  case hv => first | rfl | (simp only [go_sem]; done)
  case hh => first | rfl | (simp only [go_sem]; done)
  try simp only [go_sem, simprocAttr, h1, h12]
  repeat' (refine And.intro (by first | rfl | omega | (simp; done)) ?_)
  exact hK1 _ (by simp only [go_sem, simprocAttr, h1, h12]) (by simp only [go_sem, simprocAttr, h1, h12]; exact rfl) (by simp only [go_sem, simprocAttr, h1, h12])
 simp only [List.drop_succ_cons, List.drop_zero]
 try simp only [go_sem, simprocAttr, h1, h12] at hL
 try clear h1 h12
 have h1 := hL
 clear hL
 have h17 := hP
 clear hP
 try simp only [go_sem, simprocAttr, h1, h17]
 repeat' (refine And.intro (by first | rfl | omega | (simp; done)) ?_)
 refine awpS_live [1, 18] fun ρ hL => ?_
 try simp only [go_sem, simprocAttr, h1, h17] at hL
 try clear h1 h17
 obtain ⟨h1, h18⟩ := hL
 refine grp_andN (tc := 18) (tv := 21) (td := 22) (v := ?v3) 3 rfl [1] h18 rfl (fun hb K1 hK1 => ?run) (fun hb => ?skip) (fun ρ hP hL => ?_)
 case skip =>
  exact awpS_skip (want := true) (b := _) (by rw [hb]; rfl) _ [] ρ h18 (fun _ _ => rfl) (by simp) rfl
 case run =>
  simp only [List.take_succ_cons, List.take_zero]
  rw [hb] at h18
  try simp only [go_sem, simprocAttr, h1, h18]
  repeat' (refine And.intro (by first | rfl | omega | (simp; done)) ?_)
  refine opS_call_ro rfl (sat_impl_WordOk c.next) ?ha ?hv ?hh ?_
  case ha => simp only [go_sem, simprocAttr, h1, h18]; first | done | rfl
  case hv => first | rfl | (simp only [go_sem]; done)
  case hh => first | rfl | (simp only [go_sem]; done)
  try simp only [go_sem, simprocAttr, h1, h18]
  repeat' (refine And.intro (by first | rfl | omega | (simp; done)) ?_)
  exact hK1 _ (by simp only [go_sem, simprocAttr, h1, h18]) (by simp only [go_sem, simprocAttr, h1, h18]; exact rfl) (by simp only [go_sem, simprocAttr, h1, h18])
 simp only [List.drop_succ_cons, List.drop_zero]
 try simp only [go_sem, simprocAttr, h1, h18] at hL
 try clear h1 h18
 have h1 := hL
 clear hL
 have h22 := hP
 clear hP
 try simp only [go_sem, simprocAttr, h1, h22]
 repeat' (refine And.intro (by first | rfl | omega | (simp; done)) ?_)
 refine awpS_live [1, 23] fun ρ hL => ?_
 try simp only [go_sem, simprocAttr, h1, h22] at hL
 try clear h1 h22
 obtain ⟨h1, h23⟩ := hL
 refine grp_andN (tc := 23) (tv := 26) (td := 27) (v := ?v4) 3 rfl [] h23 rfl (fun hb K1 hK1 => ?run) (fun hb => ?skip) (fun ρ hP hL => ?_)
 case skip =>
  exact awpS_skip (want := true) (b := _) (by rw [hb]; rfl) _ [] ρ h23 (fun _ _ => rfl) (by simp) rfl
 case run =>
  simp only [List.take_succ_cons, List.take_zero]
  rw [hb] at h23
  try simp only [go_sem, simprocAttr, h1, h23]
  repeat' (refine And.intro (by first | rfl | omega | (simp; done)) ?_)
  refine opS_call_ro rfl (sat_impl_GuessOk c.guesses c.guesses.length (Nat.le_trans hf.2.2 (by decide))) ?ha ?hv ?hh ?_
  case ha => simp only [go_sem, simprocAttr, h1, h23]; first | done | rfl
  case hv => first | rfl | (simp only [go_sem]; done)
  case hh => first | rfl | (simp only [go_sem]; done)
  try simp only [go_sem, simprocAttr, h1, h23]
  repeat' (refine And.intro (by first | rfl | omega | (simp; done)) ?_)
  exact hK1 _ (by simp only [go_sem, simprocAttr, h1, h23]) (by simp only [go_sem, simprocAttr, h1, h23]; exact rfl) (by simp only [go_sem, simprocAttr, h1, h23])
 simp only [List.drop_succ_cons, List.drop_zero]
 clear hL h1 h23
 have h27 := hP
 clear hP
 try simp only [go_sem, simprocAttr, h27]
 repeat' (refine And.intro (by first | rfl | omega | (simp; done)) ?_)
 refine hK _ _ (.mk (awl_live' [2] fun ρ hL => ?_))
 try simp only [go_sem, simprocAttr, h27] at hL
 try clear h27
 have h2 := hL
 clear hL
 clear hK K
 refine awl_ret ?_
 refine ret0 (by simp only [go_sem, simprocAttr, h2]; exact rfl) ?_
 try simp only [go_sem, simprocAttr]
 all_goals (rw [AV.bool.injEq]; simp only [corOk, List.all_eq_not_any_not]; rw [show (decide ((c.rob.length : Int) ≤ 6)) = decide (c.rob.length ≤ 6) by rw [decide_eq_decide]; omega] <;> ac_rfl)
set_option maxHeartbeats 8000000 in
set_option maxRecDepth 100000 in
theorem sat_spec_CoreOk (c : Cor) (hf : c.fit) : Sat Tryz.prog 21 [.agg c.cells] [] (.bool (corOk c)) [] := by
 refine sat_mk [.tmp 2] 0 37 Tryz.call21 Tryz.func21 Tryz.ntmps21 rfl rfl rfl rfl rfl ?_
 refine awl_live' [0] fun ρ hL => ?_
 try simp only [go_sem, simprocAttr] at hL
 have h0 := hL
 clear hL
 refine awl_seq ?_
 have hf1 := hf.2.1
 refine awl_regS _ rfl fun K hK => ?_
 try simp only [go_sem, simprocAttr, h0]
 repeat' (refine And.intro (by first | rfl | omega | (simp; done)) ?_)
 refine hK _ _ (.mk (awl_live' [1] fun ρ hL => ?_))
 try simp only [go_sem, simprocAttr, h0] at hL
 try clear h0
 have h1 := hL
 clear hL
 clear hK K
 refine awl_seq ?_
 refine awl_seq ?_
 refine awl_regS _ rfl fun K hK => ?_
 try simp only [go_sem, simprocAttr, h1]
 repeat' (refine And.intro (by first | rfl | omega | (simp; done)) ?_)
 refine hK _ _ (.mk (awl_live' [1, 3] fun ρ hL => ?_))
 try simp only [go_sem, simprocAttr, h1] at hL
 try clear h1
 obtain ⟨h1, h3⟩ := hL
 clear hK K
 have e1_1 := h1
 refine awl_loopH (fun H0 n σ G => ∃ (i : Nat), n = c.rob.length - i ∧ (i ≤ c.rob.length) ∧ ((c.rob.take i).all entOk = true) ∧ liveE [1] σ ρ ∧ σ 3 = .int .i64 (i : Int) ∧ G = H0) (fun H0 σ G => (c.rob.all entOk = true) ∧ liveE [1] σ ρ ∧ G = H0) ((fun (i : Nat) => c.rob.length - i) 0) ?init1 (fun n ρ G hI => ?round1) (fun ρ G hJ => ?after1)
 case init1 => exact ⟨0, rfl, (Nat.zero_le _), (by simp), liveE_refl _ _, (h3), rfl⟩
 case round1 =>
  obtain ⟨i, hn, i1_0, i1_1, hL, k3, hG⟩ := hI
  subst hG
  try simp only [go_sem, simprocAttr, h1, h3] at hL
  clear h1 h3
  have h1 := hL
  clear hL
  have h3 := k3
  clear k3
  refine awl_seq ?_
  refine awl_seq ?_
  refine awl_regS _ rfl fun K hK => ?_
  try simp only [go_sem, simprocAttr, h1, h3]
  repeat' (refine And.intro (by first | rfl | omega | (simp; done)) ?_)
  refine hK _ _ (.mk (awl_live' [1, 3, 8] fun ρ hL => ?_))
  try simp only [go_sem, simprocAttr, h1, h3] at hL
  try clear h1 h3
  obtain ⟨h1, h3, h8⟩ := hL
  clear hK K
  refine awl_cond h8 (fun c1 => ?_) (fun c1 => ?_)
  ·
   try simp only [cnd] at c1
   have hi1 : i < c.rob.length := by omega
   refine awl_skip ?_
   refine awl_seq ?_
   refine awl_block fun R1 hw1 hR1 => ?_
   refine awl_seq ?_
   refine awl_regS _ rfl fun K hK => ?_
   try simp only [go_sem, simprocAttr, h1, h3, h8, hi1]
   repeat' (refine And.intro (by first | rfl | omega | (simp; done)) ?_)
   refine opS_call_ro rfl (sat_spec_l12Entry (c.rob.getD i noEnt)) ?ha ?hv ?hh ?_
   case ha => simp only [go_sem, simprocAttr, h1, h3, h8, hi1]; first | done | rfl
   case hv => first | rfl | (simp only [go_sem]; done)
   case hh => first | rfl | (simp only [go_sem]; done)
   try simp only [go_sem, simprocAttr, h1, h3, h8, hi1]
   repeat' (refine And.intro (by first | rfl | omega | (simp; done)) ?_)
   refine hK _ _ (.mk (awl_live' [1, 3, 17] fun ρ hL => ?_))
   try simp only [go_sem, simprocAttr, h1, h3, h8, hi1] at hL
   try clear h1 h3 h8
   obtain ⟨h1, h3, h17⟩ := hL
   clear hK K
   refine awl_cond h17 (fun c2 => ?_) (fun c2 => ?_)
   ·
    try simp only [cnd] at c2
    refine awl_seq ?_
    refine awl_regS _ rfl fun K hK => ?_
    try simp only [go_sem, simprocAttr, h1, h3, h17, hi1]
    repeat' (refine And.intro (by first | rfl | omega | (simp; done)) ?_)
    refine hK _ _ (.mk (awl_live' [2] fun ρ hL => ?_))
    try simp only [go_sem, simprocAttr, h1, h3, h17, hi1] at hL
    try clear h1 h3 h17
    have h2 := hL
    clear hL
    clear hK K
    refine awl_ret ?_
    refine blk_ret ?_
    refine loop_ret ?_
    refine ret0 (by simp only [go_sem, simprocAttr, h2, hi1]; exact rfl) ?_
    try simp only [go_sem, simprocAttr]
    all_goals try clear hR1
    all_goals (rw [corOk, all_false_of (d := noEnt) hi1 (by simpa using c2)]; simp only [Bool.false_and])
   ·
    try simp only [cnd] at c2
    refine awl_skip ?_
    refine awl_nil ?_
    refine blk_normal (hR1 _ _ (.mk ?_))
    have w1 : IntKind.i64.wrap ((i : Int) + 1) = ((i + 1 : Nat) : Int) := by rw [wrap64 (by omega)]; omega
    refine awl_regS _ rfl fun K hK => ?_
    try simp only [go_sem, simprocAttr, h1, h3, h17, hi1, w1]
    repeat' (refine And.intro (by first | rfl | omega | (simp; done)) ?_)
    refine hK _ _ (.mk (awl_live' [1, 3] fun ρ hL => ?_))
    try simp only [go_sem, simprocAttr, h1, h3, h17, hi1, w1] at hL
    try clear h1 h3 h17
    obtain ⟨h1, h3⟩ := hL
    clear hK K
    refine awl_nil ?_
    refine loop_again _ ?meas ⟨i + 1, rfl, (by omega), (by exact all_take_succ (d := noEnt) hi1 i1_1 (by simpa using c2)), (by simp only [go_sem, simprocAttr, h1, h3, hi1, e1_1]), (h3), rfl⟩
    case meas => subst hn; omega
  ·
   try simp only [cnd] at c1
   refine awl_exit ?_
   refine loop_break ?_
   exact ⟨(by exact all_of_take (by omega) i1_1), (by simp only [go_sem, simprocAttr, h1, h3, h8, e1_1]), rfl⟩
 case after1 =>
  obtain ⟨j1_0, hL, hG⟩ := hJ
  subst hG
  try simp only [go_sem, simprocAttr, h1, h3] at hL
  clear h1 h3
  have h1 := hL
  clear hL
  refine awl_seq ?_
  refine awl_regS _ rfl fun K hK => ?_
  try simp only [go_sem, simprocAttr, h1]
  repeat' (refine And.intro (by first | rfl | omega | (simp; done)) ?_)
  refine opS_call_ro rfl (sat_spec_StateOk c.s hf.1) ?ha ?hv ?hh ?_
  case ha => simp only [go_sem, simprocAttr, h1]; first | done | rfl
  case hv => first | rfl | (simp only [go_sem]; done)
  case hh => first | rfl | (simp only [go_sem]; done)
  try simp only [go_sem, simprocAttr, h1]
  repeat' (refine And.intro (by first | rfl | omega | (simp; done)) ?_)
  refine awpS_live [1, 21] fun ρ hL => ?_
  try simp only [go_sem, simprocAttr, h1] at hL
  try clear h1
  obtain ⟨h1, h21⟩ := hL
  refine grp_andN (tc := 21) (tv := 25) (td := 26) (v := ?v1) 4 rfl [1] h21 rfl (fun hb K1 hK1 => ?run) (fun hb => ?skip) (fun ρ hP hL => ?_)
  case skip =>
   exact awpS_skip (want := true) (b := _) (by rw [hb]; rfl) _ [] ρ h21 (fun _ _ => rfl) (by simp) rfl
  case run =>
   simp only [List.take_succ_cons, List.take_zero]
   rw [hb] at h21
   try simp only [go_sem, simprocAttr, h1, h21]
   repeat' (refine And.intro (by first | rfl | omega | (simp; done)) ?_)
   exact hK1 _ (by simp only [go_sem, simprocAttr, h1, h21]) (by simp only [go_sem, simprocAttr, h1, h21]; exact rfl) (by simp only [go_sem, simprocAttr, h1, h21])
  simp only [List.drop_succ_cons, List.drop_zero]
  try simp only [go_sem, simprocAttr, h1, h21] at hL
  try clear h1 h21
  have h1 := hL
  clear hL
  have h26 := hP
  clear hP
  try simp only [go_sem, simprocAttr, h1, h26]
  repeat' (refine And.intro (by first | rfl | omega | (simp; done)) ?_)
  refine awpS_live [1, 27] fun ρ hL => ?_
  try simp only [go_sem, simprocAttr, h1, h26] at hL
  try clear h1 h26
  obtain ⟨h1, h27⟩ := hL
  refine grp_andN (tc := 27) (tv := 30) (td := 31) (v := ?v2) 3 rfl [1] h27 rfl (fun hb K1 hK1 => ?run) (fun hb => ?skip) (fun ρ hP hL => ?_)
  case skip =>
   exact awpS_skip (want := true) (b := _) (by rw [hb]; rfl) _ [] ρ h27 (fun _ _ => rfl) (by simp) rfl
  case run =>
   simp only [List.take_succ_cons, List.take_zero]
   rw [hb] at h27
   try simp only [go_sem, simprocAttr, h1, h27]
   repeat' (refine And.intro (by first | rfl | omega | (simp; done)) ?_)
   refine opS_call_ro rfl (sat_spec_WordOk c.next) ?ha ?hv ?hh ?_
   case ha => simp only [go_sem, simprocAttr, h1, h27]; first | done | rfl
   case hv => first | rfl | (simp only [go_sem]; done)
   case hh => first | rfl | (simp only [go_sem]; done)
   try simp only [go_sem, simprocAttr, h1, h27]
   repeat' (refine And.intro (by first | rfl | omega | (simp; done)) ?_)
   exact hK1 _ (by simp only [go_sem, simprocAttr, h1, h27]) (by simp only [go_sem, simprocAttr, h1, h27]; exact rfl) (by simp only [go_sem, simprocAttr, h1, h27])
  simp only [List.drop_succ_cons, List.drop_zero]
  try simp only [go_sem, simprocAttr, h1, h27] at hL
  try clear h1 h27
  have h1 := hL
  clear hL
  have h31 := hP
  clear hP
  try simp only [go_sem, simprocAttr, h1, h31]
  repeat' (refine And.intro (by first | rfl | omega | (simp; done)) ?_)
  refine awpS_live [1, 32] fun ρ hL => ?_
  try simp only [go_sem, simprocAttr, h1, h31] at hL
  try clear h1 h31
  obtain ⟨h1, h32⟩ := hL
  refine grp_andN (tc := 32) (tv := 35) (td := 36) (v := ?v3) 3 rfl [] h32 rfl (fun hb K1 hK1 => ?run) (fun hb => ?skip) (fun ρ hP hL => ?_)
  case skip =>
   exact awpS_skip (want := true) (b := _) (by rw [hb]; rfl) _ [] ρ h32 (fun _ _ => rfl) (by simp) rfl
  case run =>
   simp only [List.take_succ_cons, List.take_zero]
   rw [hb] at h32
   try simp only [go_sem, simprocAttr, h1, h32]
   repeat' (refine And.intro (by first | rfl | omega | (simp; done)) ?_)
   refine opS_call_ro rfl (sat_spec_GuessOk c.guesses c.guesses.length (Nat.le_trans hf.2.2 (by decide))) ?ha ?hv ?hh ?_
   case ha => simp only [go_sem, simprocAttr, h1, h32]; first | done | rfl
   case hv => first | rfl | (simp only [go_sem]; done)
   case hh => first | rfl | (simp only [go_sem]; done)
   try simp only [go_sem, simprocAttr, h1, h32]
   repeat' (refine And.intro (by first | rfl | omega | (simp; done)) ?_)
   exact hK1 _ (by simp only [go_sem, simprocAttr, h1, h32]) (by simp only [go_sem, simprocAttr, h1, h32]; exact rfl) (by simp only [go_sem, simprocAttr, h1, h32])
  simp only [List.drop_succ_cons, List.drop_zero]
  clear hL h1 h32
  have h36 := hP
  clear hP
  try simp only [go_sem, simprocAttr, h36]
  repeat' (refine And.intro (by first | rfl | omega | (simp; done)) ?_)
  refine hK _ _ (.mk (awl_live' [2] fun ρ hL => ?_))
  try simp only [go_sem, simprocAttr, h36] at hL
  try clear h36
  have h2 := hL
  clear hL
  clear hK K
  refine awl_ret ?_
  refine ret0 (by simp only [go_sem, simprocAttr, h2]; exact rfl) ?_
  try simp only [go_sem, simprocAttr]
  all_goals try clear hR1
  all_goals (rw [AV.bool.injEq, corOk, j1_0, Bool.true_and]; rw [show (decide ((c.rob.length : Int) ≤ 6)) = decide (c.rob.length ≤ 6) by rw [decide_eq_decide]; omega] <;> ac_rfl)
end Go.Proofs.YtopjagninmjkbaaGreat.AM
