/- What is made of words; reach; guesses. No conditions but those each theorem bears. -/
import Derived.Test.YtopjagninmjkbaaGreatFa
import Derived.Test.YtopjagninmjkbaaGreatM4
import Derived.Test.YtopjagninmjkbaaGreatCa5
set_option linter.unusedSimpArgs false
set_option linter.unusedVariables false
namespace Go.Proofs.YtopjagninmjkbaaGreat.AM
open Go

set_option maxHeartbeats 8000000 in
set_option maxRecDepth 100000 in
theorem sat_spec_l4Open (w : Word)  : Sat Tryz.prog 96 [.agg w.cells] [] (.bool (opened w)) [] := by
 refine sat_mk [.tmp 2] 0 15 Tryz.call96 Tryz.func96 Tryz.ntmps96 rfl rfl rfl rfl rfl ?_
 refine awl_live' [0] fun ρ hL => ?_
 try simp only [go_sem, simprocAttr] at hL
 have h0 := hL
 clear hL
 refine awl_seq ?_
 refine awl_regS _ rfl fun K hK => ?_
 try simp only [go_sem, simprocAttr, h0]
 repeat' (refine And.intro (by first | rfl | omega | (simp; done)) ?_)
 refine hK _ _ (.mk (awl_live' [1] fun ρ hL => ?_))
 try simp only [go_sem, simprocAttr, h0] at hL
 try clear h0
 have h1 := hL
 clear hL
 clear hK K
 refine awl_seq ?_
 refine awl_regS _ rfl fun K hK => ?_
 try simp only [go_sem, simprocAttr, h1]
 repeat' (refine And.intro (by first | rfl | omega | (simp; done)) ?_)
 refine opS_call_ro rfl (sat_spec_WordOk ?_) ?ha ?hv ?hh ?_
 case ha => simp only [go_sem, simprocAttr, h1]; first | done | rfl
 case hv => first | rfl | (simp only [go_sem]; done)
 case hh => first | rfl | (simp only [go_sem]; done)
 try simp only [go_sem, simprocAttr, h1]
 repeat' (refine And.intro (by first | rfl | omega | (simp; done)) ?_)
 refine awpS_live [1, 5] fun ρ hL => ?_
 try simp only [go_sem, simprocAttr, h1] at hL
 try clear h1
 obtain ⟨h1, h5⟩ := hL
 refine grp_andN (tc := 5) (tv := 7) (td := 8) (v := ?v1) 2 rfl [1] h5 rfl (fun hb K1 hK1 => ?run) (fun hb => ?skip) (fun ρ hP hL => ?_)
 case skip =>
  exact awpS_skip (want := true) (b := _) (by rw [hb]; rfl) _ [] ρ h5 (fun _ _ => rfl) (by simp) rfl
 case run =>
  simp only [List.take_succ_cons, List.take_zero]
  rw [hb] at h5
  try simp only [go_sem, simprocAttr, h1, h5]
  repeat' (refine And.intro (by first | rfl | omega | (simp; done)) ?_)
  exact hK1 _ (by simp only [go_sem, simprocAttr, h1, h5]) (by simp only [go_sem, simprocAttr, h1, h5]; exact rfl) (by simp only [go_sem, simprocAttr, h1, h5])
 simp only [List.drop_succ_cons, List.drop_zero]
 try simp only [go_sem, simprocAttr, h1, h5] at hL
 try clear h1 h5
 have h1 := hL
 clear hL
 have h8 := hP
 clear hP
 try simp only [go_sem, simprocAttr, h1, h8]
 repeat' (refine And.intro (by first | rfl | omega | (simp; done)) ?_)
 refine awpS_live [1, 9] fun ρ hL => ?_
 try simp only [go_sem, simprocAttr, h1, h8] at hL
 try clear h1 h8
 obtain ⟨h1, h9⟩ := hL
 refine grp_andN (tc := 9) (tv := 13) (td := 14) (v := ?v2) 4 rfl [] h9 rfl (fun hb K1 hK1 => ?run) (fun hb => ?skip) (fun ρ hP hL => ?_)
 case skip =>
  exact awpS_skip (want := true) (b := _) (by rw [hb]; rfl) _ [] ρ h9 (fun _ _ => rfl) (by simp) rfl
 case run =>
  simp only [List.take_succ_cons, List.take_zero]
  rw [hb] at h9
  try simp only [go_sem, simprocAttr, h1, h9]
  repeat' (refine And.intro (by first | rfl | omega | (simp; done)) ?_)
  exact hK1 _ (by simp only [go_sem, simprocAttr, h1, h9]) (by simp only [go_sem, simprocAttr, h1, h9]; exact rfl) (by simp only [go_sem, simprocAttr, h1, h9])
 simp only [List.drop_succ_cons, List.drop_zero]
 clear hL h1 h9
 have h14 := hP
 clear hP
 try simp only [go_sem, simprocAttr, h14]
 repeat' (refine And.intro (by first | rfl | omega | (simp; done)) ?_)
 refine hK _ _ (.mk (awl_live' [2] fun ρ hL => ?_))
 try simp only [go_sem, simprocAttr, h14] at hL
 try clear h14
 have h2 := hL
 clear hL
 clear hK K
 refine awl_ret ?_
 refine ret0 (by simp only [go_sem, simprocAttr, h2]; exact rfl) ?_
 try simp only [go_sem, simprocAttr]
 all_goals (first | done | rfl | (simp; done) | (simp [opened]; done) | (simp_all [opened]; done) | (simp [opened]; grind))
set_option maxHeartbeats 8000000 in
set_option maxRecDepth 100000 in
theorem sat_impl_open (w : Word)  : Sat Tryz.prog 111 [.agg w.cells] [] (.bool (opened w)) [] := by
 refine sat_mk [.tmp 2] 0 15 Tryz.call111 Tryz.func111 Tryz.ntmps111 rfl rfl rfl rfl rfl ?_
 refine awl_live' [0] fun ρ hL => ?_
 try simp only [go_sem, simprocAttr] at hL
 have h0 := hL
 clear hL
 refine awl_seq ?_
 refine awl_regS _ rfl fun K hK => ?_
 try simp only [go_sem, simprocAttr, h0]
 repeat' (refine And.intro (by first | rfl | omega | (simp; done)) ?_)
 refine hK _ _ (.mk (awl_live' [1] fun ρ hL => ?_))
 try simp only [go_sem, simprocAttr, h0] at hL
 try clear h0
 have h1 := hL
 clear hL
 clear hK K
 refine awl_seq ?_
 refine awl_regS _ rfl fun K hK => ?_
 try simp only [go_sem, simprocAttr, h1]
 repeat' (refine And.intro (by first | rfl | omega | (simp; done)) ?_)
 refine opS_call_ro rfl (sat_impl_WordOk ?_) ?ha ?hv ?hh ?_
 case ha => simp only [go_sem, simprocAttr, h1]; first | done | rfl
 case hv => first | rfl | (simp only [go_sem]; done)
 case hh => first | rfl | (simp only [go_sem]; done)
 try simp only [go_sem, simprocAttr, h1]
 repeat' (refine And.intro (by first | rfl | omega | (simp; done)) ?_)
 refine awpS_live [1, 5] fun ρ hL => ?_
 try simp only [go_sem, simprocAttr, h1] at hL
 try clear h1
 obtain ⟨h1, h5⟩ := hL
 refine grp_andN (tc := 5) (tv := 7) (td := 8) (v := ?v1) 2 rfl [1] h5 rfl (fun hb K1 hK1 => ?run) (fun hb => ?skip) (fun ρ hP hL => ?_)
 case skip =>
  exact awpS_skip (want := true) (b := _) (by rw [hb]; rfl) _ [] ρ h5 (fun _ _ => rfl) (by simp) rfl
 case run =>
  simp only [List.take_succ_cons, List.take_zero]
  rw [hb] at h5
  try simp only [go_sem, simprocAttr, h1, h5]
  repeat' (refine And.intro (by first | rfl | omega | (simp; done)) ?_)
  exact hK1 _ (by simp only [go_sem, simprocAttr, h1, h5]) (by simp only [go_sem, simprocAttr, h1, h5]; exact rfl) (by simp only [go_sem, simprocAttr, h1, h5])
 simp only [List.drop_succ_cons, List.drop_zero]
 try simp only [go_sem, simprocAttr, h1, h5] at hL
 try clear h1 h5
 have h1 := hL
 clear hL
 have h8 := hP
 clear hP
 try simp only [go_sem, simprocAttr, h1, h8]
 repeat' (refine And.intro (by first | rfl | omega | (simp; done)) ?_)
 refine awpS_live [1, 9] fun ρ hL => ?_
 try simp only [go_sem, simprocAttr, h1, h8] at hL
 try clear h1 h8
 obtain ⟨h1, h9⟩ := hL
 refine grp_andN (tc := 9) (tv := 13) (td := 14) (v := ?v2) 4 rfl [] h9 rfl (fun hb K1 hK1 => ?run) (fun hb => ?skip) (fun ρ hP hL => ?_)
 case skip =>
  exact awpS_skip (want := true) (b := _) (by rw [hb]; rfl) _ [] ρ h9 (fun _ _ => rfl) (by simp) rfl
 case run =>
  simp only [List.take_succ_cons, List.take_zero]
  rw [hb] at h9
  try simp only [go_sem, simprocAttr, h1, h9]
  repeat' (refine And.intro (by first | rfl | omega | (simp; done)) ?_)
  exact hK1 _ (by simp only [go_sem, simprocAttr, h1, h9]) (by simp only [go_sem, simprocAttr, h1, h9]; exact rfl) (by simp only [go_sem, simprocAttr, h1, h9])
 simp only [List.drop_succ_cons, List.drop_zero]
 clear hL h1 h9
 have h14 := hP
 clear hP
 try simp only [go_sem, simprocAttr, h14]
 repeat' (refine And.intro (by first | rfl | omega | (simp; done)) ?_)
 refine hK _ _ (.mk (awl_live' [2] fun ρ hL => ?_))
 try simp only [go_sem, simprocAttr, h14] at hL
 try clear h14
 have h2 := hL
 clear hL
 clear hK K
 refine awl_ret ?_
 refine ret0 (by simp only [go_sem, simprocAttr, h2]; exact rfl) ?_
 try simp only [go_sem, simprocAttr]
 all_goals (first | done | rfl | (simp; done) | (simp [opened]; done) | (simp_all [opened]; done) | (simp [opened]; grind))
set_option maxHeartbeats 8000000 in
set_option maxRecDepth 100000 in
theorem sat_spec_Point (w : Word) (n : Int)  : Sat Tryz.prog 62 [.agg w.cells, .int .i64 n] [] (.agg (Word.cells (point w n))) [] := by
 refine sat_mk [.cell 4 42] 0 14 Tryz.call62 Tryz.func62 Tryz.ntmps62 rfl rfl rfl rfl rfl ?_
 refine awl_live' [0, 1] fun ρ hL => ?_
 try simp only [go_sem, simprocAttr] at hL
 obtain ⟨h0, h1⟩ := hL
 refine awl_seq ?_
 refine awl_regS _ rfl fun K hK => ?_
 try simp only [go_sem, simprocAttr, h0, h1]
 repeat' (refine And.intro (by first | rfl | omega | (simp; done)) ?_)
 refine hK _ _ (.mk (awl_live' [1, 2, 4] fun ρ hL => ?_))
 try simp only [go_sem, simprocAttr, h0, h1] at hL
 try clear h0 h1
 obtain ⟨h1, h2, h4⟩ := hL
 clear hK K
 refine awl_seq ?_
 refine awl_seq ?_
 refine awl_regS _ rfl fun K hK => ?_
 try simp only [go_sem, simprocAttr, h1, h2, h4]
 repeat' (refine And.intro (by first | rfl | omega | (simp; done)) ?_)
 refine opS_call_ro rfl (sat_spec_l4Open ?_) ?ha ?hv ?hh ?_
 case ha => simp only [go_sem, simprocAttr, h1, h2, h4]; first | done | rfl
 case hv => first | rfl | (simp only [go_sem]; done)
 case hh => first | rfl | (simp only [go_sem]; done)
 try simp only [go_sem, simprocAttr, h1, h2, h4]
 repeat' (refine And.intro (by first | rfl | omega | (simp; done)) ?_)
 refine hK _ _ (.mk (awl_live' [1, 2, 4, 7] fun ρ hL => ?_))
 try simp only [go_sem, simprocAttr, h1, h2, h4] at hL
 try clear h1 h2 h4
 obtain ⟨h1, h2, h4, h7⟩ := hL
 clear hK K
 refine awl_cond h7 (fun c1 => ?_) (fun c1 => ?_)
 ·
  try simp only [cnd] at c1
  refine awl_seq ?_
  refine awl_regS _ rfl fun K hK => ?_
  try simp only [go_sem, simprocAttr, h1, h2, h4, h7]
  repeat' (refine And.intro (by first | rfl | omega | (simp; done)) ?_)
  refine opS_call_ro rfl (sat_spec_Plain ?_) ?ha ?hv ?hh ?_
  case ha => simp only [go_sem, simprocAttr, h1, h2, h4, h7]; first | done | rfl
  case hv => first | rfl | (simp only [go_sem]; done)
  case hh => first | rfl | (simp only [go_sem]; done)
  try simp only [go_sem, simprocAttr, h1, h2, h4, h7]
  repeat' (refine And.intro (by first | rfl | omega | (simp; done)) ?_)
  refine hK _ _ (.mk (awl_live' [4] fun ρ hL => ?_))
  try simp only [go_sem, simprocAttr, h1, h2, h4, h7] at hL
  try clear h1 h2 h4 h7
  have h4 := hL
  clear hL
  clear hK K
  refine awl_ret ?_
  refine ret0 (by simp only [go_sem, simprocAttr, h4]; exact rfl) ?_
  try simp only [go_sem, simprocAttr]
  all_goals (first | done | rfl | (simp; done) | (simp [point, plain, low, band, noKey]; done) | (simp_all [point, plain, low, band, noKey]; done) | (simp [point, plain, low, band, noKey]; grind))
 ·
  try simp only [cnd] at c1
  refine awl_skip ?_
  refine awl_seq ?_
  refine awl_regS _ rfl fun K hK => ?_
  try simp only [go_sem, simprocAttr, h1, h2, h4, h7]
  repeat' (refine And.intro (by first | rfl | omega | (simp; done)) ?_)
  refine hK _ _ (.mk (awl_live' [2, 4] fun ρ hL => ?_))
  try simp only [go_sem, simprocAttr, h1, h2, h4, h7] at hL
  try clear h1 h2 h4 h7
  obtain ⟨h2, h4⟩ := hL
  clear hK K
  refine awl_seq ?_
  refine awl_regS _ rfl fun K hK => ?_
  try simp only [go_sem, simprocAttr, h2, h4]
  repeat' (refine And.intro (by first | rfl | omega | (simp; done)) ?_)
  refine hK _ _ (.mk (awl_live' [4] fun ρ hL => ?_))
  try simp only [go_sem, simprocAttr, h2, h4] at hL
  try clear h2 h4
  have h4 := hL
  clear hL
  clear hK K
  refine awl_ret ?_
  refine ret0 (by simp only [go_sem, simprocAttr, h4]; exact rfl) ?_
  try simp only [go_sem, simprocAttr]
  all_goals (have := opened_is (by simpa using c1); simp_all [point, plain, low, band, noKey])
set_option maxHeartbeats 8000000 in
set_option maxRecDepth 100000 in
theorem sat_impl_Point (w : Word) (n : Int)  : Sat Tryz.prog 79 [.agg w.cells, .int .i64 n] [] (.agg (Word.cells (point w n))) [] := by
 refine sat_mk [.cell 4 42] 0 15 Tryz.call79 Tryz.func79 Tryz.ntmps79 rfl rfl rfl rfl rfl ?_
 refine awl_live' [0, 1] fun ρ hL => ?_
 try simp only [go_sem, simprocAttr] at hL
 obtain ⟨h0, h1⟩ := hL
 refine awl_seq ?_
 refine awl_regS _ rfl fun K hK => ?_
 try simp only [go_sem, simprocAttr, h0, h1]
 repeat' (refine And.intro (by first | rfl | omega | (simp; done)) ?_)
 refine hK _ _ (.mk (awl_live' [1, 2, 4] fun ρ hL => ?_))
 try simp only [go_sem, simprocAttr, h0, h1] at hL
 try clear h0 h1
 obtain ⟨h1, h2, h4⟩ := hL
 clear hK K
 refine awl_seq ?_
 refine awl_regS _ rfl fun K hK => ?_
 try simp only [go_sem, simprocAttr, h1, h2, h4]
 repeat' (refine And.intro (by first | rfl | omega | (simp; done)) ?_)
 refine opS_call_ro rfl (sat_impl_Plain ?_) ?ha ?hv ?hh ?_
 case ha => simp only [go_sem, simprocAttr, h1, h2, h4]; first | done | rfl
 case hv => first | rfl | (simp only [go_sem]; done)
 case hh => first | rfl | (simp only [go_sem]; done)
 try simp only [go_sem, simprocAttr, h1, h2, h4]
 repeat' (refine And.intro (by first | rfl | omega | (simp; done)) ?_)
 refine hK _ _ (.mk (awl_live' [2, 4, 5] fun ρ hL => ?_))
 try simp only [go_sem, simprocAttr, h1, h2, h4] at hL
 try clear h1 h2 h4
 obtain ⟨h2, h4, h5⟩ := hL
 clear hK K
 refine awl_seq ?_
 refine awl_seq ?_
 refine awl_regS _ rfl fun K hK => ?_
 try simp only [go_sem, simprocAttr, h2, h4, h5]
 repeat' (refine And.intro (by first | rfl | omega | (simp; done)) ?_)
 refine opS_call_ro rfl (sat_impl_open ?_) ?ha ?hv ?hh ?_
 case ha => simp only [go_sem, simprocAttr, h2, h4, h5]; first | done | rfl
 case hv => first | rfl | (simp only [go_sem]; done)
 case hh => first | rfl | (simp only [go_sem]; done)
 try simp only [go_sem, simprocAttr, h2, h4, h5]
 repeat' (refine And.intro (by first | rfl | omega | (simp; done)) ?_)
 refine hK _ _ (.mk (awl_live' [2, 4, 5, 9] fun ρ hL => ?_))
 try simp only [go_sem, simprocAttr, h2, h4, h5] at hL
 try clear h2 h4 h5
 obtain ⟨h2, h4, h5, h9⟩ := hL
 clear hK K
 refine awl_cond h9 (fun c1 => ?_) (fun c1 => ?_)
 ·
  try simp only [cnd] at c1
  refine awl_regD mixed _ rfl fun K hK => ?_
  try simp only [go_sem, simprocAttr, h2, h4, h5, h9]
  repeat' (refine And.intro (by first | omega | (exact ⟨[0, 1, 0, 4, 15, 31], by kernel_rfl⟩) | kernel_rfl) ?_)
  refine hK _ _ (.mk (awl_live' [4, 5] fun ρ hL => ?_))
  try simp only [go_sem, simprocAttr, h2, h4, h5, h9] at hL
  try clear h2 h4 h5 h9
  obtain ⟨h4, h5⟩ := hL
  clear hK K
  refine awl_seq ?_
  refine awl_regS _ rfl fun K hK => ?_
  try simp only [go_sem, simprocAttr, h4, h5]
  repeat' (refine And.intro (by first | rfl | omega | (simp; done)) ?_)
  refine hK _ _ (.mk (awl_live' [4] fun ρ hL => ?_))
  try simp only [go_sem, simprocAttr, h4, h5] at hL
  try clear h4 h5
  have h4 := hL
  clear hL
  clear hK K
  refine awl_ret ?_
  refine ret0 (by simp only [go_sem, simprocAttr, h4]; exact rfl) ?_
  try simp only [go_sem, simprocAttr]
  all_goals (have := opened_is (by simpa using c1); simp_all [point, plain, low, band, noKey])
 ·
  try simp only [cnd] at c1
  refine awl_skip ?_
  refine awl_seq ?_
  refine awl_regS _ rfl fun K hK => ?_
  try simp only [go_sem, simprocAttr, h2, h4, h5, h9]
  repeat' (refine And.intro (by first | rfl | omega | (simp; done)) ?_)
  refine hK _ _ (.mk (awl_live' [4] fun ρ hL => ?_))
  try simp only [go_sem, simprocAttr, h2, h4, h5, h9] at hL
  try clear h2 h4 h5 h9
  have h4 := hL
  clear hL
  clear hK K
  refine awl_ret ?_
  refine ret0 (by simp only [go_sem, simprocAttr, h4]; exact rfl) ?_
  try simp only [go_sem, simprocAttr]
  all_goals (first | done | rfl | (simp; done) | (simp [point, plain, low, band, noKey]; done) | (simp_all [point, plain, low, band, noKey]; done) | (simp [point, plain, low, band, noKey]; grind))
set_option maxHeartbeats 8000000 in
set_option maxRecDepth 100000 in
theorem sat_spec_Try (w : Word) (n : Int) (p : Int)  : Sat Tryz.prog 59 [.agg w.cells, .int .i64 n, .int .i64 p] [] (.int .i64 (tryW w n p)) [] := by
 refine sat_mk [.tmp 6] 0 42 Tryz.call59 Tryz.func59 Tryz.ntmps59 rfl rfl rfl rfl rfl ?_
 refine awl_live' [0, 1, 2] fun ρ hL => ?_
 try simp only [go_sem, simprocAttr] at hL
 obtain ⟨h0, h1, h2⟩ := hL
 refine awl_seq ?_
 refine awl_regS _ rfl fun K hK => ?_
 try simp only [go_sem, simprocAttr, h0, h1, h2]
 repeat' (refine And.intro (by first | rfl | omega | (simp; done)) ?_)
 refine hK _ _ (.mk (awl_live' [1, 2, 3] fun ρ hL => ?_))
 try simp only [go_sem, simprocAttr, h0, h1, h2] at hL
 try clear h0 h1 h2
 obtain ⟨h1, h2, h3⟩ := hL
 clear hK K
 refine awl_seq ?_
 refine awl_block fun R1 hw1 hR1 => ?_
 refine awl_seq ?_
 refine awl_regS _ rfl fun K hK => ?_
 try simp only [go_sem, simprocAttr, h1, h2, h3]
 repeat' (refine And.intro (by first | rfl | omega | (simp; done)) ?_)
 refine opS_call_ro rfl (sat_spec_WordOk ?_) ?ha ?hv ?hh ?_
 case ha => simp only [go_sem, simprocAttr, h1, h2, h3]; first | done | rfl
 case hv => first | rfl | (simp only [go_sem]; done)
 case hh => first | rfl | (simp only [go_sem]; done)
 try simp only [go_sem, simprocAttr, h1, h2, h3]
 repeat' (refine And.intro (by first | rfl | omega | (simp; done)) ?_)
 refine awpS_live [1, 2, 3, 11] fun ρ hL => ?_
 try simp only [go_sem, simprocAttr, h1, h2, h3] at hL
 try clear h1 h2 h3
 obtain ⟨h1, h2, h3, h11⟩ := hL
 refine grp_orN (tc := 11) (tv := 14) (td := 15) (v := ?v1) 3 rfl [1, 2, 3] h11 rfl (fun hb K1 hK1 => ?run) (fun hb => ?skip) (fun ρ hP hL => ?_)
 case skip =>
  exact awpS_skip (want := false) (b := _) (by rw [hb]; rfl) _ [] ρ h11 (fun _ _ => rfl) (by simp) rfl
 case run =>
  simp only [List.take_succ_cons, List.take_zero]
  rw [hb] at h11
  try simp only [go_sem, simprocAttr, h1, h2, h3, h11]
  repeat' (refine And.intro (by first | rfl | omega | (simp; done)) ?_)
  exact hK1 _ (by simp only [go_sem, simprocAttr, h1, h2, h3, h11]) (by simp only [go_sem, simprocAttr, h1, h2, h3, h11]; exact rfl) (by simp only [go_sem, simprocAttr, h1, h2, h3, h11])
 simp only [List.drop_succ_cons, List.drop_zero]
 try simp only [go_sem, simprocAttr, h1, h2, h3, h11] at hL
 try clear h1 h2 h3 h11
 obtain ⟨h1, h2, h3⟩ := hL
 have h15 := hP
 clear hP
 try simp only [go_sem, simprocAttr, h1, h2, h3, h15]
 repeat' (refine And.intro (by first | rfl | omega | (simp; done)) ?_)
 refine hK _ _ (.mk (awl_live' [1, 2, 3, 7] fun ρ hL => ?_))
 try simp only [go_sem, simprocAttr, h1, h2, h3, h15] at hL
 try clear h1 h2 h3 h15
 obtain ⟨h1, h2, h3, h7⟩ := hL
 clear hK K
 refine awl_cond h7 (fun c1 => ?_) (fun c1 => ?_)
 ·
  try simp only [cnd] at c1
  refine awl_seq ?_
  refine awl_regS _ rfl fun K hK => ?_
  try simp only [go_sem, simprocAttr, h1, h2, h3, h7]
  repeat' (refine And.intro (by first | rfl | omega | (simp; done)) ?_)
  refine hK _ _ (.mk (awl_live' [6] fun ρ hL => ?_))
  try simp only [go_sem, simprocAttr, h1, h2, h3, h7] at hL
  try clear h1 h2 h3 h7
  have h6 := hL
  clear hL
  clear hK K
  refine awl_ret ?_
  refine blk_ret ?_
  refine ret0 (by simp only [go_sem, simprocAttr, h6]; exact rfl) ?_
  try simp only [go_sem, simprocAttr]
  all_goals try clear hR1
  all_goals (simp_all [tryW])
 ·
  try simp only [cnd] at c1
  refine awl_seq ?_
  refine awl_regS _ rfl fun K hK => ?_
  try simp only [go_sem, simprocAttr, h1, h2, h3, h7]
  repeat' (refine And.intro (by first | rfl | omega | (simp; done)) ?_)
  refine hK _ _ (.mk (awl_live' [1, 2, 3, 16] fun ρ hL => ?_))
  try simp only [go_sem, simprocAttr, h1, h2, h3, h7] at hL
  try clear h1 h2 h3 h7
  obtain ⟨h1, h2, h3, h16⟩ := hL
  clear hK K
  refine awl_cond h16 (fun c2 => ?_) (fun c2 => ?_)
  ·
   try simp only [cnd] at c2
   refine awl_seq ?_
   refine awl_regS _ rfl fun K hK => ?_
   try simp only [go_sem, simprocAttr, h1, h2, h3, h16]
   repeat' (refine And.intro (by first | rfl | omega | (simp; done)) ?_)
   refine hK _ _ (.mk (awl_live' [6] fun ρ hL => ?_))
   try simp only [go_sem, simprocAttr, h1, h2, h3, h16] at hL
   try clear h1 h2 h3 h16
   have h6 := hL
   clear hL
   clear hK K
   refine awl_ret ?_
   refine blk_ret ?_
   refine ret0 (by simp only [go_sem, simprocAttr, h6]; exact rfl) ?_
   try simp only [go_sem, simprocAttr]
   all_goals try clear hR1
   all_goals (simp_all [tryW])
  ·
   try simp only [cnd] at c2
   refine awl_seq ?_
   refine awl_regS _ rfl fun K hK => ?_
   try simp only [go_sem, simprocAttr, h1, h2, h3, h16]
   repeat' (refine And.intro (by first | rfl | omega | (simp; done)) ?_)
   refine hK _ _ (.mk (awl_live' [1, 3, 21] fun ρ hL => ?_))
   try simp only [go_sem, simprocAttr, h1, h2, h3, h16] at hL
   try clear h1 h2 h3 h16
   obtain ⟨h1, h3, h21⟩ := hL
   clear hK K
   refine awl_cond h21 (fun c3 => ?_) (fun c3 => ?_)
   ·
    try simp only [cnd] at c3
    refine awl_seq ?_
    refine awl_regS _ rfl fun K hK => ?_
    try simp only [go_sem, simprocAttr, h1, h3, h21]
    repeat' (refine And.intro (by first | rfl | omega | (simp; done)) ?_)
    refine hK _ _ (.mk (awl_live' [6] fun ρ hL => ?_))
    try simp only [go_sem, simprocAttr, h1, h3, h21] at hL
    try clear h1 h3 h21
    have h6 := hL
    clear hL
    clear hK K
    refine awl_ret ?_
    refine blk_ret ?_
    refine ret0 (by simp only [go_sem, simprocAttr, h6]; exact rfl) ?_
    try simp only [go_sem, simprocAttr]
    all_goals try clear hR1
    all_goals (simp_all [tryW, band])
   ·
    try simp only [cnd] at c3
    refine awl_seq ?_
    refine awl_regS _ rfl fun K hK => ?_
    try simp only [go_sem, simprocAttr, h1, h3, h21]
    repeat' (refine And.intro (by first | rfl | omega | (simp; done)) ?_)
    refine awpS_live [1, 3, 35] fun ρ hL => ?_
    try simp only [go_sem, simprocAttr, h1, h3, h21] at hL
    try clear h1 h3 h21
    obtain ⟨h1, h3, h35⟩ := hL
    refine grp_orN (tc := 35) (tv := 40) (td := 41) (v := ?v2) 5 rfl [] h35 rfl (fun hb K1 hK1 => ?run) (fun hb => ?skip) (fun ρ hP hL => ?_)
    case skip =>
     exact awpS_skip (want := false) (b := _) (by rw [hb]; rfl) _ [] ρ h35 (fun _ _ => rfl) (by simp) rfl
    case run =>
     simp only [List.take_succ_cons, List.take_zero]
     rw [hb] at h35
     try simp only [go_sem, simprocAttr, h1, h3, h35]
     repeat' (refine And.intro (by first | rfl | omega | (simp; done)) ?_)
     exact hK1 _ (by simp only [go_sem, simprocAttr, h1, h3, h35]) (by simp only [go_sem, simprocAttr, h1, h3, h35]; exact rfl) (by simp only [go_sem, simprocAttr, h1, h3, h35])
    simp only [List.drop_succ_cons, List.drop_zero]
    clear hL h1 h3 h35
    have h41 := hP
    clear hP
    try simp only [go_sem, simprocAttr, h41]
    repeat' (refine And.intro (by first | rfl | omega | (simp; done)) ?_)
    refine hK _ _ (.mk (awl_live' [29] fun ρ hL => ?_))
    try simp only [go_sem, simprocAttr, h41] at hL
    try clear h41
    have h29 := hL
    clear hL
    clear hK K
    refine awl_cond h29 (fun c4 => ?_) (fun c4 => ?_)
    ·
     try simp only [cnd] at c4
     refine awl_seq ?_
     refine awl_regS _ rfl fun K hK => ?_
     try simp only [go_sem, simprocAttr, h29]
     repeat' (refine And.intro (by first | rfl | omega | (simp; done)) ?_)
     refine hK _ _ (.mk (awl_live' [6] fun ρ hL => ?_))
     try simp only [go_sem, simprocAttr, h29] at hL
     try clear h29
     have h6 := hL
     clear hL
     clear hK K
     refine awl_ret ?_
     refine blk_ret ?_
     refine ret0 (by simp only [go_sem, simprocAttr, h6]; exact rfl) ?_
     try simp only [go_sem, simprocAttr]
     all_goals try clear hR1
     all_goals (simp_all [tryW, band] <;> omega)
    ·
     try simp only [cnd] at c4
     refine awl_skip ?_
     refine awl_nil ?_
     refine blk_normal (hR1 _ _ (.mk ?_))
     refine awl_seq ?_
     refine awl_regS _ rfl fun K hK => ?_
     try simp only [go_sem, simprocAttr, h29]
     repeat' (refine And.intro (by first | rfl | omega | (simp; done)) ?_)
     refine hK _ _ (.mk (awl_live' [6] fun ρ hL => ?_))
     try simp only [go_sem, simprocAttr, h29] at hL
     try clear h29
     have h6 := hL
     clear hL
     clear hK K
     refine awl_ret ?_
     refine ret0 (by simp only [go_sem, simprocAttr, h6]; exact rfl) ?_
     try simp only [go_sem, simprocAttr]
     all_goals try clear hR1
     all_goals (simp_all [tryW, band] <;> omega)
set_option maxHeartbeats 8000000 in
set_option maxRecDepth 100000 in
theorem sat_impl_Try (w : Word) (n : Int) (p : Int) (hp : 0 ≤ p ∧ p ≤ 63) : Sat Tryz.prog 76 [.agg w.cells, .int .i64 n, .int .i64 p] [] (.int .i64 (tryW w n p)) [] := by
 refine sat_mk [.tmp 6] 0 41 Tryz.call76 Tryz.func76 Tryz.ntmps76 rfl rfl rfl rfl rfl ?_
 refine awl_live' [0, 1, 2] fun ρ hL => ?_
 try simp only [go_sem, simprocAttr] at hL
 obtain ⟨h0, h1, h2⟩ := hL
 refine awl_seq ?_
 refine awl_regS _ rfl fun K hK => ?_
 try simp only [go_sem, simprocAttr, h0, h1, h2]
 repeat' (refine And.intro (by first | rfl | omega | (simp; done)) ?_)
 refine hK _ _ (.mk (awl_live' [1, 2, 3] fun ρ hL => ?_))
 try simp only [go_sem, simprocAttr, h0, h1, h2] at hL
 try clear h0 h1 h2
 obtain ⟨h1, h2, h3⟩ := hL
 clear hK K
 refine awl_seq ?_
 refine awl_block fun R1 hw1 hR1 => ?_
 refine awl_seq ?_
 refine awl_regS _ rfl fun K hK => ?_
 try simp only [go_sem, simprocAttr, h1, h2, h3]
 repeat' (refine And.intro (by first | rfl | omega | (simp; done)) ?_)
 refine awpS_live [1, 2, 3, 11] fun ρ hL => ?_
 try simp only [go_sem, simprocAttr, h1, h2, h3] at hL
 try clear h1 h2 h3
 obtain ⟨h1, h2, h3, h11⟩ := hL
 refine grp_orN (tc := 11) (tv := 14) (td := 15) (v := ?v1) 3 rfl [1, 2, 3] h11 rfl (fun hb K1 hK1 => ?run) (fun hb => ?skip) (fun ρ hP hL => ?_)
 case skip =>
  exact awpS_skip (want := false) (b := _) (by rw [hb]; rfl) _ [] ρ h11 (fun _ _ => rfl) (by simp) rfl
 case run =>
  simp only [List.take_succ_cons, List.take_zero]
  rw [hb] at h11
  try simp only [go_sem, simprocAttr, h1, h2, h3, h11]
  repeat' (refine And.intro (by first | rfl | omega | (simp; done)) ?_)
  refine opS_call_ro rfl (sat_impl_WordOk ?_) ?ha ?hv ?hh ?_
  case ha => simp only [go_sem, simprocAttr, h1, h2, h3, h11]; first | done | rfl
  case hv => first | rfl | (simp only [go_sem]; done)
  case hh => first | rfl | (simp only [go_sem]; done)
  try simp only [go_sem, simprocAttr, h1, h2, h3, h11]
  repeat' (refine And.intro (by first | rfl | omega | (simp; done)) ?_)
  exact hK1 _ (by simp only [go_sem, simprocAttr, h1, h2, h3, h11]) (by simp only [go_sem, simprocAttr, h1, h2, h3, h11]; exact rfl) (by simp only [go_sem, simprocAttr, h1, h2, h3, h11])
 simp only [List.drop_succ_cons, List.drop_zero]
 try simp only [go_sem, simprocAttr, h1, h2, h3, h11] at hL
 try clear h1 h2 h3 h11
 obtain ⟨h1, h2, h3⟩ := hL
 have h15 := hP
 clear hP
 try simp only [go_sem, simprocAttr, h1, h2, h3, h15]
 repeat' (refine And.intro (by first | rfl | omega | (simp; done)) ?_)
 refine hK _ _ (.mk (awl_live' [1, 2, 3, 7] fun ρ hL => ?_))
 try simp only [go_sem, simprocAttr, h1, h2, h3, h15] at hL
 try clear h1 h2 h3 h15
 obtain ⟨h1, h2, h3, h7⟩ := hL
 clear hK K
 refine awl_cond h7 (fun c1 => ?_) (fun c1 => ?_)
 ·
  try simp only [cnd] at c1
  refine awl_seq ?_
  refine awl_regS _ rfl fun K hK => ?_
  try simp only [go_sem, simprocAttr, h1, h2, h3, h7]
  repeat' (refine And.intro (by first | rfl | omega | (simp; done)) ?_)
  refine hK _ _ (.mk (awl_live' [6] fun ρ hL => ?_))
  try simp only [go_sem, simprocAttr, h1, h2, h3, h7] at hL
  try clear h1 h2 h3 h7
  have h6 := hL
  clear hL
  clear hK K
  refine awl_ret ?_
  refine blk_ret ?_
  refine ret0 (by simp only [go_sem, simprocAttr, h6]; exact rfl) ?_
  try simp only [go_sem, simprocAttr]
  all_goals try clear hR1
  all_goals (rcases c1 with c1 | c1 <;> simp_all [tryW])
 ·
  try simp only [cnd] at c1
  refine awl_seq ?_
  refine awl_regS _ rfl fun K hK => ?_
  try simp only [go_sem, simprocAttr, h1, h2, h3, h7]
  repeat' (refine And.intro (by first | rfl | omega | (simp; done)) ?_)
  refine hK _ _ (.mk (awl_live' [1, 2, 3, 16] fun ρ hL => ?_))
  try simp only [go_sem, simprocAttr, h1, h2, h3, h7] at hL
  try clear h1 h2 h3 h7
  obtain ⟨h1, h2, h3, h16⟩ := hL
  clear hK K
  refine awl_cond h16 (fun c2 => ?_) (fun c2 => ?_)
  ·
   try simp only [cnd] at c2
   refine awl_seq ?_
   refine awl_regS _ rfl fun K hK => ?_
   try simp only [go_sem, simprocAttr, h1, h2, h3, h16]
   repeat' (refine And.intro (by first | rfl | omega | (simp; done)) ?_)
   refine hK _ _ (.mk (awl_live' [6] fun ρ hL => ?_))
   try simp only [go_sem, simprocAttr, h1, h2, h3, h16] at hL
   try clear h1 h2 h3 h16
   have h6 := hL
   clear hL
   clear hK K
   refine awl_ret ?_
   refine blk_ret ?_
   refine ret0 (by simp only [go_sem, simprocAttr, h6]; exact rfl) ?_
   try simp only [go_sem, simprocAttr]
   all_goals try clear hR1
   all_goals (simp_all [tryW])
  ·
   try simp only [cnd] at c2
   refine awl_seq ?_
   refine awl_regS _ rfl fun K hK => ?_
   try simp only [go_sem, simprocAttr, h1, h2, h3, h16]
   repeat' (refine And.intro (by first | rfl | omega | (simp; done)) ?_)
   refine hK _ _ (.mk (awl_live' [1, 3, 21] fun ρ hL => ?_))
   try simp only [go_sem, simprocAttr, h1, h2, h3, h16] at hL
   try clear h1 h2 h3 h16
   obtain ⟨h1, h3, h21⟩ := hL
   clear hK K
   refine awl_cond h21 (fun c3 => ?_) (fun c3 => ?_)
   ·
    try simp only [cnd] at c3
    refine awl_seq ?_
    refine awl_regS _ rfl fun K hK => ?_
    try simp only [go_sem, simprocAttr, h1, h3, h21]
    repeat' (refine And.intro (by first | rfl | omega | (simp; done)) ?_)
    refine hK _ _ (.mk (awl_live' [6] fun ρ hL => ?_))
    try simp only [go_sem, simprocAttr, h1, h3, h21] at hL
    try clear h1 h3 h21
    have h6 := hL
    clear hL
    clear hK K
    refine awl_ret ?_
    refine blk_ret ?_
    refine ret0 (by simp only [go_sem, simprocAttr, h6]; exact rfl) ?_
    try simp only [go_sem, simprocAttr]
    all_goals try clear hR1
    all_goals (rw [andNot_zero hp] at c3; simp_all [tryW])
   ·
    try simp only [cnd] at c3
    refine awl_seq ?_
    refine awl_regS _ rfl fun K hK => ?_
    try simp only [go_sem, simprocAttr, h1, h3, h21]
    repeat' (refine And.intro (by first | rfl | omega | (simp; done)) ?_)
    refine awpS_live [1, 3, 34] fun ρ hL => ?_
    try simp only [go_sem, simprocAttr, h1, h3, h21] at hL
    try clear h1 h3 h21
    obtain ⟨h1, h3, h34⟩ := hL
    refine grp_orN (tc := 34) (tv := 39) (td := 40) (v := ?v2) 5 rfl [] h34 rfl (fun hb K1 hK1 => ?run) (fun hb => ?skip) (fun ρ hP hL => ?_)
    case skip =>
     exact awpS_skip (want := false) (b := _) (by rw [hb]; rfl) _ [] ρ h34 (fun _ _ => rfl) (by simp) rfl
    case run =>
     simp only [List.take_succ_cons, List.take_zero]
     rw [hb] at h34
     try simp only [go_sem, simprocAttr, h1, h3, h34]
     repeat' (refine And.intro (by first | rfl | omega | (simp; done)) ?_)
     exact hK1 _ (by simp only [go_sem, simprocAttr, h1, h3, h34]) (by simp only [go_sem, simprocAttr, h1, h3, h34]; exact rfl) (by simp only [go_sem, simprocAttr, h1, h3, h34])
    simp only [List.drop_succ_cons, List.drop_zero]
    clear hL h1 h3 h34
    have h40 := hP
    clear hP
    try simp only [go_sem, simprocAttr, h40]
    repeat' (refine And.intro (by first | rfl | omega | (simp; done)) ?_)
    refine hK _ _ (.mk (awl_live' [28] fun ρ hL => ?_))
    try simp only [go_sem, simprocAttr, h40] at hL
    try clear h40
    have h28 := hL
    clear hL
    clear hK K
    refine awl_cond h28 (fun c4 => ?_) (fun c4 => ?_)
    ·
     try simp only [cnd] at c4
     refine awl_seq ?_
     refine awl_regS _ rfl fun K hK => ?_
     try simp only [go_sem, simprocAttr, h28]
     repeat' (refine And.intro (by first | rfl | omega | (simp; done)) ?_)
     refine hK _ _ (.mk (awl_live' [6] fun ρ hL => ?_))
     try simp only [go_sem, simprocAttr, h28] at hL
     try clear h28
     have h6 := hL
     clear hL
     clear hK K
     refine awl_ret ?_
     refine blk_ret ?_
     refine ret0 (by simp only [go_sem, simprocAttr, h6]; exact rfl) ?_
     try simp only [go_sem, simprocAttr]
     all_goals try clear hR1
     all_goals (rw [andNot_zero hp] at c3; simp_all [tryW])
    ·
     try simp only [cnd] at c4
     refine awl_skip ?_
     refine awl_nil ?_
     refine blk_normal (hR1 _ _ (.mk ?_))
     refine awl_seq ?_
     refine awl_regS _ rfl fun K hK => ?_
     try simp only [go_sem, simprocAttr, h28]
     repeat' (refine And.intro (by first | rfl | omega | (simp; done)) ?_)
     refine hK _ _ (.mk (awl_live' [6] fun ρ hL => ?_))
     try simp only [go_sem, simprocAttr, h28] at hL
     try clear h28
     have h6 := hL
     clear hL
     clear hK K
     refine awl_ret ?_
     refine ret0 (by simp only [go_sem, simprocAttr, h6]; exact rfl) ?_
     try simp only [go_sem, simprocAttr]
     all_goals try clear hR1
     all_goals (rw [andNot_zero hp] at c3; simp_all [tryW] <;> omega)
set_option maxHeartbeats 8000000 in
set_option maxRecDepth 100000 in
theorem sat_spec_Guess (xs : List Int) (w : Word) (hb0 : xs.length ≤ 1099511627776) : Sat Tryz.prog 25 [.sl xs.length xs.length (ints xs), .agg w.cells] [] (.agg (Word.cells (guess xs w))) [] := by
 refine sat_mk [.cell 4 42] 0 31 Tryz.call25 Tryz.func25 Tryz.ntmps25 rfl rfl rfl rfl rfl ?_
 refine awl_live' [0, 1] fun ρ hL => ?_
 try simp only [go_sem, simprocAttr] at hL
 obtain ⟨h0, h1⟩ := hL
 refine awl_seq ?_
 refine awl_regS _ rfl fun K hK => ?_
 try simp only [go_sem, simprocAttr, h0, h1]
 repeat' (refine And.intro (by first | rfl | omega | (simp; done)) ?_)
 refine hK _ _ (.mk (awl_live' [0, 3, 4] fun ρ hL => ?_))
 try simp only [go_sem, simprocAttr, h0, h1] at hL
 try clear h0 h1
 obtain ⟨h0, h3, h4⟩ := hL
 clear hK K
 refine awl_seq ?_
 refine awl_seq ?_
 have w0 : IntKind.i64.wrap ((xs.length : Int) - 1) = (xs.length : Int) - 1 := wrap64 (by omega)
 refine awl_regS _ rfl fun K hK => ?_
 try simp only [go_sem, simprocAttr, h0, h3, h4, w0]
 repeat' (refine And.intro (by first | rfl | omega | (simp; done)) ?_)
 refine opS_call_ro rfl (sat_spec_l1In ?_ ?_ ?_) ?ha ?hv ?hh ?_
 case ha => simp only [go_sem, simprocAttr, h0, h3, h4, w0]; first | done | rfl
 case hv => first | rfl | (simp only [go_sem]; done)
 case hh => first | rfl | (simp only [go_sem]; done)
 try simp only [go_sem, simprocAttr, h0, h3, h4, w0]
 repeat' (refine And.intro (by first | rfl | omega | (simp; done)) ?_)
 refine awpS_live [0, 3, 4, 11] fun ρ hL => ?_
 try simp only [go_sem, simprocAttr, h0, h3, h4, w0] at hL
 try clear h0 h3 h4
 obtain ⟨h0, h3, h4, h11⟩ := hL
 refine grp_andN (tc := 11) (tv := 17) (td := 18) (v := ?v1) 6 rfl [0, 3, 4] h11 rfl (fun hb K1 hK1 => ?run) (fun hb => ?skip) (fun ρ hP hL => ?_)
 case skip =>
  exact awpS_skip (want := true) (b := _) (by rw [hb]; rfl) _ [] ρ h11 (fun _ _ => rfl) (by simp) rfl
 case run =>
  simp only [List.take_succ_cons, List.take_zero]
  rw [hb] at h11
  have hw := inR_iff.1 hb
  have hn2 : w.n.toNat < xs.length := by omega
  try simp only [go_sem, simprocAttr, h0, h3, h4, h11, hn2, w0]
  repeat' (refine And.intro (by first | rfl | omega | (simp; done)) ?_)
  exact hK1 _ (by simp only [go_sem, simprocAttr, h0, h3, h4, h11, hn2, w0]) (by simp only [go_sem, simprocAttr, h0, h3, h4, h11, hn2, w0]; exact rfl) (by simp only [go_sem, simprocAttr, h0, h3, h4, h11, hn2, w0])
 simp only [List.drop_succ_cons, List.drop_zero]
 try simp only [go_sem, simprocAttr, h0, h3, h4, h11, w0] at hL
 try clear h0 h3 h4 h11
 obtain ⟨h0, h3, h4⟩ := hL
 have h18 := hP
 clear hP
 try simp only [go_sem, simprocAttr, h0, h3, h4, h18, w0]
 repeat' (refine And.intro (by first | rfl | omega | (simp; done)) ?_)
 refine hK _ _ (.mk (awl_live' [0, 3, 4, 18] fun ρ hL => ?_))
 try simp only [go_sem, simprocAttr, h0, h3, h4, h18, w0] at hL
 try clear h0 h3 h4 h18
 obtain ⟨h0, h3, h4, h18⟩ := hL
 clear hK K
 refine awl_cond h18 (fun c1 => ?_) (fun c1 => ?_)
 ·
  try simp only [cnd] at c1
  refine awl_seq ?_
  have hw := inR_iff.1 c1.1
  have hn2 : w.n.toNat < xs.length := by omega
  refine awl_regD mixed _ rfl fun K hK => ?_
  try simp only [go_sem, simprocAttr, h0, h3, h4, h18, hn2]
  repeat' (refine And.intro (by first | omega | (exact ⟨[0, 0, 0, 4, 14, 30, 63, 127], by kernel_rfl⟩) | kernel_rfl) ?_)
  refine dS_call_ro rfl (sat_spec_Point ?_ ?_) ?ha ?hv ?hh ?_
  case ha => simp only [go_sem, simprocAttr, h0, h3, h4, h18, hn2]; first | done | rfl
  case hv => first | rfl | (simp only [go_sem]; done)
  case hh => first | rfl | (simp only [go_sem]; done)
  try simp only [go_sem, simprocAttr, h0, h3, h4, h18, hn2]
  repeat' (refine And.intro (by first | omega | (exact ⟨[0, 0, 0, 4, 14, 30, 63, 127], by kernel_rfl⟩) | kernel_rfl) ?_)
  refine hK _ _ (.mk (awl_live' [4] fun ρ hL => ?_))
  try simp only [go_sem, simprocAttr, h0, h3, h4, h18, hn2] at hL
  try clear h0 h3 h4 h18
  have h4 := hL
  clear hL
  clear hK K
  refine awl_ret ?_
  refine ret0 (by simp only [go_sem, simprocAttr, h4]; exact rfl) ?_
  try simp only [go_sem, simprocAttr]
  all_goals (simp_all [guess])
 ·
  try simp only [cnd] at c1
  refine awl_skip ?_
  refine awl_seq ?_
  refine awl_regS _ rfl fun K hK => ?_
  try simp only [go_sem, simprocAttr, h0, h3, h4, h18]
  repeat' (refine And.intro (by first | rfl | omega | (simp; done)) ?_)
  refine opS_call_ro rfl (sat_spec_Point ?_ ?_) ?ha ?hv ?hh ?_
  case ha => simp only [go_sem, simprocAttr, h0, h3, h4, h18]; first | done | rfl
  case hv => first | rfl | (simp only [go_sem]; done)
  case hh => first | rfl | (simp only [go_sem]; done)
  try simp only [go_sem, simprocAttr, h0, h3, h4, h18]
  repeat' (refine And.intro (by first | rfl | omega | (simp; done)) ?_)
  refine hK _ _ (.mk (awl_live' [4] fun ρ hL => ?_))
  try simp only [go_sem, simprocAttr, h0, h3, h4, h18] at hL
  try clear h0 h3 h4 h18
  have h4 := hL
  clear hL
  clear hK K
  refine awl_ret ?_
  refine ret0 (by simp only [go_sem, simprocAttr, h4]; exact rfl) ?_
  try simp only [go_sem, simprocAttr]
  all_goals (rw [guess, if_neg (by rintro ⟨p, q⟩; simp_all)]; rfl)
set_option maxHeartbeats 8000000 in
set_option maxRecDepth 100000 in
theorem sat_impl_Guess (xs : List Int) (w : Word) (hb0 : xs.length ≤ 1099511627776) : Sat Tryz.prog 35 [.sl xs.length xs.length (ints xs), .agg w.cells] [] (.agg (Word.cells (guess xs w))) [] := by
 refine sat_mk [.cell 4 42] 0 31 Tryz.call35 Tryz.func35 Tryz.ntmps35 rfl rfl rfl rfl rfl ?_
 refine awl_live' [0, 1] fun ρ hL => ?_
 try simp only [go_sem, simprocAttr] at hL
 obtain ⟨h0, h1⟩ := hL
 refine awl_seq ?_
 refine awl_regS _ rfl fun K hK => ?_
 try simp only [go_sem, simprocAttr, h0, h1]
 repeat' (refine And.intro (by first | rfl | omega | (simp; done)) ?_)
 refine hK _ _ (.mk (awl_live' [0, 3, 4] fun ρ hL => ?_))
 try simp only [go_sem, simprocAttr, h0, h1] at hL
 try clear h0 h1
 obtain ⟨h0, h3, h4⟩ := hL
 clear hK K
 refine awl_seq ?_
 refine awl_seq ?_
 have w0 : IntKind.i64.wrap ((xs.length : Int) - 1) = (xs.length : Int) - 1 := wrap64 (by omega)
 refine awl_regS _ rfl fun K hK => ?_
 try simp only [go_sem, simprocAttr, h0, h3, h4, w0]
 repeat' (refine And.intro (by first | rfl | omega | (simp; done)) ?_)
 refine opS_call_ro rfl (sat_impl_in ?_ ?_ ?_) ?ha ?hv ?hh ?_
 case ha => simp only [go_sem, simprocAttr, h0, h3, h4, w0]; first | done | rfl
 case hv => first | rfl | (simp only [go_sem]; done)
 case hh => first | rfl | (simp only [go_sem]; done)
 try simp only [go_sem, simprocAttr, h0, h3, h4, w0]
 repeat' (refine And.intro (by first | rfl | omega | (simp; done)) ?_)
 refine awpS_live [0, 3, 4, 11] fun ρ hL => ?_
 try simp only [go_sem, simprocAttr, h0, h3, h4, w0] at hL
 try clear h0 h3 h4
 obtain ⟨h0, h3, h4, h11⟩ := hL
 refine grp_andN (tc := 11) (tv := 17) (td := 18) (v := ?v1) 6 rfl [0, 3, 4] h11 rfl (fun hb K1 hK1 => ?run) (fun hb => ?skip) (fun ρ hP hL => ?_)
 case skip =>
  exact awpS_skip (want := true) (b := _) (by rw [hb]; rfl) _ [] ρ h11 (fun _ _ => rfl) (by simp) rfl
 case run =>
  simp only [List.take_succ_cons, List.take_zero]
  rw [hb] at h11
  have hw := inR_iff.1 hb
  have hn2 : w.n.toNat < xs.length := by omega
  try simp only [go_sem, simprocAttr, h0, h3, h4, h11, hn2, w0]
  repeat' (refine And.intro (by first | rfl | omega | (simp; done)) ?_)
  exact hK1 _ (by simp only [go_sem, simprocAttr, h0, h3, h4, h11, hn2, w0]) (by simp only [go_sem, simprocAttr, h0, h3, h4, h11, hn2, w0]; exact rfl) (by simp only [go_sem, simprocAttr, h0, h3, h4, h11, hn2, w0])
 simp only [List.drop_succ_cons, List.drop_zero]
 try simp only [go_sem, simprocAttr, h0, h3, h4, h11, w0] at hL
 try clear h0 h3 h4 h11
 obtain ⟨h0, h3, h4⟩ := hL
 have h18 := hP
 clear hP
 try simp only [go_sem, simprocAttr, h0, h3, h4, h18, w0]
 repeat' (refine And.intro (by first | rfl | omega | (simp; done)) ?_)
 refine hK _ _ (.mk (awl_live' [0, 3, 4, 18] fun ρ hL => ?_))
 try simp only [go_sem, simprocAttr, h0, h3, h4, h18, w0] at hL
 try clear h0 h3 h4 h18
 obtain ⟨h0, h3, h4, h18⟩ := hL
 clear hK K
 refine awl_cond h18 (fun c1 => ?_) (fun c1 => ?_)
 ·
  try simp only [cnd] at c1
  refine awl_seq ?_
  have hw := inR_iff.1 c1.1
  have hn2 : w.n.toNat < xs.length := by omega
  refine awl_regD mixed _ rfl fun K hK => ?_
  try simp only [go_sem, simprocAttr, h0, h3, h4, h18, hn2]
  repeat' (refine And.intro (by first | omega | (exact ⟨[0, 0, 0, 4, 14, 30, 63, 127], by kernel_rfl⟩) | kernel_rfl) ?_)
  refine dS_call_ro rfl (sat_impl_Point ?_ ?_) ?ha ?hv ?hh ?_
  case ha => simp only [go_sem, simprocAttr, h0, h3, h4, h18, hn2]; first | done | rfl
  case hv => first | rfl | (simp only [go_sem]; done)
  case hh => first | rfl | (simp only [go_sem]; done)
  try simp only [go_sem, simprocAttr, h0, h3, h4, h18, hn2]
  repeat' (refine And.intro (by first | omega | (exact ⟨[0, 0, 0, 4, 14, 30, 63, 127], by kernel_rfl⟩) | kernel_rfl) ?_)
  refine hK _ _ (.mk (awl_live' [4] fun ρ hL => ?_))
  try simp only [go_sem, simprocAttr, h0, h3, h4, h18, hn2] at hL
  try clear h0 h3 h4 h18
  have h4 := hL
  clear hL
  clear hK K
  refine awl_ret ?_
  refine ret0 (by simp only [go_sem, simprocAttr, h4]; exact rfl) ?_
  try simp only [go_sem, simprocAttr]
  all_goals (simp_all [guess])
 ·
  try simp only [cnd] at c1
  refine awl_skip ?_
  refine awl_seq ?_
  refine awl_regS _ rfl fun K hK => ?_
  try simp only [go_sem, simprocAttr, h0, h3, h4, h18]
  repeat' (refine And.intro (by first | rfl | omega | (simp; done)) ?_)
  refine opS_call_ro rfl (sat_impl_Point ?_ ?_) ?ha ?hv ?hh ?_
  case ha => simp only [go_sem, simprocAttr, h0, h3, h4, h18]; first | done | rfl
  case hv => first | rfl | (simp only [go_sem]; done)
  case hh => first | rfl | (simp only [go_sem]; done)
  try simp only [go_sem, simprocAttr, h0, h3, h4, h18]
  repeat' (refine And.intro (by first | rfl | omega | (simp; done)) ?_)
  refine hK _ _ (.mk (awl_live' [4] fun ρ hL => ?_))
  try simp only [go_sem, simprocAttr, h0, h3, h4, h18] at hL
  try clear h0 h3 h4 h18
  have h4 := hL
  clear hL
  clear hK K
  refine awl_ret ?_
  refine ret0 (by simp only [go_sem, simprocAttr, h4]; exact rfl) ?_
  try simp only [go_sem, simprocAttr]
  all_goals (rw [guess, if_neg (by rintro ⟨p, q⟩; simp_all)]; rfl)
end Go.Proofs.YtopjagninmjkbaaGreat.AM
