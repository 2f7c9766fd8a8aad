/- The law InOrder. No conditions but those each theorem bears. -/
import Derived.Test.YtgddflnhibhacaaGreatFa
import Derived.Test.YtgddflnhibhacaaGreatSp13
import Derived.Test.YtgddflnhibhacaaGreatCa31
import Derived.Test.YtgddflnhibhacaaGreatCa32
set_option linter.unusedSimpArgs false
set_option linter.unusedVariables false
namespace Go.Proofs.YtgddflnhibhacaaGreat.AM
open Go

set_option maxHeartbeats 8000000 in
set_option maxRecDepth 100000 in
theorem sat_laws_FnExactInOrder (l : List Ins) (s : Stt) (a : Int) (hl : l.length ≤ 9223372036854775807) (hs : s.sm) : Sat Tryz.prog 4 [.sl l.length l.length (rows l), .agg s.cells, .int .i64 a] [] (.bool true) [] := by
 refine sat_mk [.tmp 6] 0 124 Tryz.call4 Tryz.func4 Tryz.ntmps4 rfl rfl rfl rfl rfl ?_
 refine awl_live' [0, 1, 2] fun ρ hL => ?_
 try simp only [go_sem, simprocAttr, Mem.marked, Stt.marked, mrow_len] at hL
 obtain ⟨h0, h1, h2⟩ := hL
 refine awl_seq ?_
 refine awl_regS _ rfl fun K hK => ?_
 try simp only [go_sem, simprocAttr, h0, h1, h2, Mem.marked, Stt.marked, mrow_len]
 repeat' (refine And.intro (by first | exact f1.1 | exact f2.1 | exact f3 | assumption | omega) ?_)
 refine hK _ _ ⟨_, _, Wk.keep [0] rfl, awl_live' [0, 2, 4] fun ρ hL => ?_⟩
 try simp only [go_sem, simprocAttr, h0, h1, h2, Mem.marked, Stt.marked, mrow_len] at hL
 try clear h0 h1 h2
 obtain ⟨h0, h2, h4⟩ := hL
 try simp only [go_sem, simprocAttr, Mem.marked, Stt.marked, mrow_len]
 clear hK K
 refine awl_seq ?_
 refine awl_regS _ rfl fun K hK => ?_
 try simp only [go_sem, simprocAttr, h0, h2, h4, Mem.marked, Stt.marked, mrow_len]
 repeat' (refine And.intro (by first | exact f1.1 | exact f2.1 | exact f3 | assumption | omega) ?_)
 refine hK _ _ ⟨_, _, Wk.keep [0] rfl, awl_live' [0, 2, 4, 7] fun ρ hL => ?_⟩
 try simp only [go_sem, simprocAttr, h0, h2, h4, Mem.marked, Stt.marked, mrow_len] at hL
 try clear h0 h2 h4
 obtain ⟨h0, h2, h4, h7⟩ := hL
 try simp only [go_sem, simprocAttr, Mem.marked, Stt.marked, mrow_len]
 clear hK K
 refine awl_seq ?_
 refine awl_regS _ rfl fun K hK => ?_
 try simp only [go_sem, simprocAttr, h0, h2, h4, h7, Mem.marked, Stt.marked, mrow_len]
 repeat' (refine And.intro (by first | exact f1.1 | exact f2.1 | exact f3 | assumption | omega) ?_)
 refine opS_call_ro rfl (sat_laws_szInsS l 1048576 hl ⟨by decide, by decide⟩) ?ha ?hv ?hh ?_
 case ha => simp only [go_sem, simprocAttr, h0, h2, h4, h7, Mem.marked, Stt.marked, mrow_len]; first | done | rfl
 case hv => first | rfl | (simp only [go_sem]; done)
 case hh => first | rfl | (simp only [go_sem]; done)
 try simp only [go_sem, simprocAttr, h0, h2, h4, h7, Mem.marked, Stt.marked, mrow_len]
 repeat' (refine And.intro (by first | exact f1.1 | exact f2.1 | exact f3 | assumption | omega) ?_)
 refine hK _ _ ⟨_, _, Wk.keep [0] rfl, awl_live' [0, 2, 4, 7] fun ρ hL => ?_⟩
 try simp only [go_sem, simprocAttr, h0, h2, h4, h7, Mem.marked, Stt.marked, mrow_len] at hL
 try clear h0 h2 h4 h7
 obtain ⟨h0, h2, h4, h7⟩ := hL
 try simp only [go_sem, simprocAttr, Mem.marked, Stt.marked, mrow_len]
 clear hK K
 refine awl_seq ?_
 refine awl_seq ?_
 refine awl_regS _ rfl fun K hK => ?_
 try simp only [go_sem, simprocAttr, h0, h2, h4, h7, Mem.marked, Stt.marked, mrow_len]
 repeat' (refine And.intro (by first | exact f1.1 | exact f2.1 | exact f3 | assumption | omega) ?_)
 refine hK _ _ ⟨_, _, Wk.keep [0] rfl, awl_live' [0, 2, 4, 7, 23] fun ρ hL => ?_⟩
 try simp only [go_sem, simprocAttr, h0, h2, h4, h7, Mem.marked, Stt.marked, mrow_len] at hL
 try clear h0 h2 h4 h7
 obtain ⟨h0, h2, h4, h7, h23⟩ := hL
 try simp only [go_sem, simprocAttr, Mem.marked, Stt.marked, mrow_len]
 clear hK K
 refine awl_cond h23 (fun c1 => ?_) (fun c1 => ?_)
 ·
  try simp only [cnd] at c1
  refine awl_seq ?_
  refine awl_regS _ rfl fun K hK => ?_
  try simp only [go_sem, simprocAttr, h0, h2, h4, h7, h23, Mem.marked, Stt.marked, mrow_len]
  repeat' (refine And.intro (by first | exact f1.1 | exact f2.1 | exact f3 | assumption | omega) ?_)
  refine hK _ _ ⟨_, _, Wk.keep [] rfl, awl_live' [6] fun ρ hL => ?_⟩
  try simp only [go_sem, simprocAttr, h0, h2, h4, h7, h23, Mem.marked, Stt.marked, mrow_len] at hL
  try clear h0 h2 h4 h7 h23
  have h6 := hL
  clear hL
  try simp only [go_sem, simprocAttr, Mem.marked, Stt.marked, mrow_len]
  clear hK K
  refine awl_ret ?_
  refine ret0 (by simp only [go_sem, simprocAttr, h6, Mem.marked, Stt.marked, mrow_len]; exact rfl) ?_
  try simp only [go_sem, simprocAttr]
  all_goals (rfl)
 ·
  try simp only [cnd] at c1
  have f1 := szL_ok (l := 1048576) ⟨by decide, by decide⟩ c1
  have f1a := f1.1
  refine awl_skip ?_
  refine awl_seq ?_
  refine awl_regS _ rfl fun K hK => ?_
  try simp only [go_sem, simprocAttr, h0, h2, h4, h7, h23, Mem.marked, Stt.marked, mrow_len]
  repeat' (refine And.intro (by first | exact f1.1 | exact f2.1 | exact f3 | assumption | omega) ?_)
  refine opS_call_ro rfl (sat_laws_szState s (szL 1048576 l.length) hs f1.2) ?ha ?hv ?hh ?_
  case ha => simp only [go_sem, simprocAttr, h0, h2, h4, h7, h23, Mem.marked, Stt.marked, mrow_len]; first | done | rfl
  case hv => first | rfl | (simp only [go_sem]; done)
  case hh => first | rfl | (simp only [go_sem]; done)
  try simp only [go_sem, simprocAttr, h0, h2, h4, h7, h23, Mem.marked, Stt.marked, mrow_len]
  repeat' (refine And.intro (by first | exact f1.1 | exact f2.1 | exact f3 | assumption | omega) ?_)
  refine hK _ _ ⟨_, _, Wk.keep [0] rfl, awl_live' [0, 2, 4, 7] fun ρ hL => ?_⟩
  try simp only [go_sem, simprocAttr, h0, h2, h4, h7, h23, Mem.marked, Stt.marked, mrow_len] at hL
  try clear h0 h2 h4 h7 h23
  obtain ⟨h0, h2, h4, h7⟩ := hL
  try simp only [go_sem, simprocAttr, Mem.marked, Stt.marked, mrow_len]
  clear hK K
  refine awl_seq ?_
  refine awl_seq ?_
  refine awl_regS _ rfl fun K hK => ?_
  try simp only [go_sem, simprocAttr, h0, h2, h4, h7, Mem.marked, Stt.marked, mrow_len]
  repeat' (refine And.intro (by first | exact f1.1 | exact f2.1 | exact f3 | assumption | omega) ?_)
  refine hK _ _ ⟨_, _, Wk.keep [0] rfl, awl_live' [0, 2, 4, 28] fun ρ hL => ?_⟩
  try simp only [go_sem, simprocAttr, h0, h2, h4, h7, Mem.marked, Stt.marked, mrow_len] at hL
  try clear h0 h2 h4 h7
  obtain ⟨h0, h2, h4, h28⟩ := hL
  try simp only [go_sem, simprocAttr, Mem.marked, Stt.marked, mrow_len]
  clear hK K
  refine awl_cond h28 (fun c2 => ?_) (fun c2 => ?_)
  ·
   try simp only [cnd] at c2
   refine awl_seq ?_
   refine awl_regS _ rfl fun K hK => ?_
   try simp only [go_sem, simprocAttr, h0, h2, h4, h28, Mem.marked, Stt.marked, mrow_len]
   repeat' (refine And.intro (by first | exact f1.1 | exact f2.1 | exact f3 | assumption | omega) ?_)
   refine hK _ _ ⟨_, _, Wk.keep [] rfl, awl_live' [6] fun ρ hL => ?_⟩
   try simp only [go_sem, simprocAttr, h0, h2, h4, h28, Mem.marked, Stt.marked, mrow_len] at hL
   try clear h0 h2 h4 h28
   have h6 := hL
   clear hL
   try simp only [go_sem, simprocAttr, Mem.marked, Stt.marked, mrow_len]
   clear hK K
   refine awl_ret ?_
   refine ret0 (by simp only [go_sem, simprocAttr, h6, Mem.marked, Stt.marked, mrow_len]; exact rfl) ?_
   try simp only [go_sem, simprocAttr]
   all_goals (rfl)
  ·
   try simp only [cnd] at c2
   have f2 := szS_ok f1.2 c2
   have f3 := inOrder_fit (l := l) (n := a) f2.1
   refine awl_skip ?_
   refine awl_seq ?_
   refine awl_regD mixed _ rfl fun K hK => ?_
   try simp only [go_sem, simprocAttr, h0, h2, h4, h28, Mem.marked, Stt.marked, mrow_len]
   repeat' (refine And.intro (by first | omega | (exact ⟨[0, 1, 0, 7, 0, 31, 63, 127, 127, 0, 767, 2047], by kernel_rfl⟩) | kernel_rfl) ?_)
   refine dS_call_ro rfl (sat_laws_toInsS ?_ ?hp0) ?ha ?hv ?hh ?_
   case ha => simp only [go_sem, simprocAttr, h0, h2, h4, h28, Mem.marked, Stt.marked, mrow_len]; first | done | rfl
   case hp0 => first | exact f1.1 | exact f2.1 | exact f3 | assumption | omega
   case hv => first | rfl | (simp only [go_sem]; done)
   case hh => first | rfl | (simp only [go_sem]; done)
   try simp only [go_sem, simprocAttr, h0, h2, h4, h28, Mem.marked, Stt.marked, mrow_len]
   repeat' (refine And.intro (by first | omega | (exact ⟨[0, 1, 0, 7, 0, 31, 63, 127, 127, 0, 767, 2047], by kernel_rfl⟩) | kernel_rfl) ?_)
   refine dS_call_ro rfl (sat_laws_toState ?_ ?hp0) ?ha ?hv ?hh ?_
   case ha => simp only [go_sem, simprocAttr, h0, h2, h4, h28, Mem.marked, Stt.marked, mrow_len]; first | done | rfl
   case hp0 => first | exact f1.1 | exact f2.1 | exact f3 | assumption | omega
   case hv => first | rfl | (simp only [go_sem]; done)
   case hh => first | rfl | (simp only [go_sem]; done)
   try simp only [go_sem, simprocAttr, h0, h2, h4, h28, Mem.marked, Stt.marked, mrow_len]
   repeat' (refine And.intro (by first | omega | (exact ⟨[0, 1, 0, 7, 0, 31, 63, 127, 127, 0, 767, 2047], by kernel_rfl⟩) | kernel_rfl) ?_)
   refine dS_call_ro rfl (sat_spec_InOrder ?_ ?_ ?_ ?hp0 ?hp1) ?ha ?hv ?hh ?_
   case ha => simp only [go_sem, simprocAttr, h0, h2, h4, h28, Mem.marked, Stt.marked, mrow_len]; first | done | rfl
   case hp0 => first | exact f1.1 | exact f2.1 | exact f3 | assumption | omega
   case hp1 => first | exact f1.1 | exact f2.1 | exact f3 | assumption | omega
   case hv => first | rfl | (simp only [go_sem]; done)
   case hh => first | rfl | (simp only [go_sem]; done)
   try simp only [go_sem, simprocAttr, h0, h2, h4, h28, Mem.marked, Stt.marked, mrow_len]
   repeat' (refine And.intro (by first | omega | (exact ⟨[0, 1, 0, 7, 0, 31, 63, 127, 127, 0, 767, 2047], by kernel_rfl⟩) | kernel_rfl) ?_)
   refine hK _ _ ⟨_, _, Wk.keep [0, 8, 5, 6, 7] rfl, awl_live' [0, 2, 4, 8, 9] fun ρ hL => ?_⟩
   try simp only [go_sem, simprocAttr, h0, h2, h4, h28, Mem.marked, Stt.marked, mrow_len] at hL
   try clear h0 h2 h4 h28
   obtain ⟨h0, h2, h4, h8, h9⟩ := hL
   try simp only [go_sem, simprocAttr, Mem.marked, Stt.marked, mrow_len]
   clear hK K
   refine awl_seq ?_
   refine awl_regS _ rfl fun K hK => ?_
   try simp only [go_sem, simprocAttr, h0, h2, h4, h8, h9, Mem.marked, Stt.marked, mrow_len]
   repeat' (refine And.intro (by first | exact f1.1 | exact f2.1 | exact f3 | assumption | omega) ?_)
   refine opS_call_ro rfl (sat_laws_toInsS ?_ ?hp0) ?ha ?hv ?hh ?_
   case ha => simp only [go_sem, simprocAttr, h0, h2, h4, h8, h9, Mem.marked, Stt.marked, mrow_len]; first | done | rfl
   case hp0 => first | exact f1.1 | exact f2.1 | exact f3 | assumption | omega
   case hv => first | rfl | (simp only [go_sem]; done)
   case hh => first | rfl | (simp only [go_sem]; done)
   try simp only [go_sem, simprocAttr, h0, h2, h4, h8, h9, Mem.marked, Stt.marked, mrow_len]
   repeat' (refine And.intro (by first | exact f1.1 | exact f2.1 | exact f3 | assumption | omega) ?_)
   refine hK _ _ ⟨_, _, Wk.keep [0, 1, 2, 3, 4, 5] rfl, awl_live' [0, 2, 4, 8, 9, 10] fun ρ hL => ?_⟩
   try simp only [go_sem, simprocAttr, h0, h2, h4, h8, h9, Mem.marked, Stt.marked, mrow_len] at hL
   try clear h0 h2 h4 h8 h9
   obtain ⟨h0, h2, h4, h8, h9, h10⟩ := hL
   try simp only [go_sem, simprocAttr, Mem.marked, Stt.marked, mrow_len]
   clear hK K
   refine awl_seq ?_
   refine awl_regS _ rfl fun K hK => ?_
   try simp only [go_sem, simprocAttr, h0, h2, h4, h8, h9, h10, Mem.marked, Stt.marked, mrow_len]
   repeat' (refine And.intro (by first | exact f1.1 | exact f2.1 | exact f3 | assumption | omega) ?_)
   refine opS_call_ro rfl (sat_laws_toState ?_ ?hp0) ?ha ?hv ?hh ?_
   case ha => simp only [go_sem, simprocAttr, h0, h2, h4, h8, h9, h10, Mem.marked, Stt.marked, mrow_len]; first | done | rfl
   case hp0 => first | exact f1.1 | exact f2.1 | exact f3 | assumption | omega
   case hv => first | rfl | (simp only [go_sem]; done)
   case hh => first | rfl | (simp only [go_sem]; done)
   try simp only [go_sem, simprocAttr, h0, h2, h4, h8, h9, h10, Mem.marked, Stt.marked, mrow_len]
   repeat' (refine And.intro (by first | exact f1.1 | exact f2.1 | exact f3 | assumption | omega) ?_)
   refine hK _ _ ⟨_, _, Wk.keep [0, 1, 2, 3, 4, 5, 9, 6, 7, 8] rfl, awl_live' [0, 2, 4, 8, 9, 10, 11] fun ρ hL => ?_⟩
   try simp only [go_sem, simprocAttr, h0, h2, h4, h8, h9, h10, Mem.marked, Stt.marked, mrow_len] at hL
   try clear h0 h2 h4 h8 h9 h10
   obtain ⟨h0, h2, h4, h8, h9, h10, h11⟩ := hL
   try simp only [go_sem, simprocAttr, Mem.marked, Stt.marked, mrow_len]
   clear hK K
   refine awl_seq ?_
   refine awl_regS _ rfl fun K hK => ?_
   try simp only [go_sem, simprocAttr, h0, h2, h4, h8, h9, h10, h11, Mem.marked, Stt.marked, mrow_len]
   repeat' (refine And.intro (by first | exact f1.1 | exact f2.1 | exact f3 | assumption | omega) ?_)
   refine opS_call_ro rfl (sat_impl_InOrder ?_ ?_ ?_ ?hp0 ?hp1) ?ha ?hv ?hh ?_
   case ha => simp only [go_sem, simprocAttr, h0, h2, h4, h8, h9, h10, h11, Mem.marked, Stt.marked, mrow_len]; first | done | rfl
   case hp0 => first | exact f1.1 | exact f2.1 | exact f3 | assumption | omega
   case hp1 => first | exact f1.1 | exact f2.1 | exact f3 | assumption | omega
   case hv => first | rfl | (simp only [go_sem]; done)
   case hh => first | rfl | (simp only [go_sem]; done)
   try simp only [go_sem, simprocAttr, h0, h2, h4, h8, h9, h10, h11, Mem.marked, Stt.marked, mrow_len]
   repeat' (refine And.intro (by first | exact f1.1 | exact f2.1 | exact f3 | assumption | omega) ?_)
   refine hK _ _ ⟨_, _, Wk.keep [0, 1, 2, 3, 4, 5, 6, 7, 8, 9, 13, 10, 11, 12] rfl, awl_live' [0, 2, 4, 8, 9, 10, 11, 12, 13] fun ρ hL => ?_⟩
   try simp only [go_sem, simprocAttr, h0, h2, h4, h8, h9, h10, h11, Mem.marked, Stt.marked, mrow_len] at hL
   try clear h0 h2 h4 h8 h9 h10 h11
   obtain ⟨h0, h2, h4, h8, h9, h10, h11, h12, h13⟩ := hL
   try simp only [go_sem, simprocAttr, Mem.marked, Stt.marked, mrow_len]
   clear hK K
   refine awl_seq ?_
   refine awl_seq ?_
   refine awl_regS _ rfl fun K hK => ?_
   try simp only [go_sem, simprocAttr, h0, h2, h4, h8, h9, h10, h11, h12, h13, Mem.marked, Stt.marked, mrow_len]
   repeat' (refine And.intro (by first | exact f1.1 | exact f2.1 | exact f3 | assumption | omega) ?_)
   refine opS_call_ro rfl (sat_laws_eqState (inOrder l s a).1 (inOrder l s a).1 f3) ?ha ?hv ?hh ?_
   case ha => simp only [go_sem, simprocAttr, h0, h2, h4, h8, h9, h10, h11, h12, h13, Mem.marked, Stt.marked, mrow_len]; first | done | rfl
   case hv => first | rfl | (simp only [go_sem]; done)
   case hh => first | rfl | (simp only [go_sem]; done)
   try simp only [go_sem, simprocAttr, h0, h2, h4, h8, h9, h10, h11, h12, h13, Mem.marked, Stt.marked, mrow_len]
   repeat' (refine And.intro (by first | exact f1.1 | exact f2.1 | exact f3 | assumption | omega) ?_)
   refine awpS_live [0, 2, 4, 8, 9, 10, 11, 12, 13, 53] fun ρ hL => ?_
   try simp only [go_sem, simprocAttr, h0, h2, h4, h8, h9, h10, h11, h12, h13, Mem.marked, Stt.marked, mrow_len] at hL
   try clear h0 h2 h4 h8 h9 h10 h11 h12 h13
   obtain ⟨h0, h2, h4, h8, h9, h10, h11, h12, h13, h53⟩ := hL
   refine grp_orN (tc := 53) (tv := 56) (td := 57) (v := ?v1) 3 rfl [0, 2, 4, 8, 9, 10, 11, 12, 13] h53 rfl (fun hb K1 hK1 => ?run) (fun hb => ?skip) (fun ρ hP hL => ?_)
   case skip =>
    exact awpS_skip (want := false) (b := _) (by rw [hb]; rfl) _ [] ρ h53 (fun _ _ => rfl) (by simp) rfl
   case run =>
    simp only [List.take_succ_cons, List.take_zero]
    rw [hb] at h53
    try simp only [go_sem, simprocAttr, h0, h2, h4, h8, h9, h10, h11, h12, h13, h53, Mem.marked, Stt.marked, mrow_len]
    repeat' (refine And.intro (by first | exact f1.1 | exact f2.1 | exact f3 | assumption | omega) ?_)
    exact hK1 _ (by simp only [go_sem, simprocAttr, h0, h2, h4, h8, h9, h10, h11, h12, h13, h53, Mem.marked, Stt.marked, mrow_len]) (by simp only [go_sem, simprocAttr, h0, h2, h4, h8, h9, h10, h11, h12, h13, h53, Mem.marked, Stt.marked, mrow_len]; exact rfl) (by simp only [go_sem, simprocAttr, h0, h2, h4, h8, h9, h10, h11, h12, h13, h53, Mem.marked, Stt.marked, mrow_len])
   simp only [List.drop_succ_cons, List.drop_zero]
   try simp only [go_sem, simprocAttr, h0, h2, h4, h8, h9, h10, h11, h12, h13, h53, Mem.marked, Stt.marked, mrow_len] at hL
   try clear h0 h2 h4 h8 h9 h10 h11 h12 h13 h53
   obtain ⟨h0, h2, h4, h8, h9, h10, h11, h12, h13⟩ := hL
   have h57 := hP
   clear hP
   try simp only [go_sem, simprocAttr, h0, h2, h4, h8, h9, h10, h11, h12, h13, h57, Mem.marked, Stt.marked, mrow_len]
   repeat' (refine And.intro (by first | exact f1.1 | exact f2.1 | exact f3 | assumption | omega) ?_)
   refine hK _ _ ⟨_, _, Wk.keep [0, 1, 2, 3, 4, 5, 6, 7, 8, 9, 10, 11, 12, 13] rfl, awl_live' [0, 2, 4, 8, 9, 10, 11, 12, 13, 57] fun ρ hL => ?_⟩
   try simp only [go_sem, simprocAttr, h0, h2, h4, h8, h9, h10, h11, h12, h13, h57, Mem.marked, Stt.marked, mrow_len] at hL
   try clear h0 h2 h4 h8 h9 h10 h11 h12 h13 h57
   obtain ⟨h0, h2, h4, h8, h9, h10, h11, h12, h13, h57⟩ := hL
   try simp only [go_sem, simprocAttr, Mem.marked, Stt.marked, mrow_len]
   clear hK K
   refine awl_cond h57 (fun c3 => ?_) (fun c3 => ?_)
   ·
    try simp only [cnd] at c3
    first | done | (simp at c3; done) | (simp at c3; omega) | omega
   ·
    try simp only [cnd] at c3
    refine awl_skip ?_
    refine awl_seq ?_
    refine awl_seq ?_
    refine awl_regS _ rfl fun K hK => ?_
    try simp only [go_sem, simprocAttr, h0, h2, h4, h8, h9, h10, h11, h12, h13, h57, Mem.marked, Stt.marked, mrow_len]
    repeat' (refine And.intro (by first | exact f1.1 | exact f2.1 | exact f3 | assumption | omega) ?_)
    refine opS_call_ro rfl (sat_laws_toInsS ?_ ?hp0) ?ha ?hv ?hh ?_
    case ha => simp only [go_sem, simprocAttr, h0, h2, h4, h8, h9, h10, h11, h12, h13, h57, Mem.marked, Stt.marked, mrow_len]; first | done | rfl
    case hp0 => first | exact f1.1 | exact f2.1 | exact f3 | assumption | omega
    case hv => first | rfl | (simp only [go_sem]; done)
    case hh => first | rfl | (simp only [go_sem]; done)
    try simp only [go_sem, simprocAttr, h0, h2, h4, h8, h9, h10, h11, h12, h13, h57, Mem.marked, Stt.marked, mrow_len]
    repeat' (refine And.intro (by first | exact f1.1 | exact f2.1 | exact f3 | assumption | omega) ?_)
    refine opS_call_ro rfl (sat_laws_eqInsS ?_ ?_ ?hp0) ?ha ?hv ?hh ?_
    case ha => simp only [go_sem, simprocAttr, h0, h2, h4, h8, h9, h10, h11, h12, h13, h57, Mem.marked, Stt.marked, mrow_len]; first | done | rfl
    case hp0 => first | exact f1.1 | exact f2.1 | exact f3 | assumption | omega
    case hv => first | rfl | (simp only [go_sem]; done)
    case hh => first | rfl | (simp only [go_sem]; done)
    try simp only [go_sem, simprocAttr, h0, h2, h4, h8, h9, h10, h11, h12, h13, h57, Mem.marked, Stt.marked, mrow_len]
    repeat' (refine And.intro (by first | exact f1.1 | exact f2.1 | exact f3 | assumption | omega) ?_)
    refine hK _ _ ⟨_, _, Wk.keep [0, 1, 2, 3, 4, 5, 6, 7, 8, 9, 10, 11, 12, 13] rfl, awl_live' [0, 2, 4, 8, 9, 10, 11, 12, 13, 62] fun ρ hL => ?_⟩
    try simp only [go_sem, simprocAttr, h0, h2, h4, h8, h9, h10, h11, h12, h13, h57, Mem.marked, Stt.marked, mrow_len] at hL
    try clear h0 h2 h4 h8 h9 h10 h11 h12 h13 h57
    obtain ⟨h0, h2, h4, h8, h9, h10, h11, h12, h13, h62⟩ := hL
    try simp only [go_sem, simprocAttr, Mem.marked, Stt.marked, mrow_len]
    clear hK K
    refine awl_cond h62 (fun c4 => ?_) (fun c4 => ?_)
    ·
     try simp only [cnd] at c4
     first | done | (simp at c4; done) | (simp at c4; omega) | omega
    ·
     try simp only [cnd] at c4
     refine awl_skip ?_
     refine awl_seq ?_
     refine awl_seq ?_
     refine awl_regD mixed _ rfl fun K hK => ?_
     try simp only [go_sem, simprocAttr, h0, h2, h4, h8, h9, h10, h11, h12, h13, h62, Mem.marked, Stt.marked, mrow_len]
     repeat' (refine And.intro (by first | omega | (exact ⟨[0, 0, 2, 7, 15], by kernel_rfl⟩) | kernel_rfl) ?_)
     refine dS_call_ro rfl (sat_laws_toState ?_ ?hp0) ?ha ?hv ?hh ?_
     case ha => simp only [go_sem, simprocAttr, h0, h2, h4, h8, h9, h10, h11, h12, h13, h62, Mem.marked, Stt.marked, mrow_len]; first | done | rfl
     case hp0 => first | exact f1.1 | exact f2.1 | exact f3 | assumption | omega
     case hv => first | rfl | (simp only [go_sem]; done)
     case hh => first | rfl | (simp only [go_sem]; done)
     try simp only [go_sem, simprocAttr, h0, h2, h4, h8, h9, h10, h11, h12, h13, h62, Mem.marked, Stt.marked, mrow_len]
     repeat' (refine And.intro (by first | omega | (exact ⟨[0, 0, 2, 7, 15], by kernel_rfl⟩) | kernel_rfl) ?_)
     refine dS_call_ro rfl (sat_laws_eqState s s f2.1) ?ha ?hv ?hh ?_
     case ha => simp only [go_sem, simprocAttr, h0, h2, h4, h8, h9, h10, h11, h12, h13, h62, Mem.marked, Stt.marked, mrow_len]; first | done | rfl
     case hv => first | rfl | (simp only [go_sem]; done)
     case hh => first | rfl | (simp only [go_sem]; done)
     try simp only [go_sem, simprocAttr, h0, h2, h4, h8, h9, h10, h11, h12, h13, h62, Mem.marked, Stt.marked, mrow_len]
     repeat' (refine And.intro (by first | omega | (exact ⟨[0, 0, 2, 7, 15], by kernel_rfl⟩) | kernel_rfl) ?_)
     refine hK _ _ ⟨_, _, Wk.keep [0, 1, 2, 3, 4, 5, 6, 7, 8, 9, 10, 11, 12, 13] rfl, awl_live' [0, 2, 4, 8, 9, 10, 11, 12, 13, 67] fun ρ hL => ?_⟩
     try simp only [go_sem, simprocAttr, h0, h2, h4, h8, h9, h10, h11, h12, h13, h62, Mem.marked, Stt.marked, mrow_len] at hL
     try clear h0 h2 h4 h8 h9 h10 h11 h12 h13 h62
     obtain ⟨h0, h2, h4, h8, h9, h10, h11, h12, h13, h67⟩ := hL
     try simp only [go_sem, simprocAttr, Mem.marked, Stt.marked, mrow_len]
     clear hK K
     refine awl_cond h67 (fun c5 => ?_) (fun c5 => ?_)
     ·
      try simp only [cnd] at c5
      first | done | (simp at c5; done) | (simp at c5; omega) | omega
     ·
      try simp only [cnd] at c5
      refine awl_skip ?_
      refine awl_seq ?_
      refine awl_regS _ rfl fun K hK => ?_
      try simp only [go_sem, simprocAttr, h0, h2, h4, h8, h9, h10, h11, h12, h13, h67, Mem.marked, Stt.marked, mrow_len]
      repeat' (refine And.intro (by first | exact f1.1 | exact f2.1 | exact f3 | assumption | omega) ?_)
      refine hK _ _ ⟨_, _, Wk.keep [0, 1, 2, 3, 4, 5, 6, 7, 8, 9, 10, 11, 12, 13] rfl, awl_live' [0, 2, 4, 8, 9, 10, 11, 12, 13, 14] fun ρ hL => ?_⟩
      try simp only [go_sem, simprocAttr, h0, h2, h4, h8, h9, h10, h11, h12, h13, h67, Mem.marked, Stt.marked, mrow_len] at hL
      try clear h0 h2 h4 h8 h9 h10 h11 h12 h13 h67
      obtain ⟨h0, h2, h4, h8, h9, h10, h11, h12, h13, h14⟩ := hL
      try simp only [go_sem, simprocAttr, Mem.marked, Stt.marked, mrow_len]
      clear hK K
      refine awl_seq ?_
      refine awl_regS _ rfl fun K hK => ?_
      try simp only [go_sem, simprocAttr, h0, h2, h4, h8, h9, h10, h11, h12, h13, h14, Mem.marked, Stt.marked, mrow_len]
      repeat' (refine And.intro (by first | exact f1.1 | exact f2.1 | exact f3 | assumption | omega) ?_)
      refine opS_call_in [5] rfl (sat_laws_markInsS ?_ ?_ ?_ ?hp0 ?hp1) ?ha ?hb ?hv ?hh (by decide) rfl ?_
      case ha => simp only [go_sem, simprocAttr, h0, h2, h4, h8, h9, h10, h11, h12, h13, h14, Mem.marked, Stt.marked, mrow_len]; first | done | rfl
      case hb => simp only [go_sem, simprocAttr, h0, h2, h4, h8, h9, h10, h11, h12, h13, h14, Mem.marked, Stt.marked, mrow_len]; first | done | rfl
      case hp0 => first | exact f1.1 | exact f2.1 | exact f3 | assumption | omega
      case hp1 => first | exact f1.1 | exact f2.1 | exact f3 | assumption | omega
      case hv => first | rfl | (simp only [go_sem]; done)
      case hh => first | rfl | (simp only [go_sem]; done)
      try simp only [go_sem, simprocAttr, h0, h2, h4, h8, h9, h10, h11, h12, h13, h14, Mem.marked, Stt.marked, mrow_len]
      repeat' (refine And.intro (by first | exact f1.1 | exact f2.1 | exact f3 | assumption | omega) ?_)
      refine hK _ _ ⟨_, _, Wk.keep [0, 1, 2, 3, 4, 6, 7, 8, 9, 10, 11, 12, 13] rfl, awl_live' [0, 2, 4, 8, 9, 11, 12, 13, 14] fun ρ hL => ?_⟩
      try simp only [go_sem, simprocAttr, h0, h2, h4, h8, h9, h10, h11, h12, h13, h14, Mem.marked, Stt.marked, mrow_len] at hL
      try clear h0 h2 h4 h8 h9 h10 h11 h12 h13 h14
      obtain ⟨h0, h2, h4, h8, h9, h11, h12, h13, h14⟩ := hL
      try simp only [go_sem, simprocAttr, Mem.marked, Stt.marked, mrow_len]
      clear hK K
      refine awl_seq ?_
      refine awl_regS _ rfl fun K hK => ?_
      try simp only [go_sem, simprocAttr, h0, h2, h4, h8, h9, h11, h12, h13, h14, Mem.marked, Stt.marked, mrow_len]
      repeat' (refine And.intro (by first | exact f1.1 | exact f2.1 | exact f3 | assumption | omega) ?_)
      refine opS_call_in [6, 7, 8] rfl (sat_laws_markState s (1 + (5 * l.length : Nat)) f2.1 (by omega)) ?ha ?hb ?hv ?hh (by decide) rfl ?_
      case ha => simp only [go_sem, simprocAttr, h0, h2, h4, h8, h9, h11, h12, h13, h14, Mem.marked, Stt.marked, mrow_len]; first | done | rfl
      case hb => simp only [go_sem, simprocAttr, h0, h2, h4, h8, h9, h11, h12, h13, h14, Mem.marked, Stt.marked, mrow_len]; first | done | rfl
      case hv => first | rfl | (simp only [go_sem]; done)
      case hh => first | rfl | (simp only [go_sem]; done)
      try simp only [go_sem, simprocAttr, h0, h2, h4, h8, h9, h11, h12, h13, h14, Mem.marked, Stt.marked, mrow_len]
      repeat' (refine And.intro (by first | exact f1.1 | exact f2.1 | exact f3 | assumption | omega) ?_)
      refine hK _ _ ⟨_, _, Wk.keep [0, 1, 2, 3, 4, 9, 10, 11, 12] rfl, awl_live' [0, 2, 4, 8, 9, 12, 13, 14] fun ρ hL => ?_⟩
      try simp only [go_sem, simprocAttr, h0, h2, h4, h8, h9, h11, h12, h13, h14, Mem.marked, Stt.marked, mrow_len] at hL
      try clear h0 h2 h4 h8 h9 h11 h12 h13 h14
      obtain ⟨h0, h2, h4, h8, h9, h12, h13, h14⟩ := hL
      try simp only [go_sem, simprocAttr, Mem.marked, Stt.marked, mrow_len]
      clear hK K
      refine awl_seq ?_
      refine awl_seq ?_
      refine awl_regS _ rfl fun K hK => ?_
      try simp only [go_sem, simprocAttr, h0, h2, h4, h8, h9, h12, h13, h14, Mem.marked, Stt.marked, mrow_len]
      repeat' (refine And.intro (by first | exact f1.1 | exact f2.1 | exact f3 | assumption | omega) ?_)
      refine awpS_live [0, 2, 4, 8, 9, 12, 13, 76] fun ρ hL => ?_
      try simp only [go_sem, simprocAttr, h0, h2, h4, h8, h9, h12, h13, h14, Mem.marked, Stt.marked, mrow_len] at hL
      try clear h0 h2 h4 h8 h9 h12 h13 h14
      obtain ⟨h0, h2, h4, h8, h9, h12, h13, h76⟩ := hL
      refine grp_orN (tc := 76) (tv := 80) (td := 81) (v := ?v2) 4 rfl [0, 2, 4, 8, 9, 12, 13] h76 rfl (fun hb K1 hK1 => ?run) (fun hb => ?skip) (fun ρ hP hL => ?_)
      case skip =>
       exact awpS_skip (want := false) (b := _) (by rw [hb]; rfl) _ [] ρ h76 (fun _ _ => rfl) (by simp) rfl
      case run =>
       simp only [List.take_succ_cons, List.take_zero]
       rw [hb] at h76
       try simp only [go_sem, simprocAttr, h0, h2, h4, h8, h9, h12, h13, h76, Mem.marked, Stt.marked, mrow_len]
       repeat' (refine And.intro (by first | exact f1.1 | exact f2.1 | exact f3 | assumption | omega) ?_)
       refine opS_call_ro rfl (sat_laws_eqState (inOrder l s a).1 (inOrder l s a).1 f3) ?ha ?hv ?hh ?_
       case ha => simp only [go_sem, simprocAttr, h0, h2, h4, h8, h9, h12, h13, h76, Mem.marked, Stt.marked, mrow_len]; first | done | rfl
       case hv => first | rfl | (simp only [go_sem]; done)
       case hh => first | rfl | (simp only [go_sem]; done)
       try simp only [go_sem, simprocAttr, h0, h2, h4, h8, h9, h12, h13, h76, Mem.marked, Stt.marked, mrow_len]
       repeat' (refine And.intro (by first | exact f1.1 | exact f2.1 | exact f3 | assumption | omega) ?_)
       exact hK1 _ (by simp only [go_sem, simprocAttr, h0, h2, h4, h8, h9, h12, h13, h76, Mem.marked, Stt.marked, mrow_len]) (by simp only [go_sem, simprocAttr, h0, h2, h4, h8, h9, h12, h13, h76, Mem.marked, Stt.marked, mrow_len]; exact rfl) (by simp only [go_sem, simprocAttr, h0, h2, h4, h8, h9, h12, h13, h76, Mem.marked, Stt.marked, mrow_len])
      simp only [List.drop_succ_cons, List.drop_zero]
      try simp only [go_sem, simprocAttr, h0, h2, h4, h8, h9, h12, h13, h76, Mem.marked, Stt.marked, mrow_len] at hL
      try clear h0 h2 h4 h8 h9 h12 h13 h76
      obtain ⟨h0, h2, h4, h8, h9, h12, h13⟩ := hL
      have h81 := hP
      clear hP
      try simp only [go_sem, simprocAttr, h0, h2, h4, h8, h9, h12, h13, h81, Mem.marked, Stt.marked, mrow_len]
      repeat' (refine And.intro (by first | exact f1.1 | exact f2.1 | exact f3 | assumption | omega) ?_)
      refine awpS_live [0, 2, 4, 8, 9, 12, 13, 82] fun ρ hL => ?_
      try simp only [go_sem, simprocAttr, h0, h2, h4, h8, h9, h12, h13, h81, Mem.marked, Stt.marked, mrow_len] at hL
      try clear h0 h2 h4 h8 h9 h12 h13 h81
      obtain ⟨h0, h2, h4, h8, h9, h12, h13, h82⟩ := hL
      refine grp_orN (tc := 82) (tv := 85) (td := 86) (v := ?v3) 3 rfl [0, 2, 4, 8, 9, 12] h82 rfl (fun hb K1 hK1 => ?run) (fun hb => ?skip) (fun ρ hP hL => ?_)
      case skip =>
       exact awpS_skip (want := false) (b := _) (by rw [hb]; rfl) _ [] ρ h82 (fun _ _ => rfl) (by simp) rfl
      case run =>
       simp only [List.take_succ_cons, List.take_zero]
       rw [hb] at h82
       try simp only [go_sem, simprocAttr, h0, h2, h4, h8, h9, h12, h13, h82, Mem.marked, Stt.marked, mrow_len]
       repeat' (refine And.intro (by first | exact f1.1 | exact f2.1 | exact f3 | assumption | omega) ?_)
       exact hK1 _ (by simp only [go_sem, simprocAttr, h0, h2, h4, h8, h9, h12, h13, h82, Mem.marked, Stt.marked, mrow_len]) (by simp only [go_sem, simprocAttr, h0, h2, h4, h8, h9, h12, h13, h82, Mem.marked, Stt.marked, mrow_len]; exact rfl) (by simp only [go_sem, simprocAttr, h0, h2, h4, h8, h9, h12, h13, h82, Mem.marked, Stt.marked, mrow_len])
      simp only [List.drop_succ_cons, List.drop_zero]
      try simp only [go_sem, simprocAttr, h0, h2, h4, h8, h9, h12, h13, h82, Mem.marked, Stt.marked, mrow_len] at hL
      try clear h0 h2 h4 h8 h9 h12 h13 h82
      obtain ⟨h0, h2, h4, h8, h9, h12⟩ := hL
      have h86 := hP
      clear hP
      try simp only [go_sem, simprocAttr, h0, h2, h4, h8, h9, h12, h86, Mem.marked, Stt.marked, mrow_len]
      repeat' (refine And.intro (by first | exact f1.1 | exact f2.1 | exact f3 | assumption | omega) ?_)
      refine hK _ _ ⟨_, _, Wk.keep [0, 1, 2, 3, 4, 5, 6, 7, 8] rfl, awl_live' [0, 2, 4, 8, 9, 12, 86] fun ρ hL => ?_⟩
      try simp only [go_sem, simprocAttr, h0, h2, h4, h8, h9, h12, h86, Mem.marked, Stt.marked, mrow_len] at hL
      try clear h0 h2 h4 h8 h9 h12 h86
      obtain ⟨h0, h2, h4, h8, h9, h12, h86⟩ := hL
      try simp only [go_sem, simprocAttr, Mem.marked, Stt.marked, mrow_len]
      clear hK K
      refine awl_cond h86 (fun c6 => ?_) (fun c6 => ?_)
      ·
       try simp only [cnd] at c6
       first | done | (simp at c6; done) | (simp at c6; omega) | omega
      ·
       try simp only [cnd] at c6
       refine awl_skip ?_
       refine awl_seq ?_
       refine awl_regS _ rfl fun K hK => ?_
       try simp only [go_sem, simprocAttr, h0, h2, h4, h8, h9, h12, h86, Mem.marked, Stt.marked, mrow_len]
       repeat' (refine And.intro (by first | exact f1.1 | exact f2.1 | exact f3 | assumption | omega) ?_)
       refine hK _ _ ⟨_, _, Wk.keep [0, 1, 2, 3, 4, 5, 6, 7, 8] rfl, awl_live' [0, 2, 4, 8, 9, 12, 15] fun ρ hL => ?_⟩
       try simp only [go_sem, simprocAttr, h0, h2, h4, h8, h9, h12, h86, Mem.marked, Stt.marked, mrow_len] at hL
       try clear h0 h2 h4 h8 h9 h12 h86
       obtain ⟨h0, h2, h4, h8, h9, h12, h15⟩ := hL
       try simp only [go_sem, simprocAttr, Mem.marked, Stt.marked, mrow_len]
       clear hK K
       refine awl_seq ?_
       refine awl_regS _ rfl fun K hK => ?_
       try simp only [go_sem, simprocAttr, h0, h2, h4, h8, h9, h12, h15, Mem.marked, Stt.marked, mrow_len]
       repeat' (refine And.intro (by first | exact f1.1 | exact f2.1 | exact f3 | assumption | omega) ?_)
       refine opS_call_in [6, 7, 8] rfl (sat_laws_markState (inOrder l s a).1 1 f3 (by decide)) ?ha ?hb ?hv ?hh (by decide) rfl ?_
       case ha => simp only [go_sem, simprocAttr, h0, h2, h4, h8, h9, h12, h15, Mem.marked, Stt.marked, mrow_len]; first | done | rfl
       case hb => simp only [go_sem, simprocAttr, h0, h2, h4, h8, h9, h12, h15, Mem.marked, Stt.marked, mrow_len]; first | done | rfl
       case hv => first | rfl | (simp only [go_sem]; done)
       case hh => first | rfl | (simp only [go_sem]; done)
       try simp only [go_sem, simprocAttr, h0, h2, h4, h8, h9, h12, h15, Mem.marked, Stt.marked, mrow_len]
       repeat' (refine And.intro (by first | exact f1.1 | exact f2.1 | exact f3 | assumption | omega) ?_)
       refine hK _ _ ⟨_, _, Wk.keep [0, 1, 2, 3, 4, 5, 6, 7, 8] rfl, awl_live' [0, 2, 4, 8, 9, 12, 15] fun ρ hL => ?_⟩
       try simp only [go_sem, simprocAttr, h0, h2, h4, h8, h9, h12, h15, Mem.marked, Stt.marked, mrow_len] at hL
       try clear h0 h2 h4 h8 h9 h12 h15
       obtain ⟨h0, h2, h4, h8, h9, h12, h15⟩ := hL
       try simp only [go_sem, simprocAttr, Mem.marked, Stt.marked, mrow_len]
       clear hK K
       refine awl_seq ?_
       refine awl_regS _ rfl fun K hK => ?_
       try simp only [go_sem, simprocAttr, h0, h2, h4, h8, h9, h12, h15, Mem.marked, Stt.marked, mrow_len]
       repeat' (refine And.intro (by first | exact f1.1 | exact f2.1 | exact f3 | assumption | omega) ?_)
       refine hK _ _ ⟨_, _, Wk.keep [0, 1, 2, 3, 4, 5, 6, 7, 8] rfl, awl_live' [0, 2, 4, 8, 9, 12, 15, 16] fun ρ hL => ?_⟩
       try simp only [go_sem, simprocAttr, h0, h2, h4, h8, h9, h12, h15, Mem.marked, Stt.marked, mrow_len] at hL
       try clear h0 h2 h4 h8 h9 h12 h15
       obtain ⟨h0, h2, h4, h8, h9, h12, h15, h16⟩ := hL
       try simp only [go_sem, simprocAttr, Mem.marked, Stt.marked, mrow_len]
       clear hK K
       refine awl_seq ?_
       refine awl_regS _ rfl fun K hK => ?_
       try simp only [go_sem, simprocAttr, h0, h2, h4, h8, h9, h12, h15, h16, Mem.marked, Stt.marked, mrow_len]
       repeat' (refine And.intro (by first | exact f1.1 | exact f2.1 | exact f3 | assumption | omega) ?_)
       refine opS_call_ro rfl (sat_laws_heldState (inOrder l s a).1 1 f3 (by decide)) ?ha ?hv ?hh ?_
       case ha => simp only [go_sem, simprocAttr, h0, h2, h4, h8, h9, h12, h15, h16, Mem.marked, Stt.marked, mrow_len]; first | done | rfl
       case hv => first | rfl | (simp only [go_sem]; done)
       case hh => first | rfl | (simp only [go_sem]; done)
       try simp only [go_sem, simprocAttr, h0, h2, h4, h8, h9, h12, h15, h16, Mem.marked, Stt.marked, mrow_len]
       repeat' (refine And.intro (by first | exact f1.1 | exact f2.1 | exact f3 | assumption | omega) ?_)
       refine hK _ _ ⟨_, _, Wk.keep [0, 1, 2, 3, 4, 5, 6, 7, 8] rfl, awl_live' [0, 2, 4, 8, 9, 12, 15, 16] fun ρ hL => ?_⟩
       try simp only [go_sem, simprocAttr, h0, h2, h4, h8, h9, h12, h15, h16, Mem.marked, Stt.marked, mrow_len] at hL
       try clear h0 h2 h4 h8 h9 h12 h15 h16
       obtain ⟨h0, h2, h4, h8, h9, h12, h15, h16⟩ := hL
       try simp only [go_sem, simprocAttr, Mem.marked, Stt.marked, mrow_len]
       clear hK K
       refine awl_seq ?_
       refine awl_seq ?_
       refine awl_regS _ rfl fun K hK => ?_
       try simp only [go_sem, simprocAttr, h0, h2, h4, h8, h9, h12, h15, h16, Mem.marked, Stt.marked, mrow_len]
       repeat' (refine And.intro (by first | exact f1.1 | exact f2.1 | exact f3 | assumption | omega) ?_)
       refine hK _ _ ⟨_, _, Wk.keep [0, 1, 2, 3, 4, 5, 6, 7, 8] rfl, awl_live' [0, 2, 4, 8, 9, 12, 15, 16, 94] fun ρ hL => ?_⟩
       try simp only [go_sem, simprocAttr, h0, h2, h4, h8, h9, h12, h15, h16, Mem.marked, Stt.marked, mrow_len] at hL
       try clear h0 h2 h4 h8 h9 h12 h15 h16
       obtain ⟨h0, h2, h4, h8, h9, h12, h15, h16, h94⟩ := hL
       try simp only [go_sem, simprocAttr, Mem.marked, Stt.marked, mrow_len]
       clear hK K
       refine awl_cond h94 (fun c7 => ?_) (fun c7 => ?_)
       ·
        try simp only [cnd] at c7
        first | done | (simp at c7; done) | (simp at c7; omega) | omega
       ·
        try simp only [cnd] at c7
        refine awl_skip ?_
        refine awl_seq ?_
        refine awl_seq ?_
        refine awl_regS _ rfl fun K hK => ?_
        try simp only [go_sem, simprocAttr, h0, h2, h4, h8, h9, h12, h15, h16, h94, Mem.marked, Stt.marked, mrow_len]
        repeat' (refine And.intro (by first | exact f1.1 | exact f2.1 | exact f3 | assumption | omega) ?_)
        refine hK _ _ ⟨_, _, Wk.keep [0, 1, 2, 3, 4, 5, 6, 7, 8] rfl, awl_live' [0, 2, 4, 8, 9, 12, 15, 97] fun ρ hL => ?_⟩
        try simp only [go_sem, simprocAttr, h0, h2, h4, h8, h9, h12, h15, h16, h94, Mem.marked, Stt.marked, mrow_len] at hL
        try clear h0 h2 h4 h8 h9 h12 h15 h16 h94
        obtain ⟨h0, h2, h4, h8, h9, h12, h15, h97⟩ := hL
        try simp only [go_sem, simprocAttr, Mem.marked, Stt.marked, mrow_len]
        clear hK K
        refine awl_cond h97 (fun c8 => ?_) (fun c8 => ?_)
        ·
         try simp only [cnd] at c8
         first | done | (simp at c8; done) | (simp at c8; omega) | omega
        ·
         try simp only [cnd] at c8
         refine awl_skip ?_
         refine awl_seq ?_
         refine awl_regD mixed _ rfl fun K hK => ?_
         try simp only [go_sem, simprocAttr, h0, h2, h4, h8, h9, h12, h15, h97, Mem.marked, Stt.marked, mrow_len]
         repeat' (refine And.intro (by first | omega | (exact ⟨[0, 1, 0, 7, 0, 31, 63, 127, 127, 0, 767, 2047], by kernel_rfl⟩) | kernel_rfl) ?_)
         refine dS_call_ro rfl (sat_laws_toInsS ?_ ?hp0) ?ha ?hv ?hh ?_
         case ha => simp only [go_sem, simprocAttr, h0, h2, h4, h8, h9, h12, h15, h97, Mem.marked, Stt.marked, mrow_len]; first | done | rfl
         case hp0 => first | exact f1.1 | exact f2.1 | exact f3 | assumption | omega
         case hv => first | rfl | (simp only [go_sem]; done)
         case hh => first | rfl | (simp only [go_sem]; done)
         try simp only [go_sem, simprocAttr, h0, h2, h4, h8, h9, h12, h15, h97, Mem.marked, Stt.marked, mrow_len]
         repeat' (refine And.intro (by first | omega | (exact ⟨[0, 1, 0, 7, 0, 31, 63, 127, 127, 0, 767, 2047], by kernel_rfl⟩) | kernel_rfl) ?_)
         refine dS_call_ro rfl (sat_laws_toState ?_ ?hp0) ?ha ?hv ?hh ?_
         case ha => simp only [go_sem, simprocAttr, h0, h2, h4, h8, h9, h12, h15, h97, Mem.marked, Stt.marked, mrow_len]; first | done | rfl
         case hp0 => first | exact f1.1 | exact f2.1 | exact f3 | assumption | omega
         case hv => first | rfl | (simp only [go_sem]; done)
         case hh => first | rfl | (simp only [go_sem]; done)
         try simp only [go_sem, simprocAttr, h0, h2, h4, h8, h9, h12, h15, h97, Mem.marked, Stt.marked, mrow_len]
         repeat' (refine And.intro (by first | omega | (exact ⟨[0, 1, 0, 7, 0, 31, 63, 127, 127, 0, 767, 2047], by kernel_rfl⟩) | kernel_rfl) ?_)
         refine dS_call_ro rfl (sat_impl_InOrder ?_ ?_ ?_ ?hp0 ?hp1) ?ha ?hv ?hh ?_
         case ha => simp only [go_sem, simprocAttr, h0, h2, h4, h8, h9, h12, h15, h97, Mem.marked, Stt.marked, mrow_len]; first | done | rfl
         case hp0 => first | exact f1.1 | exact f2.1 | exact f3 | assumption | omega
         case hp1 => first | exact f1.1 | exact f2.1 | exact f3 | assumption | omega
         case hv => first | rfl | (simp only [go_sem]; done)
         case hh => first | rfl | (simp only [go_sem]; done)
         try simp only [go_sem, simprocAttr, h0, h2, h4, h8, h9, h12, h15, h97, Mem.marked, Stt.marked, mrow_len]
         repeat' (refine And.intro (by first | omega | (exact ⟨[0, 1, 0, 7, 0, 31, 63, 127, 127, 0, 767, 2047], by kernel_rfl⟩) | kernel_rfl) ?_)
         refine hK _ _ ⟨_, _, Wk.keep [1, 2, 3, 4, 5, 6, 7, 8, 16, 13, 14, 15] rfl, awl_live' [8, 9, 12, 15, 17, 18] fun ρ hL => ?_⟩
         try simp only [go_sem, simprocAttr, h0, h2, h4, h8, h9, h12, h15, h97, Mem.marked, Stt.marked, mrow_len] at hL
         try clear h0 h2 h4 h8 h9 h12 h15 h97
         obtain ⟨h8, h9, h12, h15, h17, h18⟩ := hL
         try simp only [go_sem, simprocAttr, Mem.marked, Stt.marked, mrow_len]
         clear hK K
         refine awl_seq ?_
         refine awl_seq ?_
         refine awl_regS _ rfl fun K hK => ?_
         try simp only [go_sem, simprocAttr, h8, h9, h12, h15, h17, h18, Mem.marked, Stt.marked, mrow_len]
         repeat' (refine And.intro (by first | exact f1.1 | exact f2.1 | exact f3 | assumption | omega) ?_)
         refine opS_call_ro rfl (sat_laws_eqState (inOrder l s a).1 (inOrder l s a).1 f3) ?ha ?hv ?hh ?_
         case ha => simp only [go_sem, simprocAttr, h8, h9, h12, h15, h17, h18, Mem.marked, Stt.marked, mrow_len]; first | done | rfl
         case hv => first | rfl | (simp only [go_sem]; done)
         case hh => first | rfl | (simp only [go_sem]; done)
         try simp only [go_sem, simprocAttr, h8, h9, h12, h15, h17, h18, Mem.marked, Stt.marked, mrow_len]
         repeat' (refine And.intro (by first | exact f1.1 | exact f2.1 | exact f3 | assumption | omega) ?_)
         refine awpS_live [9, 12, 15, 18, 111] fun ρ hL => ?_
         try simp only [go_sem, simprocAttr, h8, h9, h12, h15, h17, h18, Mem.marked, Stt.marked, mrow_len] at hL
         try clear h8 h9 h12 h15 h17 h18
         obtain ⟨h9, h12, h15, h18, h111⟩ := hL
         refine grp_orN (tc := 111) (tv := 114) (td := 115) (v := ?v4) 3 rfl [12, 15] h111 rfl (fun hb K1 hK1 => ?run) (fun hb => ?skip) (fun ρ hP hL => ?_)
         case skip =>
          exact awpS_skip (want := false) (b := _) (by rw [hb]; rfl) _ [] ρ h111 (fun _ _ => rfl) (by simp) rfl
         case run =>
          simp only [List.take_succ_cons, List.take_zero]
          rw [hb] at h111
          try simp only [go_sem, simprocAttr, h9, h12, h15, h18, h111, Mem.marked, Stt.marked, mrow_len]
          repeat' (refine And.intro (by first | exact f1.1 | exact f2.1 | exact f3 | assumption | omega) ?_)
          exact hK1 _ (by simp only [go_sem, simprocAttr, h9, h12, h15, h18, h111, Mem.marked, Stt.marked, mrow_len]) (by simp only [go_sem, simprocAttr, h9, h12, h15, h18, h111, Mem.marked, Stt.marked, mrow_len]; exact rfl) (by simp only [go_sem, simprocAttr, h9, h12, h15, h18, h111, Mem.marked, Stt.marked, mrow_len])
         simp only [List.drop_succ_cons, List.drop_zero]
         try simp only [go_sem, simprocAttr, h9, h12, h15, h18, h111, Mem.marked, Stt.marked, mrow_len] at hL
         try clear h9 h12 h15 h18 h111
         obtain ⟨h12, h15⟩ := hL
         have h115 := hP
         clear hP
         try simp only [go_sem, simprocAttr, h12, h15, h115, Mem.marked, Stt.marked, mrow_len]
         repeat' (refine And.intro (by first | exact f1.1 | exact f2.1 | exact f3 | assumption | omega) ?_)
         refine hK _ _ ⟨_, _, Wk.keep [4, 5, 6, 7] rfl, awl_live' [12, 15, 115] fun ρ hL => ?_⟩
         try simp only [go_sem, simprocAttr, h12, h15, h115, Mem.marked, Stt.marked, mrow_len] at hL
         try clear h12 h15 h115
         obtain ⟨h12, h15, h115⟩ := hL
         try simp only [go_sem, simprocAttr, Mem.marked, Stt.marked, mrow_len]
         clear hK K
         refine awl_cond h115 (fun c9 => ?_) (fun c9 => ?_)
         ·
          try simp only [cnd] at c9
          first | done | (simp at c9; done) | (simp at c9; omega) | omega
         ·
          try simp only [cnd] at c9
          refine awl_skip ?_
          refine awl_seq ?_
          refine awl_regS _ rfl fun K hK => ?_
          try simp only [go_sem, simprocAttr, h12, h15, h115, Mem.marked, Stt.marked, mrow_len]
          repeat' (refine And.intro (by first | exact f1.1 | exact f2.1 | exact f3 | assumption | omega) ?_)
          refine hK _ _ ⟨_, _, Wk.keep [0, 1, 2, 3] rfl, awl_live' [12, 15, 16] fun ρ hL => ?_⟩
          try simp only [go_sem, simprocAttr, h12, h15, h115, Mem.marked, Stt.marked, mrow_len] at hL
          try clear h12 h15 h115
          obtain ⟨h12, h15, h16⟩ := hL
          try simp only [go_sem, simprocAttr, Mem.marked, Stt.marked, mrow_len]
          clear hK K
          refine awl_seq ?_
          refine awl_regS _ rfl fun K hK => ?_
          try simp only [go_sem, simprocAttr, h12, h15, h16, Mem.marked, Stt.marked, mrow_len]
          repeat' (refine And.intro (by first | exact f1.1 | exact f2.1 | exact f3 | assumption | omega) ?_)
          refine opS_call_ro rfl (sat_laws_heldState (inOrder l s a).1 1 f3 (by decide)) ?ha ?hv ?hh ?_
          case ha => simp only [go_sem, simprocAttr, h12, h15, h16, Mem.marked, Stt.marked, mrow_len]; first | done | rfl
          case hv => first | rfl | (simp only [go_sem]; done)
          case hh => first | rfl | (simp only [go_sem]; done)
          try simp only [go_sem, simprocAttr, h12, h15, h16, Mem.marked, Stt.marked, mrow_len]
          repeat' (refine And.intro (by first | exact f1.1 | exact f2.1 | exact f3 | assumption | omega) ?_)
          refine hK _ _ ⟨_, _, Wk.keep [] rfl, awl_live' [15, 16] fun ρ hL => ?_⟩
          try simp only [go_sem, simprocAttr, h12, h15, h16, Mem.marked, Stt.marked, mrow_len] at hL
          try clear h12 h15 h16
          obtain ⟨h15, h16⟩ := hL
          try simp only [go_sem, simprocAttr, Mem.marked, Stt.marked, mrow_len]
          clear hK K
          refine awl_seq ?_
          refine awl_seq ?_
          refine awl_regS _ rfl fun K hK => ?_
          try simp only [go_sem, simprocAttr, h15, h16, Mem.marked, Stt.marked, mrow_len]
          repeat' (refine And.intro (by first | exact f1.1 | exact f2.1 | exact f3 | assumption | omega) ?_)
          refine hK _ _ ⟨_, _, Wk.keep [] rfl, awl_live' [15, 16, 120] fun ρ hL => ?_⟩
          try simp only [go_sem, simprocAttr, h15, h16, Mem.marked, Stt.marked, mrow_len] at hL
          try clear h15 h16
          obtain ⟨h15, h16, h120⟩ := hL
          try simp only [go_sem, simprocAttr, Mem.marked, Stt.marked, mrow_len]
          clear hK K
          refine awl_cond h120 (fun c10 => ?_) (fun c10 => ?_)
          ·
           try simp only [cnd] at c10
           first | done | (simp at c10; done) | (simp at c10; omega) | omega
          ·
           try simp only [cnd] at c10
           refine awl_skip ?_
           refine awl_seq ?_
           refine awl_seq ?_
           refine awl_regS _ rfl fun K hK => ?_
           try simp only [go_sem, simprocAttr, h15, h16, h120, Mem.marked, Stt.marked, mrow_len]
           repeat' (refine And.intro (by first | exact f1.1 | exact f2.1 | exact f3 | assumption | omega) ?_)
           refine hK _ _ ⟨_, _, Wk.keep [] rfl, awl_live' [123] fun ρ hL => ?_⟩
           try simp only [go_sem, simprocAttr, h15, h16, h120, Mem.marked, Stt.marked, mrow_len] at hL
           try clear h15 h16 h120
           have h123 := hL
           clear hL
           try simp only [go_sem, simprocAttr, Mem.marked, Stt.marked, mrow_len]
           clear hK K
           refine awl_cond h123 (fun c11 => ?_) (fun c11 => ?_)
           ·
            try simp only [cnd] at c11
            first | done | (simp at c11; done) | (simp at c11; omega) | omega
           ·
            try simp only [cnd] at c11
            refine awl_skip ?_
            refine awl_seq ?_
            refine awl_regS _ rfl fun K hK => ?_
            try simp only [go_sem, simprocAttr, h123, Mem.marked, Stt.marked, mrow_len]
            repeat' (refine And.intro (by first | exact f1.1 | exact f2.1 | exact f3 | assumption | omega) ?_)
            refine hK _ _ ⟨_, _, Wk.keep [] rfl, awl_live' [6] fun ρ hL => ?_⟩
            try simp only [go_sem, simprocAttr, h123, Mem.marked, Stt.marked, mrow_len] at hL
            try clear h123
            have h6 := hL
            clear hL
            try simp only [go_sem, simprocAttr, Mem.marked, Stt.marked, mrow_len]
            clear hK K
            refine awl_ret ?_
            refine ret0 (by simp only [go_sem, simprocAttr, h6, Mem.marked, Stt.marked, mrow_len]; exact rfl) ?_
            try simp only [go_sem, simprocAttr]
            all_goals (rfl)
end Go.Proofs.YtgddflnhibhacaaGreat.AM
