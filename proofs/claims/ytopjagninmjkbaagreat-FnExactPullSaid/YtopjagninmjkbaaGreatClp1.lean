/- The law Pull. No conditions but those each theorem bears. -/
import Derived.Test.YtopjagninmjkbaaGreatFa
import Derived.Test.YtopjagninmjkbaaGreatCa13
import Derived.Test.YtopjagninmjkbaaGreatCa31
import Derived.Test.YtopjagninmjkbaaGreatCa23
import Derived.Test.YtopjagninmjkbaaGreatCa35
set_option linter.unusedSimpArgs false
set_option linter.unusedVariables false
namespace Go.Proofs.YtopjagninmjkbaaGreat.AM
open Go

set_option maxHeartbeats 8000000 in
set_option maxRecDepth 100000 in
theorem sat_laws_FnExactPull (l : List Ins) (c : Cor) (hl : l.length ≤ 9223372036854775807) (hs : c.sm) : Sat Tryz.prog 3 [.sl l.length l.length (rows l), .agg c.cells] [] (.bool true) [] := by
 refine sat_mk [.tmp 4] 0 119 Tryz.call3 Tryz.func3 Tryz.ntmps3 rfl rfl rfl rfl rfl ?_
 refine awl_live' [0, 1] fun ρ hL => ?_
 try simp only [go_sem, simprocAttr, Mem.marked, Stt.marked, Cor.markedQ, mrow_len, marks_len] at hL
 obtain ⟨h0, h1⟩ := hL
 refine awl_seq ?_
 refine awl_regS _ rfl fun K hK => ?_
 try simp only [go_sem, simprocAttr, h0, h1, Mem.marked, Stt.marked, Cor.markedQ, mrow_len, marks_len]
 repeat' (refine And.intro (by first | exact f1.1 | exact f2.1 | exact f3 | assumption | omega) ?_)
 refine hK _ _ ⟨_, _, Wk.keep [0] rfl, awl_live' [0, 3] fun ρ hL => ?_⟩
 try simp only [go_sem, simprocAttr, h0, h1, Mem.marked, Stt.marked, Cor.markedQ, mrow_len, marks_len] at hL
 try clear h0 h1
 obtain ⟨h0, h3⟩ := hL
 try simp only [go_sem, simprocAttr, Mem.marked, Stt.marked, Cor.markedQ, mrow_len, marks_len]
 clear hK K
 refine awl_seq ?_
 refine awl_regS _ rfl fun K hK => ?_
 try simp only [go_sem, simprocAttr, h0, h3, Mem.marked, Stt.marked, Cor.markedQ, mrow_len, marks_len]
 repeat' (refine And.intro (by first | exact f1.1 | exact f2.1 | exact f3 | assumption | omega) ?_)
 refine hK _ _ ⟨_, _, Wk.keep [0] rfl, awl_live' [0, 3, 5] fun ρ hL => ?_⟩
 try simp only [go_sem, simprocAttr, h0, h3, Mem.marked, Stt.marked, Cor.markedQ, mrow_len, marks_len] at hL
 try clear h0 h3
 obtain ⟨h0, h3, h5⟩ := hL
 try simp only [go_sem, simprocAttr, Mem.marked, Stt.marked, Cor.markedQ, mrow_len, marks_len]
 clear hK K
 refine awl_seq ?_
 refine awl_regS _ rfl fun K hK => ?_
 try simp only [go_sem, simprocAttr, h0, h3, h5, Mem.marked, Stt.marked, Cor.markedQ, mrow_len, marks_len]
 repeat' (refine And.intro (by first | exact f1.1 | exact f2.1 | exact f3 | assumption | omega) ?_)
 refine opS_call_ro rfl (sat_laws_szInsS l 1048576 hl ⟨by decide, by decide⟩) ?ha ?hv ?hh ?_
 case ha => simp only [go_sem, simprocAttr, h0, h3, h5, Mem.marked, Stt.marked, Cor.markedQ, mrow_len, marks_len]; first | done | rfl
 case hv => first | rfl | (simp only [go_sem]; done)
 case hh => first | rfl | (simp only [go_sem]; done)
 try simp only [go_sem, simprocAttr, h0, h3, h5, Mem.marked, Stt.marked, Cor.markedQ, mrow_len, marks_len]
 repeat' (refine And.intro (by first | exact f1.1 | exact f2.1 | exact f3 | assumption | omega) ?_)
 refine hK _ _ ⟨_, _, Wk.keep [0] rfl, awl_live' [0, 3, 5] fun ρ hL => ?_⟩
 try simp only [go_sem, simprocAttr, h0, h3, h5, Mem.marked, Stt.marked, Cor.markedQ, mrow_len, marks_len] at hL
 try clear h0 h3 h5
 obtain ⟨h0, h3, h5⟩ := hL
 try simp only [go_sem, simprocAttr, Mem.marked, Stt.marked, Cor.markedQ, mrow_len, marks_len]
 clear hK K
 refine awl_seq ?_
 refine awl_seq ?_
 refine awl_regS _ rfl fun K hK => ?_
 try simp only [go_sem, simprocAttr, h0, h3, h5, Mem.marked, Stt.marked, Cor.markedQ, mrow_len, marks_len]
 repeat' (refine And.intro (by first | exact f1.1 | exact f2.1 | exact f3 | assumption | omega) ?_)
 refine hK _ _ ⟨_, _, Wk.keep [0] rfl, awl_live' [0, 3, 5, 21] fun ρ hL => ?_⟩
 try simp only [go_sem, simprocAttr, h0, h3, h5, Mem.marked, Stt.marked, Cor.markedQ, mrow_len, marks_len] at hL
 try clear h0 h3 h5
 obtain ⟨h0, h3, h5, h21⟩ := hL
 try simp only [go_sem, simprocAttr, Mem.marked, Stt.marked, Cor.markedQ, mrow_len, marks_len]
 clear hK K
 refine awl_cond h21 (fun c1 => ?_) (fun c1 => ?_)
 ·
  try simp only [cnd] at c1
  refine awl_seq ?_
  refine awl_regS _ rfl fun K hK => ?_
  try simp only [go_sem, simprocAttr, h0, h3, h5, h21, Mem.marked, Stt.marked, Cor.markedQ, mrow_len, marks_len]
  repeat' (refine And.intro (by first | exact f1.1 | exact f2.1 | exact f3 | assumption | omega) ?_)
  refine hK _ _ ⟨_, _, Wk.keep [] rfl, awl_live' [4] fun ρ hL => ?_⟩
  try simp only [go_sem, simprocAttr, h0, h3, h5, h21, Mem.marked, Stt.marked, Cor.markedQ, mrow_len, marks_len] at hL
  try clear h0 h3 h5 h21
  have h4 := hL
  clear hL
  try simp only [go_sem, simprocAttr, Mem.marked, Stt.marked, Cor.markedQ, mrow_len, marks_len]
  clear hK K
  refine awl_ret ?_
  refine ret0 (by simp only [go_sem, simprocAttr, h4, Mem.marked, Stt.marked, Cor.markedQ, mrow_len, marks_len]; exact rfl) ?_
  try simp only [go_sem, simprocAttr]
  all_goals (rfl)
 ·
  try simp only [cnd] at c1
  have f1 := szL_ok (l := 1048576) ⟨by decide, by decide⟩ c1
  have f1a := f1.1
  refine awl_skip ?_
  refine awl_seq ?_
  refine awl_regS _ rfl fun K hK => ?_
  try simp only [go_sem, simprocAttr, h0, h3, h5, h21, Mem.marked, Stt.marked, Cor.markedQ, mrow_len, marks_len]
  repeat' (refine And.intro (by first | exact f1.1 | exact f2.1 | exact f3 | assumption | omega) ?_)
  refine opS_call_ro rfl (sat_laws_szCore c (szL 1048576 l.length) hs f1.2) ?ha ?hv ?hh ?_
  case ha => simp only [go_sem, simprocAttr, h0, h3, h5, h21, Mem.marked, Stt.marked, Cor.markedQ, mrow_len, marks_len]; first | done | rfl
  case hv => first | rfl | (simp only [go_sem]; done)
  case hh => first | rfl | (simp only [go_sem]; done)
  try simp only [go_sem, simprocAttr, h0, h3, h5, h21, Mem.marked, Stt.marked, Cor.markedQ, mrow_len, marks_len]
  repeat' (refine And.intro (by first | exact f1.1 | exact f2.1 | exact f3 | assumption | omega) ?_)
  refine hK _ _ ⟨_, _, Wk.keep [0] rfl, awl_live' [0, 3, 5] fun ρ hL => ?_⟩
  try simp only [go_sem, simprocAttr, h0, h3, h5, h21, Mem.marked, Stt.marked, Cor.markedQ, mrow_len, marks_len] at hL
  try clear h0 h3 h5 h21
  obtain ⟨h0, h3, h5⟩ := hL
  try simp only [go_sem, simprocAttr, Mem.marked, Stt.marked, Cor.markedQ, mrow_len, marks_len]
  clear hK K
  refine awl_seq ?_
  refine awl_seq ?_
  refine awl_regS _ rfl fun K hK => ?_
  try simp only [go_sem, simprocAttr, h0, h3, h5, Mem.marked, Stt.marked, Cor.markedQ, mrow_len, marks_len]
  repeat' (refine And.intro (by first | exact f1.1 | exact f2.1 | exact f3 | assumption | omega) ?_)
  refine hK _ _ ⟨_, _, Wk.keep [0] rfl, awl_live' [0, 3, 26] fun ρ hL => ?_⟩
  try simp only [go_sem, simprocAttr, h0, h3, h5, Mem.marked, Stt.marked, Cor.markedQ, mrow_len, marks_len] at hL
  try clear h0 h3 h5
  obtain ⟨h0, h3, h26⟩ := hL
  try simp only [go_sem, simprocAttr, Mem.marked, Stt.marked, Cor.markedQ, mrow_len, marks_len]
  clear hK K
  refine awl_cond h26 (fun c2 => ?_) (fun c2 => ?_)
  ·
   try simp only [cnd] at c2
   refine awl_seq ?_
   refine awl_regS _ rfl fun K hK => ?_
   try simp only [go_sem, simprocAttr, h0, h3, h26, Mem.marked, Stt.marked, Cor.markedQ, mrow_len, marks_len]
   repeat' (refine And.intro (by first | exact f1.1 | exact f2.1 | exact f3 | assumption | omega) ?_)
   refine hK _ _ ⟨_, _, Wk.keep [] rfl, awl_live' [4] fun ρ hL => ?_⟩
   try simp only [go_sem, simprocAttr, h0, h3, h26, Mem.marked, Stt.marked, Cor.markedQ, mrow_len, marks_len] at hL
   try clear h0 h3 h26
   have h4 := hL
   clear hL
   try simp only [go_sem, simprocAttr, Mem.marked, Stt.marked, Cor.markedQ, mrow_len, marks_len]
   clear hK K
   refine awl_ret ?_
   refine ret0 (by simp only [go_sem, simprocAttr, h4, Mem.marked, Stt.marked, Cor.markedQ, mrow_len, marks_len]; exact rfl) ?_
   try simp only [go_sem, simprocAttr]
   all_goals (rfl)
  ·
   try simp only [cnd] at c2
   have f2 := szC_ok f1.2 c2
   have f3 := pull_fit (l := l) f2.1
   refine awl_skip ?_
   refine awl_seq ?_
   refine awl_regD mixed _ rfl fun K hK => ?_
   try simp only [go_sem, simprocAttr, h0, h3, h26, Mem.marked, Stt.marked, Cor.markedQ, mrow_len, marks_len]
   repeat' (refine And.intro (by first | omega | (exact ⟨[0, 1, 0, 7, 15, 31, 63, 63, 0, 383, 1023], by kernel_rfl⟩) | kernel_rfl) ?_)
   refine dS_call_ro rfl (sat_laws_toInsS ?_ ?hp0) ?ha ?hv ?hh ?_
   case ha => simp only [go_sem, simprocAttr, h0, h3, h26, Mem.marked, Stt.marked, Cor.markedQ, mrow_len, marks_len]; first | done | rfl
   case hp0 => first | exact f1.1 | exact f2.1 | exact f3 | assumption | omega
   case hv => first | rfl | (simp only [go_sem]; done)
   case hh => first | rfl | (simp only [go_sem]; done)
   try simp only [go_sem, simprocAttr, h0, h3, h26, Mem.marked, Stt.marked, Cor.markedQ, mrow_len, marks_len]
   repeat' (refine And.intro (by first | omega | (exact ⟨[0, 1, 0, 7, 15, 31, 63, 63, 0, 383, 1023], by kernel_rfl⟩) | kernel_rfl) ?_)
   refine dS_call_ro rfl (sat_laws_toCore ?_ ?hp0) ?ha ?hv ?hh ?_
   case ha => simp only [go_sem, simprocAttr, h0, h3, h26, Mem.marked, Stt.marked, Cor.markedQ, mrow_len, marks_len]; first | done | rfl
   case hp0 => first | exact f1.1 | exact f2.1 | exact f3 | assumption | omega
   case hv => first | rfl | (simp only [go_sem]; done)
   case hh => first | rfl | (simp only [go_sem]; done)
   try simp only [go_sem, simprocAttr, h0, h3, h26, Mem.marked, Stt.marked, Cor.markedQ, mrow_len, marks_len]
   repeat' (refine And.intro (by first | omega | (exact ⟨[0, 1, 0, 7, 15, 31, 63, 63, 0, 383, 1023], by kernel_rfl⟩) | kernel_rfl) ?_)
   refine dS_call_ro rfl (sat_spec_Pull ?_ ?_ ?hp0 ?hp1) ?ha ?hv ?hh ?_
   case ha => simp only [go_sem, simprocAttr, h0, h3, h26, Mem.marked, Stt.marked, Cor.markedQ, mrow_len, marks_len]; first | done | rfl
   case hp0 => first | exact f1.1 | exact f2.1 | exact f3 | assumption | omega
   case hp1 => first | exact f1.1 | exact f2.1 | exact f3 | assumption | omega
   case hv => first | rfl | (simp only [go_sem]; done)
   case hh => first | rfl | (simp only [go_sem]; done)
   try simp only [go_sem, simprocAttr, h0, h3, h26, Mem.marked, Stt.marked, Cor.markedQ, mrow_len, marks_len]
   repeat' (refine And.intro (by first | omega | (exact ⟨[0, 1, 0, 7, 15, 31, 63, 63, 0, 383, 1023], by kernel_rfl⟩) | kernel_rfl) ?_)
   refine hK _ _ ⟨_, _, Wk.keep [0, 12, 7, 8, 9, 10, 11] rfl, awl_live' [0, 3, 6, 7] fun ρ hL => ?_⟩
   try simp only [go_sem, simprocAttr, h0, h3, h26, Mem.marked, Stt.marked, Cor.markedQ, mrow_len, marks_len] at hL
   try clear h0 h3 h26
   obtain ⟨h0, h3, h6, h7⟩ := hL
   try simp only [go_sem, simprocAttr, Mem.marked, Stt.marked, Cor.markedQ, mrow_len, marks_len]
   clear hK K
   refine awl_seq ?_
   refine awl_regS _ rfl fun K hK => ?_
   try simp only [go_sem, simprocAttr, h0, h3, h6, h7, Mem.marked, Stt.marked, Cor.markedQ, mrow_len, marks_len]
   repeat' (refine And.intro (by first | exact f1.1 | exact f2.1 | exact f3 | assumption | omega) ?_)
   refine opS_call_ro rfl (sat_laws_toInsS ?_ ?hp0) ?ha ?hv ?hh ?_
   case ha => simp only [go_sem, simprocAttr, h0, h3, h6, h7, Mem.marked, Stt.marked, Cor.markedQ, mrow_len, marks_len]; first | done | rfl
   case hp0 => first | exact f1.1 | exact f2.1 | exact f3 | assumption | omega
   case hv => first | rfl | (simp only [go_sem]; done)
   case hh => first | rfl | (simp only [go_sem]; done)
   try simp only [go_sem, simprocAttr, h0, h3, h6, h7, Mem.marked, Stt.marked, Cor.markedQ, mrow_len, marks_len]
   repeat' (refine And.intro (by first | exact f1.1 | exact f2.1 | exact f3 | assumption | omega) ?_)
   refine hK _ _ ⟨_, _, Wk.keep [0, 1, 2, 3, 4, 5, 6, 7] rfl, awl_live' [0, 3, 6, 7, 8] fun ρ hL => ?_⟩
   try simp only [go_sem, simprocAttr, h0, h3, h6, h7, Mem.marked, Stt.marked, Cor.markedQ, mrow_len, marks_len] at hL
   try clear h0 h3 h6 h7
   obtain ⟨h0, h3, h6, h7, h8⟩ := hL
   try simp only [go_sem, simprocAttr, Mem.marked, Stt.marked, Cor.markedQ, mrow_len, marks_len]
   clear hK K
   refine awl_seq ?_
   refine awl_regS _ rfl fun K hK => ?_
   try simp only [go_sem, simprocAttr, h0, h3, h6, h7, h8, Mem.marked, Stt.marked, Cor.markedQ, mrow_len, marks_len]
   repeat' (refine And.intro (by first | exact f1.1 | exact f2.1 | exact f3 | assumption | omega) ?_)
   refine opS_call_ro rfl (sat_laws_toCore ?_ ?hp0) ?ha ?hv ?hh ?_
   case ha => simp only [go_sem, simprocAttr, h0, h3, h6, h7, h8, Mem.marked, Stt.marked, Cor.markedQ, mrow_len, marks_len]; first | done | rfl
   case hp0 => first | exact f1.1 | exact f2.1 | exact f3 | assumption | omega
   case hv => first | rfl | (simp only [go_sem]; done)
   case hh => first | rfl | (simp only [go_sem]; done)
   try simp only [go_sem, simprocAttr, h0, h3, h6, h7, h8, Mem.marked, Stt.marked, Cor.markedQ, mrow_len, marks_len]
   repeat' (refine And.intro (by first | exact f1.1 | exact f2.1 | exact f3 | assumption | omega) ?_)
   refine hK _ _ ⟨_, _, Wk.keep [0, 1, 2, 3, 4, 5, 6, 7, 13, 8, 9, 10, 11, 12] rfl, awl_live' [0, 3, 6, 7, 8, 9] fun ρ hL => ?_⟩
   try simp only [go_sem, simprocAttr, h0, h3, h6, h7, h8, Mem.marked, Stt.marked, Cor.markedQ, mrow_len, marks_len] at hL
   try clear h0 h3 h6 h7 h8
   obtain ⟨h0, h3, h6, h7, h8, h9⟩ := hL
   try simp only [go_sem, simprocAttr, Mem.marked, Stt.marked, Cor.markedQ, mrow_len, marks_len]
   clear hK K
   refine awl_seq ?_
   refine awl_regS _ rfl fun K hK => ?_
   try simp only [go_sem, simprocAttr, h0, h3, h6, h7, h8, h9, Mem.marked, Stt.marked, Cor.markedQ, mrow_len, marks_len]
   repeat' (refine And.intro (by first | exact f1.1 | exact f2.1 | exact f3 | assumption | omega) ?_)
   refine opS_call_ro rfl (sat_impl_Pull ?_ ?_ ?hp0 ?hp1) ?ha ?hv ?hh ?_
   case ha => simp only [go_sem, simprocAttr, h0, h3, h6, h7, h8, h9, Mem.marked, Stt.marked, Cor.markedQ, mrow_len, marks_len]; first | done | rfl
   case hp0 => first | exact f1.1 | exact f2.1 | exact f3 | assumption | omega
   case hp1 => first | exact f1.1 | exact f2.1 | exact f3 | assumption | omega
   case hv => first | rfl | (simp only [go_sem]; done)
   case hh => first | rfl | (simp only [go_sem]; done)
   try simp only [go_sem, simprocAttr, h0, h3, h6, h7, h8, h9, Mem.marked, Stt.marked, Cor.markedQ, mrow_len, marks_len]
   repeat' (refine And.intro (by first | exact f1.1 | exact f2.1 | exact f3 | assumption | omega) ?_)
   refine hK _ _ ⟨_, _, Wk.keep [0, 1, 2, 3, 4, 5, 6, 7, 8, 9, 10, 11, 12, 13, 19, 14, 15, 16, 17, 18] rfl, awl_live' [0, 3, 6, 7, 8, 9, 10, 11] fun ρ hL => ?_⟩
   try simp only [go_sem, simprocAttr, h0, h3, h6, h7, h8, h9, Mem.marked, Stt.marked, Cor.markedQ, mrow_len, marks_len] at hL
   try clear h0 h3 h6 h7 h8 h9
   obtain ⟨h0, h3, h6, h7, h8, h9, h10, h11⟩ := hL
   try simp only [go_sem, simprocAttr, Mem.marked, Stt.marked, Cor.markedQ, mrow_len, marks_len]
   clear hK K
   refine awl_seq ?_
   refine awl_seq ?_
   refine awl_regS _ rfl fun K hK => ?_
   try simp only [go_sem, simprocAttr, h0, h3, h6, h7, h8, h9, h10, h11, Mem.marked, Stt.marked, Cor.markedQ, mrow_len, marks_len]
   repeat' (refine And.intro (by first | exact f1.1 | exact f2.1 | exact f3 | assumption | omega) ?_)
   refine opS_call_ro rfl (sat_laws_eqCore (pull l c).1 (pull l c).1 f3) ?ha ?hv ?hh ?_
   case ha => simp only [go_sem, simprocAttr, h0, h3, h6, h7, h8, h9, h10, h11, Mem.marked, Stt.marked, Cor.markedQ, mrow_len, marks_len]; first | done | rfl
   case hv => first | rfl | (simp only [go_sem]; done)
   case hh => first | rfl | (simp only [go_sem]; done)
   try simp only [go_sem, simprocAttr, h0, h3, h6, h7, h8, h9, h10, h11, Mem.marked, Stt.marked, Cor.markedQ, mrow_len, marks_len]
   repeat' (refine And.intro (by first | exact f1.1 | exact f2.1 | exact f3 | assumption | omega) ?_)
   refine awpS_live [0, 3, 6, 7, 8, 9, 10, 11, 49] fun ρ hL => ?_
   try simp only [go_sem, simprocAttr, h0, h3, h6, h7, h8, h9, h10, h11, Mem.marked, Stt.marked, Cor.markedQ, mrow_len, marks_len] at hL
   try clear h0 h3 h6 h7 h8 h9 h10 h11
   obtain ⟨h0, h3, h6, h7, h8, h9, h10, h11, h49⟩ := hL
   refine grp_orN (tc := 49) (tv := 52) (td := 53) (v := ?v1) 3 rfl [0, 3, 6, 7, 8, 9, 10, 11] h49 rfl (fun hb K1 hK1 => ?run) (fun hb => ?skip) (fun ρ hP hL => ?_)
   case skip =>
    exact awpS_skip (want := false) (b := _) (by rw [hb]; rfl) _ [] ρ h49 (fun _ _ => rfl) (by simp) rfl
   case run =>
    simp only [List.take_succ_cons, List.take_zero]
    rw [hb] at h49
    try simp only [go_sem, simprocAttr, h0, h3, h6, h7, h8, h9, h10, h11, h49, Mem.marked, Stt.marked, Cor.markedQ, mrow_len, marks_len]
    repeat' (refine And.intro (by first | exact f1.1 | exact f2.1 | exact f3 | assumption | omega) ?_)
    exact hK1 _ (by simp only [go_sem, simprocAttr, h0, h3, h6, h7, h8, h9, h10, h11, h49, Mem.marked, Stt.marked, Cor.markedQ, mrow_len, marks_len]) (by simp only [go_sem, simprocAttr, h0, h3, h6, h7, h8, h9, h10, h11, h49, Mem.marked, Stt.marked, Cor.markedQ, mrow_len, marks_len]; exact rfl) (by simp only [go_sem, simprocAttr, h0, h3, h6, h7, h8, h9, h10, h11, h49, Mem.marked, Stt.marked, Cor.markedQ, mrow_len, marks_len])
   simp only [List.drop_succ_cons, List.drop_zero]
   try simp only [go_sem, simprocAttr, h0, h3, h6, h7, h8, h9, h10, h11, h49, Mem.marked, Stt.marked, Cor.markedQ, mrow_len, marks_len] at hL
   try clear h0 h3 h6 h7 h8 h9 h10 h11 h49
   obtain ⟨h0, h3, h6, h7, h8, h9, h10, h11⟩ := hL
   have h53 := hP
   clear hP
   try simp only [go_sem, simprocAttr, h0, h3, h6, h7, h8, h9, h10, h11, h53, Mem.marked, Stt.marked, Cor.markedQ, mrow_len, marks_len]
   repeat' (refine And.intro (by first | exact f1.1 | exact f2.1 | exact f3 | assumption | omega) ?_)
   refine hK _ _ ⟨_, _, Wk.keep [0, 1, 2, 3, 4, 5, 6, 7, 8, 9, 10, 11, 12, 13, 14, 15, 16, 17, 18, 19] rfl, awl_live' [0, 3, 6, 7, 8, 9, 10, 11, 53] fun ρ hL => ?_⟩
   try simp only [go_sem, simprocAttr, h0, h3, h6, h7, h8, h9, h10, h11, h53, Mem.marked, Stt.marked, Cor.markedQ, mrow_len, marks_len] at hL
   try clear h0 h3 h6 h7 h8 h9 h10 h11 h53
   obtain ⟨h0, h3, h6, h7, h8, h9, h10, h11, h53⟩ := hL
   try simp only [go_sem, simprocAttr, Mem.marked, Stt.marked, Cor.markedQ, mrow_len, marks_len]
   clear hK K
   refine awl_cond h53 (fun c3 => ?_) (fun c3 => ?_)
   ·
    try simp only [cnd] at c3
    first | done | (simp at c3; done) | (simp at c3; omega) | omega
   ·
    try simp only [cnd] at c3
    refine awl_skip ?_
    refine awl_seq ?_
    refine awl_seq ?_
    refine awl_regS _ rfl fun K hK => ?_
    try simp only [go_sem, simprocAttr, h0, h3, h6, h7, h8, h9, h10, h11, h53, Mem.marked, Stt.marked, Cor.markedQ, mrow_len, marks_len]
    repeat' (refine And.intro (by first | exact f1.1 | exact f2.1 | exact f3 | assumption | omega) ?_)
    refine opS_call_ro rfl (sat_laws_toInsS ?_ ?hp0) ?ha ?hv ?hh ?_
    case ha => simp only [go_sem, simprocAttr, h0, h3, h6, h7, h8, h9, h10, h11, h53, Mem.marked, Stt.marked, Cor.markedQ, mrow_len, marks_len]; first | done | rfl
    case hp0 => first | exact f1.1 | exact f2.1 | exact f3 | assumption | omega
    case hv => first | rfl | (simp only [go_sem]; done)
    case hh => first | rfl | (simp only [go_sem]; done)
    try simp only [go_sem, simprocAttr, h0, h3, h6, h7, h8, h9, h10, h11, h53, Mem.marked, Stt.marked, Cor.markedQ, mrow_len, marks_len]
    repeat' (refine And.intro (by first | exact f1.1 | exact f2.1 | exact f3 | assumption | omega) ?_)
    refine opS_call_ro rfl (sat_laws_eqInsS ?_ ?_ ?hp0) ?ha ?hv ?hh ?_
    case ha => simp only [go_sem, simprocAttr, h0, h3, h6, h7, h8, h9, h10, h11, h53, Mem.marked, Stt.marked, Cor.markedQ, mrow_len, marks_len]; first | done | rfl
    case hp0 => first | exact f1.1 | exact f2.1 | exact f3 | assumption | omega
    case hv => first | rfl | (simp only [go_sem]; done)
    case hh => first | rfl | (simp only [go_sem]; done)
    try simp only [go_sem, simprocAttr, h0, h3, h6, h7, h8, h9, h10, h11, h53, Mem.marked, Stt.marked, Cor.markedQ, mrow_len, marks_len]
    repeat' (refine And.intro (by first | exact f1.1 | exact f2.1 | exact f3 | assumption | omega) ?_)
    refine hK _ _ ⟨_, _, Wk.keep [0, 1, 2, 3, 4, 5, 6, 7, 8, 9, 10, 11, 12, 13, 14, 15, 16, 17, 18, 19] rfl, awl_live' [0, 3, 6, 7, 8, 9, 10, 11, 58] fun ρ hL => ?_⟩
    try simp only [go_sem, simprocAttr, h0, h3, h6, h7, h8, h9, h10, h11, h53, Mem.marked, Stt.marked, Cor.markedQ, mrow_len, marks_len] at hL
    try clear h0 h3 h6 h7 h8 h9 h10 h11 h53
    obtain ⟨h0, h3, h6, h7, h8, h9, h10, h11, h58⟩ := hL
    try simp only [go_sem, simprocAttr, Mem.marked, Stt.marked, Cor.markedQ, mrow_len, marks_len]
    clear hK K
    refine awl_cond h58 (fun c4 => ?_) (fun c4 => ?_)
    ·
     try simp only [cnd] at c4
     first | done | (simp at c4; done) | (simp at c4; omega) | omega
    ·
     try simp only [cnd] at c4
     refine awl_skip ?_
     refine awl_seq ?_
     refine awl_seq ?_
     refine awl_regD mixed _ rfl fun K hK => ?_
     try simp only [go_sem, simprocAttr, h0, h3, h6, h7, h8, h9, h10, h11, h58, Mem.marked, Stt.marked, Cor.markedQ, mrow_len, marks_len]
     repeat' (refine And.intro (by first | omega | (exact ⟨[0, 0, 2, 7, 15], by kernel_rfl⟩) | kernel_rfl) ?_)
     refine dS_call_ro rfl (sat_laws_toCore ?_ ?hp0) ?ha ?hv ?hh ?_
     case ha => simp only [go_sem, simprocAttr, h0, h3, h6, h7, h8, h9, h10, h11, h58, Mem.marked, Stt.marked, Cor.markedQ, mrow_len, marks_len]; first | done | rfl
     case hp0 => first | exact f1.1 | exact f2.1 | exact f3 | assumption | omega
     case hv => first | rfl | (simp only [go_sem]; done)
     case hh => first | rfl | (simp only [go_sem]; done)
     try simp only [go_sem, simprocAttr, h0, h3, h6, h7, h8, h9, h10, h11, h58, Mem.marked, Stt.marked, Cor.markedQ, mrow_len, marks_len]
     repeat' (refine And.intro (by first | omega | (exact ⟨[0, 0, 2, 7, 15], by kernel_rfl⟩) | kernel_rfl) ?_)
     refine dS_call_ro rfl (sat_laws_eqCore c c f2.1) ?ha ?hv ?hh ?_
     case ha => simp only [go_sem, simprocAttr, h0, h3, h6, h7, h8, h9, h10, h11, h58, Mem.marked, Stt.marked, Cor.markedQ, mrow_len, marks_len]; first | done | rfl
     case hv => first | rfl | (simp only [go_sem]; done)
     case hh => first | rfl | (simp only [go_sem]; done)
     try simp only [go_sem, simprocAttr, h0, h3, h6, h7, h8, h9, h10, h11, h58, Mem.marked, Stt.marked, Cor.markedQ, mrow_len, marks_len]
     repeat' (refine And.intro (by first | omega | (exact ⟨[0, 0, 2, 7, 15], by kernel_rfl⟩) | kernel_rfl) ?_)
     refine hK _ _ ⟨_, _, Wk.keep [0, 1, 2, 3, 4, 5, 6, 7, 8, 9, 10, 11, 12, 13, 14, 15, 16, 17, 18, 19] rfl, awl_live' [0, 3, 6, 7, 8, 9, 10, 11, 63] fun ρ hL => ?_⟩
     try simp only [go_sem, simprocAttr, h0, h3, h6, h7, h8, h9, h10, h11, h58, Mem.marked, Stt.marked, Cor.markedQ, mrow_len, marks_len] at hL
     try clear h0 h3 h6 h7 h8 h9 h10 h11 h58
     obtain ⟨h0, h3, h6, h7, h8, h9, h10, h11, h63⟩ := hL
     try simp only [go_sem, simprocAttr, Mem.marked, Stt.marked, Cor.markedQ, mrow_len, marks_len]
     clear hK K
     refine awl_cond h63 (fun c5 => ?_) (fun c5 => ?_)
     ·
      try simp only [cnd] at c5
      first | done | (simp at c5; done) | (simp at c5; omega) | omega
     ·
      try simp only [cnd] at c5
      refine awl_skip ?_
      refine awl_seq ?_
      refine awl_regS _ rfl fun K hK => ?_
      try simp only [go_sem, simprocAttr, h0, h3, h6, h7, h8, h9, h10, h11, h63, Mem.marked, Stt.marked, Cor.markedQ, mrow_len, marks_len]
      repeat' (refine And.intro (by first | exact f1.1 | exact f2.1 | exact f3 | assumption | omega) ?_)
      refine hK _ _ ⟨_, _, Wk.keep [0, 1, 2, 3, 4, 5, 6, 7, 8, 9, 10, 11, 12, 13, 14, 15, 16, 17, 18, 19] rfl, awl_live' [0, 3, 6, 7, 8, 9, 10, 11, 12] fun ρ hL => ?_⟩
      try simp only [go_sem, simprocAttr, h0, h3, h6, h7, h8, h9, h10, h11, h63, Mem.marked, Stt.marked, Cor.markedQ, mrow_len, marks_len] at hL
      try clear h0 h3 h6 h7 h8 h9 h10 h11 h63
      obtain ⟨h0, h3, h6, h7, h8, h9, h10, h11, h12⟩ := hL
      try simp only [go_sem, simprocAttr, Mem.marked, Stt.marked, Cor.markedQ, mrow_len, marks_len]
      clear hK K
      refine awl_seq ?_
      refine awl_regS _ rfl fun K hK => ?_
      try simp only [go_sem, simprocAttr, h0, h3, h6, h7, h8, h9, h10, h11, h12, Mem.marked, Stt.marked, Cor.markedQ, mrow_len, marks_len]
      repeat' (refine And.intro (by first | exact f1.1 | exact f2.1 | exact f3 | assumption | omega) ?_)
      refine opS_call_in [7] rfl (sat_laws_markInsS ?_ ?_ ?_ ?hp0 ?hp1) ?ha ?hb ?hv ?hh (by decide) rfl ?_
      case ha => simp only [go_sem, simprocAttr, h0, h3, h6, h7, h8, h9, h10, h11, h12, Mem.marked, Stt.marked, Cor.markedQ, mrow_len, marks_len]; first | done | rfl
      case hb => simp only [go_sem, simprocAttr, h0, h3, h6, h7, h8, h9, h10, h11, h12, Mem.marked, Stt.marked, Cor.markedQ, mrow_len, marks_len]; first | done | rfl
      case hp0 => first | exact f1.1 | exact f2.1 | exact f3 | assumption | omega
      case hp1 => first | exact f1.1 | exact f2.1 | exact f3 | assumption | omega
      case hv => first | rfl | (simp only [go_sem]; done)
      case hh => first | rfl | (simp only [go_sem]; done)
      try simp only [go_sem, simprocAttr, h0, h3, h6, h7, h8, h9, h10, h11, h12, Mem.marked, Stt.marked, Cor.markedQ, mrow_len, marks_len]
      repeat' (refine And.intro (by first | exact f1.1 | exact f2.1 | exact f3 | assumption | omega) ?_)
      refine hK _ _ ⟨_, _, Wk.keep [0, 1, 2, 3, 4, 5, 6, 8, 9, 10, 11, 12, 13, 14, 15, 16, 17, 18, 19] rfl, awl_live' [0, 3, 6, 7, 9, 10, 11, 12] fun ρ hL => ?_⟩
      try simp only [go_sem, simprocAttr, h0, h3, h6, h7, h8, h9, h10, h11, h12, Mem.marked, Stt.marked, Cor.markedQ, mrow_len, marks_len] at hL
      try clear h0 h3 h6 h7 h8 h9 h10 h11 h12
      obtain ⟨h0, h3, h6, h7, h9, h10, h11, h12⟩ := hL
      try simp only [go_sem, simprocAttr, Mem.marked, Stt.marked, Cor.markedQ, mrow_len, marks_len]
      clear hK K
      refine awl_seq ?_
      refine awl_regS _ rfl fun K hK => ?_
      try simp only [go_sem, simprocAttr, h0, h3, h6, h7, h9, h10, h11, h12, Mem.marked, Stt.marked, Cor.markedQ, mrow_len, marks_len]
      repeat' (refine And.intro (by first | exact f1.1 | exact f2.1 | exact f3 | assumption | omega) ?_)
      refine opS_call_in [8, 9, 10, 11, 12] rfl (sat_laws_markCore c (1 + (5 * l.length : Nat)) f2.1 (by omega)) ?ha ?hb ?hv ?hh (by decide) rfl ?_
      case ha => simp only [go_sem, simprocAttr, h0, h3, h6, h7, h9, h10, h11, h12, Mem.marked, Stt.marked, Cor.markedQ, mrow_len, marks_len]; first | done | rfl
      case hb => simp only [go_sem, simprocAttr, h0, h3, h6, h7, h9, h10, h11, h12, Mem.marked, Stt.marked, Cor.markedQ, mrow_len, marks_len]; first | done | rfl
      case hv => first | rfl | (simp only [go_sem]; done)
      case hh => first | rfl | (simp only [go_sem]; done)
      try simp only [go_sem, simprocAttr, h0, h3, h6, h7, h9, h10, h11, h12, Mem.marked, Stt.marked, Cor.markedQ, mrow_len, marks_len]
      repeat' (refine And.intro (by first | exact f1.1 | exact f2.1 | exact f3 | assumption | omega) ?_)
      refine hK _ _ ⟨_, _, Wk.keep [0, 1, 2, 3, 4, 5, 6, 13, 14, 15, 16, 17, 18] rfl, awl_live' [0, 3, 6, 7, 10, 11, 12] fun ρ hL => ?_⟩
      try simp only [go_sem, simprocAttr, h0, h3, h6, h7, h9, h10, h11, h12, Mem.marked, Stt.marked, Cor.markedQ, mrow_len, marks_len] at hL
      try clear h0 h3 h6 h7 h9 h10 h11 h12
      obtain ⟨h0, h3, h6, h7, h10, h11, h12⟩ := hL
      try simp only [go_sem, simprocAttr, Mem.marked, Stt.marked, Cor.markedQ, mrow_len, marks_len]
      clear hK K
      refine awl_seq ?_
      refine awl_seq ?_
      refine awl_regS _ rfl fun K hK => ?_
      try simp only [go_sem, simprocAttr, h0, h3, h6, h7, h10, h11, h12, Mem.marked, Stt.marked, Cor.markedQ, mrow_len, marks_len]
      repeat' (refine And.intro (by first | exact f1.1 | exact f2.1 | exact f3 | assumption | omega) ?_)
      refine awpS_live [0, 3, 6, 7, 10, 11, 72] fun ρ hL => ?_
      try simp only [go_sem, simprocAttr, h0, h3, h6, h7, h10, h11, h12, Mem.marked, Stt.marked, Cor.markedQ, mrow_len, marks_len] at hL
      try clear h0 h3 h6 h7 h10 h11 h12
      obtain ⟨h0, h3, h6, h7, h10, h11, h72⟩ := hL
      refine grp_orN (tc := 72) (tv := 76) (td := 77) (v := ?v2) 4 rfl [0, 3, 6, 7, 10, 11] h72 rfl (fun hb K1 hK1 => ?run) (fun hb => ?skip) (fun ρ hP hL => ?_)
      case skip =>
       exact awpS_skip (want := false) (b := _) (by rw [hb]; rfl) _ [] ρ h72 (fun _ _ => rfl) (by simp) rfl
      case run =>
       simp only [List.take_succ_cons, List.take_zero]
       rw [hb] at h72
       try simp only [go_sem, simprocAttr, h0, h3, h6, h7, h10, h11, h72, Mem.marked, Stt.marked, Cor.markedQ, mrow_len, marks_len]
       repeat' (refine And.intro (by first | exact f1.1 | exact f2.1 | exact f3 | assumption | omega) ?_)
       refine opS_call_ro rfl (sat_laws_eqCore (pull l c).1 (pull l c).1 f3) ?ha ?hv ?hh ?_
       case ha => simp only [go_sem, simprocAttr, h0, h3, h6, h7, h10, h11, h72, Mem.marked, Stt.marked, Cor.markedQ, mrow_len, marks_len]; first | done | rfl
       case hv => first | rfl | (simp only [go_sem]; done)
       case hh => first | rfl | (simp only [go_sem]; done)
       try simp only [go_sem, simprocAttr, h0, h3, h6, h7, h10, h11, h72, Mem.marked, Stt.marked, Cor.markedQ, mrow_len, marks_len]
       repeat' (refine And.intro (by first | exact f1.1 | exact f2.1 | exact f3 | assumption | omega) ?_)
       exact hK1 _ (by simp only [go_sem, simprocAttr, h0, h3, h6, h7, h10, h11, h72, Mem.marked, Stt.marked, Cor.markedQ, mrow_len, marks_len]) (by simp only [go_sem, simprocAttr, h0, h3, h6, h7, h10, h11, h72, Mem.marked, Stt.marked, Cor.markedQ, mrow_len, marks_len]; exact rfl) (by simp only [go_sem, simprocAttr, h0, h3, h6, h7, h10, h11, h72, Mem.marked, Stt.marked, Cor.markedQ, mrow_len, marks_len])
      simp only [List.drop_succ_cons, List.drop_zero]
      try simp only [go_sem, simprocAttr, h0, h3, h6, h7, h10, h11, h72, Mem.marked, Stt.marked, Cor.markedQ, mrow_len, marks_len] at hL
      try clear h0 h3 h6 h7 h10 h11 h72
      obtain ⟨h0, h3, h6, h7, h10, h11⟩ := hL
      have h77 := hP
      clear hP
      try simp only [go_sem, simprocAttr, h0, h3, h6, h7, h10, h11, h77, Mem.marked, Stt.marked, Cor.markedQ, mrow_len, marks_len]
      repeat' (refine And.intro (by first | exact f1.1 | exact f2.1 | exact f3 | assumption | omega) ?_)
      refine awpS_live [0, 3, 6, 7, 10, 11, 78] fun ρ hL => ?_
      try simp only [go_sem, simprocAttr, h0, h3, h6, h7, h10, h11, h77, Mem.marked, Stt.marked, Cor.markedQ, mrow_len, marks_len] at hL
      try clear h0 h3 h6 h7 h10 h11 h77
      obtain ⟨h0, h3, h6, h7, h10, h11, h78⟩ := hL
      refine grp_orN (tc := 78) (tv := 81) (td := 82) (v := ?v3) 3 rfl [0, 3, 6, 7, 10] h78 rfl (fun hb K1 hK1 => ?run) (fun hb => ?skip) (fun ρ hP hL => ?_)
      case skip =>
       exact awpS_skip (want := false) (b := _) (by rw [hb]; rfl) _ [] ρ h78 (fun _ _ => rfl) (by simp) rfl
      case run =>
       simp only [List.take_succ_cons, List.take_zero]
       rw [hb] at h78
       try simp only [go_sem, simprocAttr, h0, h3, h6, h7, h10, h11, h78, Mem.marked, Stt.marked, Cor.markedQ, mrow_len, marks_len]
       repeat' (refine And.intro (by first | exact f1.1 | exact f2.1 | exact f3 | assumption | omega) ?_)
       exact hK1 _ (by simp only [go_sem, simprocAttr, h0, h3, h6, h7, h10, h11, h78, Mem.marked, Stt.marked, Cor.markedQ, mrow_len, marks_len]) (by simp only [go_sem, simprocAttr, h0, h3, h6, h7, h10, h11, h78, Mem.marked, Stt.marked, Cor.markedQ, mrow_len, marks_len]; exact rfl) (by simp only [go_sem, simprocAttr, h0, h3, h6, h7, h10, h11, h78, Mem.marked, Stt.marked, Cor.markedQ, mrow_len, marks_len])
      simp only [List.drop_succ_cons, List.drop_zero]
      try simp only [go_sem, simprocAttr, h0, h3, h6, h7, h10, h11, h78, Mem.marked, Stt.marked, Cor.markedQ, mrow_len, marks_len] at hL
      try clear h0 h3 h6 h7 h10 h11 h78
      obtain ⟨h0, h3, h6, h7, h10⟩ := hL
      have h82 := hP
      clear hP
      try simp only [go_sem, simprocAttr, h0, h3, h6, h7, h10, h82, Mem.marked, Stt.marked, Cor.markedQ, mrow_len, marks_len]
      repeat' (refine And.intro (by first | exact f1.1 | exact f2.1 | exact f3 | assumption | omega) ?_)
      refine hK _ _ ⟨_, _, Wk.keep [0, 1, 2, 3, 4, 5, 6, 7, 8, 9, 10, 11, 12] rfl, awl_live' [0, 3, 6, 7, 10, 82] fun ρ hL => ?_⟩
      try simp only [go_sem, simprocAttr, h0, h3, h6, h7, h10, h82, Mem.marked, Stt.marked, Cor.markedQ, mrow_len, marks_len] at hL
      try clear h0 h3 h6 h7 h10 h82
      obtain ⟨h0, h3, h6, h7, h10, h82⟩ := hL
      try simp only [go_sem, simprocAttr, Mem.marked, Stt.marked, Cor.markedQ, mrow_len, marks_len]
      clear hK K
      refine awl_cond h82 (fun c6 => ?_) (fun c6 => ?_)
      ·
       try simp only [cnd] at c6
       first | done | (simp at c6; done) | (simp at c6; omega) | omega
      ·
       try simp only [cnd] at c6
       refine awl_skip ?_
       refine awl_seq ?_
       refine awl_regS _ rfl fun K hK => ?_
       try simp only [go_sem, simprocAttr, h0, h3, h6, h7, h10, h82, Mem.marked, Stt.marked, Cor.markedQ, mrow_len, marks_len]
       repeat' (refine And.intro (by first | exact f1.1 | exact f2.1 | exact f3 | assumption | omega) ?_)
       refine hK _ _ ⟨_, _, Wk.keep [0, 1, 2, 3, 4, 5, 6, 7, 8, 9, 10, 11, 12] rfl, awl_live' [0, 3, 6, 7, 10, 13] fun ρ hL => ?_⟩
       try simp only [go_sem, simprocAttr, h0, h3, h6, h7, h10, h82, Mem.marked, Stt.marked, Cor.markedQ, mrow_len, marks_len] at hL
       try clear h0 h3 h6 h7 h10 h82
       obtain ⟨h0, h3, h6, h7, h10, h13⟩ := hL
       try simp only [go_sem, simprocAttr, Mem.marked, Stt.marked, Cor.markedQ, mrow_len, marks_len]
       clear hK K
       refine awl_seq ?_
       refine awl_regS _ rfl fun K hK => ?_
       try simp only [go_sem, simprocAttr, h0, h3, h6, h7, h10, h13, Mem.marked, Stt.marked, Cor.markedQ, mrow_len, marks_len]
       repeat' (refine And.intro (by first | exact f1.1 | exact f2.1 | exact f3 | assumption | omega) ?_)
       refine opS_call_in [8, 9, 10, 11, 12] rfl (sat_laws_markCore (pull l c).1 1 f3 (by decide)) ?ha ?hb ?hv ?hh (by decide) rfl ?_
       case ha => simp only [go_sem, simprocAttr, h0, h3, h6, h7, h10, h13, Mem.marked, Stt.marked, Cor.markedQ, mrow_len, marks_len]; first | done | rfl
       case hb => simp only [go_sem, simprocAttr, h0, h3, h6, h7, h10, h13, Mem.marked, Stt.marked, Cor.markedQ, mrow_len, marks_len]; first | done | rfl
       case hv => first | rfl | (simp only [go_sem]; done)
       case hh => first | rfl | (simp only [go_sem]; done)
       try simp only [go_sem, simprocAttr, h0, h3, h6, h7, h10, h13, Mem.marked, Stt.marked, Cor.markedQ, mrow_len, marks_len]
       repeat' (refine And.intro (by first | exact f1.1 | exact f2.1 | exact f3 | assumption | omega) ?_)
       refine hK _ _ ⟨_, _, Wk.keep [0, 1, 2, 3, 4, 5, 6, 7, 8, 9, 10, 11, 12] rfl, awl_live' [0, 3, 6, 7, 10, 13] fun ρ hL => ?_⟩
       try simp only [go_sem, simprocAttr, h0, h3, h6, h7, h10, h13, Mem.marked, Stt.marked, Cor.markedQ, mrow_len, marks_len] at hL
       try clear h0 h3 h6 h7 h10 h13
       obtain ⟨h0, h3, h6, h7, h10, h13⟩ := hL
       try simp only [go_sem, simprocAttr, Mem.marked, Stt.marked, Cor.markedQ, mrow_len, marks_len]
       clear hK K
       refine awl_seq ?_
       refine awl_regS _ rfl fun K hK => ?_
       try simp only [go_sem, simprocAttr, h0, h3, h6, h7, h10, h13, Mem.marked, Stt.marked, Cor.markedQ, mrow_len, marks_len]
       repeat' (refine And.intro (by first | exact f1.1 | exact f2.1 | exact f3 | assumption | omega) ?_)
       refine hK _ _ ⟨_, _, Wk.keep [0, 1, 2, 3, 4, 5, 6, 7, 8, 9, 10, 11, 12] rfl, awl_live' [0, 3, 6, 7, 10, 13, 14] fun ρ hL => ?_⟩
       try simp only [go_sem, simprocAttr, h0, h3, h6, h7, h10, h13, Mem.marked, Stt.marked, Cor.markedQ, mrow_len, marks_len] at hL
       try clear h0 h3 h6 h7 h10 h13
       obtain ⟨h0, h3, h6, h7, h10, h13, h14⟩ := hL
       try simp only [go_sem, simprocAttr, Mem.marked, Stt.marked, Cor.markedQ, mrow_len, marks_len]
       clear hK K
       refine awl_seq ?_
       refine awl_regS _ rfl fun K hK => ?_
       try simp only [go_sem, simprocAttr, h0, h3, h6, h7, h10, h13, h14, Mem.marked, Stt.marked, Cor.markedQ, mrow_len, marks_len]
       repeat' (refine And.intro (by first | exact f1.1 | exact f2.1 | exact f3 | assumption | omega) ?_)
       refine opS_call_ro rfl (sat_laws_heldCore (pull l c).1 1 f3 (by decide)) ?ha ?hv ?hh ?_
       case ha => simp only [go_sem, simprocAttr, h0, h3, h6, h7, h10, h13, h14, Mem.marked, Stt.marked, Cor.markedQ, mrow_len, marks_len]; first | done | rfl
       case hv => first | rfl | (simp only [go_sem]; done)
       case hh => first | rfl | (simp only [go_sem]; done)
       try simp only [go_sem, simprocAttr, h0, h3, h6, h7, h10, h13, h14, Mem.marked, Stt.marked, Cor.markedQ, mrow_len, marks_len]
       repeat' (refine And.intro (by first | exact f1.1 | exact f2.1 | exact f3 | assumption | omega) ?_)
       refine hK _ _ ⟨_, _, Wk.keep [0, 1, 2, 3, 4, 5, 6, 7, 8, 9, 10, 11, 12] rfl, awl_live' [0, 3, 6, 7, 10, 13, 14] fun ρ hL => ?_⟩
       try simp only [go_sem, simprocAttr, h0, h3, h6, h7, h10, h13, h14, Mem.marked, Stt.marked, Cor.markedQ, mrow_len, marks_len] at hL
       try clear h0 h3 h6 h7 h10 h13 h14
       obtain ⟨h0, h3, h6, h7, h10, h13, h14⟩ := hL
       try simp only [go_sem, simprocAttr, Mem.marked, Stt.marked, Cor.markedQ, mrow_len, marks_len]
       clear hK K
       refine awl_seq ?_
       refine awl_seq ?_
       refine awl_regS _ rfl fun K hK => ?_
       try simp only [go_sem, simprocAttr, h0, h3, h6, h7, h10, h13, h14, Mem.marked, Stt.marked, Cor.markedQ, mrow_len, marks_len]
       repeat' (refine And.intro (by first | exact f1.1 | exact f2.1 | exact f3 | assumption | omega) ?_)
       refine hK _ _ ⟨_, _, Wk.keep [0, 1, 2, 3, 4, 5, 6, 7, 8, 9, 10, 11, 12] rfl, awl_live' [0, 3, 6, 7, 10, 13, 14, 90] fun ρ hL => ?_⟩
       try simp only [go_sem, simprocAttr, h0, h3, h6, h7, h10, h13, h14, Mem.marked, Stt.marked, Cor.markedQ, mrow_len, marks_len] at hL
       try clear h0 h3 h6 h7 h10 h13 h14
       obtain ⟨h0, h3, h6, h7, h10, h13, h14, h90⟩ := hL
       try simp only [go_sem, simprocAttr, Mem.marked, Stt.marked, Cor.markedQ, mrow_len, marks_len]
       clear hK K
       refine awl_cond h90 (fun c7 => ?_) (fun c7 => ?_)
       ·
        try simp only [cnd] at c7
        first | done | (simp at c7; done) | (simp at c7; omega) | omega
       ·
        try simp only [cnd] at c7
        refine awl_skip ?_
        refine awl_seq ?_
        refine awl_seq ?_
        refine awl_regS _ rfl fun K hK => ?_
        try simp only [go_sem, simprocAttr, h0, h3, h6, h7, h10, h13, h14, h90, Mem.marked, Stt.marked, Cor.markedQ, mrow_len, marks_len]
        repeat' (refine And.intro (by first | exact f1.1 | exact f2.1 | exact f3 | assumption | omega) ?_)
        refine hK _ _ ⟨_, _, Wk.keep [0, 1, 2, 3, 4, 5, 6, 7, 8, 9, 10, 11, 12] rfl, awl_live' [0, 3, 6, 7, 10, 13, 93] fun ρ hL => ?_⟩
        try simp only [go_sem, simprocAttr, h0, h3, h6, h7, h10, h13, h14, h90, Mem.marked, Stt.marked, Cor.markedQ, mrow_len, marks_len] at hL
        try clear h0 h3 h6 h7 h10 h13 h14 h90
        obtain ⟨h0, h3, h6, h7, h10, h13, h93⟩ := hL
        try simp only [go_sem, simprocAttr, Mem.marked, Stt.marked, Cor.markedQ, mrow_len, marks_len]
        clear hK K
        refine awl_cond h93 (fun c8 => ?_) (fun c8 => ?_)
        ·
         try simp only [cnd] at c8
         first | done | (simp at c8; done) | (simp at c8; omega) | omega
        ·
         try simp only [cnd] at c8
         refine awl_skip ?_
         refine awl_seq ?_
         refine awl_regD mixed _ rfl fun K hK => ?_
         try simp only [go_sem, simprocAttr, h0, h3, h6, h7, h10, h13, h93, Mem.marked, Stt.marked, Cor.markedQ, mrow_len, marks_len]
         repeat' (refine And.intro (by first | omega | (exact ⟨[0, 1, 0, 7, 15, 31, 63, 63, 0, 383, 1023], by kernel_rfl⟩) | kernel_rfl) ?_)
         refine dS_call_ro rfl (sat_laws_toInsS ?_ ?hp0) ?ha ?hv ?hh ?_
         case ha => simp only [go_sem, simprocAttr, h0, h3, h6, h7, h10, h13, h93, Mem.marked, Stt.marked, Cor.markedQ, mrow_len, marks_len]; first | done | rfl
         case hp0 => first | exact f1.1 | exact f2.1 | exact f3 | assumption | omega
         case hv => first | rfl | (simp only [go_sem]; done)
         case hh => first | rfl | (simp only [go_sem]; done)
         try simp only [go_sem, simprocAttr, h0, h3, h6, h7, h10, h13, h93, Mem.marked, Stt.marked, Cor.markedQ, mrow_len, marks_len]
         repeat' (refine And.intro (by first | omega | (exact ⟨[0, 1, 0, 7, 15, 31, 63, 63, 0, 383, 1023], by kernel_rfl⟩) | kernel_rfl) ?_)
         refine dS_call_ro rfl (sat_laws_toCore ?_ ?hp0) ?ha ?hv ?hh ?_
         case ha => simp only [go_sem, simprocAttr, h0, h3, h6, h7, h10, h13, h93, Mem.marked, Stt.marked, Cor.markedQ, mrow_len, marks_len]; first | done | rfl
         case hp0 => first | exact f1.1 | exact f2.1 | exact f3 | assumption | omega
         case hv => first | rfl | (simp only [go_sem]; done)
         case hh => first | rfl | (simp only [go_sem]; done)
         try simp only [go_sem, simprocAttr, h0, h3, h6, h7, h10, h13, h93, Mem.marked, Stt.marked, Cor.markedQ, mrow_len, marks_len]
         repeat' (refine And.intro (by first | omega | (exact ⟨[0, 1, 0, 7, 15, 31, 63, 63, 0, 383, 1023], by kernel_rfl⟩) | kernel_rfl) ?_)
         refine dS_call_ro rfl (sat_impl_Pull ?_ ?_ ?hp0 ?hp1) ?ha ?hv ?hh ?_
         case ha => simp only [go_sem, simprocAttr, h0, h3, h6, h7, h10, h13, h93, Mem.marked, Stt.marked, Cor.markedQ, mrow_len, marks_len]; first | done | rfl
         case hp0 => first | exact f1.1 | exact f2.1 | exact f3 | assumption | omega
         case hp1 => first | exact f1.1 | exact f2.1 | exact f3 | assumption | omega
         case hv => first | rfl | (simp only [go_sem]; done)
         case hh => first | rfl | (simp only [go_sem]; done)
         try simp only [go_sem, simprocAttr, h0, h3, h6, h7, h10, h13, h93, Mem.marked, Stt.marked, Cor.markedQ, mrow_len, marks_len]
         repeat' (refine And.intro (by first | omega | (exact ⟨[0, 1, 0, 7, 15, 31, 63, 63, 0, 383, 1023], by kernel_rfl⟩) | kernel_rfl) ?_)
         refine hK _ _ ⟨_, _, Wk.keep [1, 2, 3, 4, 5, 6, 7, 8, 9, 10, 11, 12, 24, 19, 20, 21, 22, 23] rfl, awl_live' [6, 7, 10, 13, 15, 16] fun ρ hL => ?_⟩
         try simp only [go_sem, simprocAttr, h0, h3, h6, h7, h10, h13, h93, Mem.marked, Stt.marked, Cor.markedQ, mrow_len, marks_len] at hL
         try clear h0 h3 h6 h7 h10 h13 h93
         obtain ⟨h6, h7, h10, h13, h15, h16⟩ := hL
         try simp only [go_sem, simprocAttr, Mem.marked, Stt.marked, Cor.markedQ, mrow_len, marks_len]
         clear hK K
         refine awl_seq ?_
         refine awl_seq ?_
         refine awl_regS _ rfl fun K hK => ?_
         try simp only [go_sem, simprocAttr, h6, h7, h10, h13, h15, h16, Mem.marked, Stt.marked, Cor.markedQ, mrow_len, marks_len]
         repeat' (refine And.intro (by first | exact f1.1 | exact f2.1 | exact f3 | assumption | omega) ?_)
         refine opS_call_ro rfl (sat_laws_eqCore (pull l c).1 (pull l c).1 f3) ?ha ?hv ?hh ?_
         case ha => simp only [go_sem, simprocAttr, h6, h7, h10, h13, h15, h16, Mem.marked, Stt.marked, Cor.markedQ, mrow_len, marks_len]; first | done | rfl
         case hv => first | rfl | (simp only [go_sem]; done)
         case hh => first | rfl | (simp only [go_sem]; done)
         try simp only [go_sem, simprocAttr, h6, h7, h10, h13, h15, h16, Mem.marked, Stt.marked, Cor.markedQ, mrow_len, marks_len]
         repeat' (refine And.intro (by first | exact f1.1 | exact f2.1 | exact f3 | assumption | omega) ?_)
         refine awpS_live [7, 10, 13, 16, 106] fun ρ hL => ?_
         try simp only [go_sem, simprocAttr, h6, h7, h10, h13, h15, h16, Mem.marked, Stt.marked, Cor.markedQ, mrow_len, marks_len] at hL
         try clear h6 h7 h10 h13 h15 h16
         obtain ⟨h7, h10, h13, h16, h106⟩ := hL
         refine grp_orN (tc := 106) (tv := 109) (td := 110) (v := ?v4) 3 rfl [10, 13] h106 rfl (fun hb K1 hK1 => ?run) (fun hb => ?skip) (fun ρ hP hL => ?_)
         case skip =>
          exact awpS_skip (want := false) (b := _) (by rw [hb]; rfl) _ [] ρ h106 (fun _ _ => rfl) (by simp) rfl
         case run =>
          simp only [List.take_succ_cons, List.take_zero]
          rw [hb] at h106
          try simp only [go_sem, simprocAttr, h7, h10, h13, h16, h106, Mem.marked, Stt.marked, Cor.markedQ, mrow_len, marks_len]
          repeat' (refine And.intro (by first | exact f1.1 | exact f2.1 | exact f3 | assumption | omega) ?_)
          exact hK1 _ (by simp only [go_sem, simprocAttr, h7, h10, h13, h16, h106, Mem.marked, Stt.marked, Cor.markedQ, mrow_len, marks_len]) (by simp only [go_sem, simprocAttr, h7, h10, h13, h16, h106, Mem.marked, Stt.marked, Cor.markedQ, mrow_len, marks_len]; exact rfl) (by simp only [go_sem, simprocAttr, h7, h10, h13, h16, h106, Mem.marked, Stt.marked, Cor.markedQ, mrow_len, marks_len])
         simp only [List.drop_succ_cons, List.drop_zero]
         try simp only [go_sem, simprocAttr, h7, h10, h13, h16, h106, Mem.marked, Stt.marked, Cor.markedQ, mrow_len, marks_len] at hL
         try clear h7 h10 h13 h16 h106
         obtain ⟨h10, h13⟩ := hL
         have h110 := hP
         clear hP
         try simp only [go_sem, simprocAttr, h10, h13, h110, Mem.marked, Stt.marked, Cor.markedQ, mrow_len, marks_len]
         repeat' (refine And.intro (by first | exact f1.1 | exact f2.1 | exact f3 | assumption | omega) ?_)
         refine hK _ _ ⟨_, _, Wk.keep [6, 7, 8, 9, 10, 11] rfl, awl_live' [10, 13, 110] fun ρ hL => ?_⟩
         try simp only [go_sem, simprocAttr, h10, h13, h110, Mem.marked, Stt.marked, Cor.markedQ, mrow_len, marks_len] at hL
         try clear h10 h13 h110
         obtain ⟨h10, h13, h110⟩ := hL
         try simp only [go_sem, simprocAttr, Mem.marked, Stt.marked, Cor.markedQ, mrow_len, marks_len]
         clear hK K
         refine awl_cond h110 (fun c9 => ?_) (fun c9 => ?_)
         ·
          try simp only [cnd] at c9
          first | done | (simp at c9; done) | (simp at c9; omega) | omega
         ·
          try simp only [cnd] at c9
          refine awl_skip ?_
          refine awl_seq ?_
          refine awl_regS _ rfl fun K hK => ?_
          try simp only [go_sem, simprocAttr, h10, h13, h110, Mem.marked, Stt.marked, Cor.markedQ, mrow_len, marks_len]
          repeat' (refine And.intro (by first | exact f1.1 | exact f2.1 | exact f3 | assumption | omega) ?_)
          refine hK _ _ ⟨_, _, Wk.keep [0, 1, 2, 3, 4, 5] rfl, awl_live' [10, 13, 14] fun ρ hL => ?_⟩
          try simp only [go_sem, simprocAttr, h10, h13, h110, Mem.marked, Stt.marked, Cor.markedQ, mrow_len, marks_len] at hL
          try clear h10 h13 h110
          obtain ⟨h10, h13, h14⟩ := hL
          try simp only [go_sem, simprocAttr, Mem.marked, Stt.marked, Cor.markedQ, mrow_len, marks_len]
          clear hK K
          refine awl_seq ?_
          refine awl_regS _ rfl fun K hK => ?_
          try simp only [go_sem, simprocAttr, h10, h13, h14, Mem.marked, Stt.marked, Cor.markedQ, mrow_len, marks_len]
          repeat' (refine And.intro (by first | exact f1.1 | exact f2.1 | exact f3 | assumption | omega) ?_)
          refine opS_call_ro rfl (sat_laws_heldCore (pull l c).1 1 f3 (by decide)) ?ha ?hv ?hh ?_
          case ha => simp only [go_sem, simprocAttr, h10, h13, h14, Mem.marked, Stt.marked, Cor.markedQ, mrow_len, marks_len]; first | done | rfl
          case hv => first | rfl | (simp only [go_sem]; done)
          case hh => first | rfl | (simp only [go_sem]; done)
          try simp only [go_sem, simprocAttr, h10, h13, h14, Mem.marked, Stt.marked, Cor.markedQ, mrow_len, marks_len]
          repeat' (refine And.intro (by first | exact f1.1 | exact f2.1 | exact f3 | assumption | omega) ?_)
          refine hK _ _ ⟨_, _, Wk.keep [] rfl, awl_live' [13, 14] fun ρ hL => ?_⟩
          try simp only [go_sem, simprocAttr, h10, h13, h14, Mem.marked, Stt.marked, Cor.markedQ, mrow_len, marks_len] at hL
          try clear h10 h13 h14
          obtain ⟨h13, h14⟩ := hL
          try simp only [go_sem, simprocAttr, Mem.marked, Stt.marked, Cor.markedQ, mrow_len, marks_len]
          clear hK K
          refine awl_seq ?_
          refine awl_seq ?_
          refine awl_regS _ rfl fun K hK => ?_
          try simp only [go_sem, simprocAttr, h13, h14, Mem.marked, Stt.marked, Cor.markedQ, mrow_len, marks_len]
          repeat' (refine And.intro (by first | exact f1.1 | exact f2.1 | exact f3 | assumption | omega) ?_)
          refine hK _ _ ⟨_, _, Wk.keep [] rfl, awl_live' [13, 14, 115] fun ρ hL => ?_⟩
          try simp only [go_sem, simprocAttr, h13, h14, Mem.marked, Stt.marked, Cor.markedQ, mrow_len, marks_len] at hL
          try clear h13 h14
          obtain ⟨h13, h14, h115⟩ := hL
          try simp only [go_sem, simprocAttr, Mem.marked, Stt.marked, Cor.markedQ, mrow_len, marks_len]
          clear hK K
          refine awl_cond h115 (fun c10 => ?_) (fun c10 => ?_)
          ·
           try simp only [cnd] at c10
           first | done | (simp at c10; done) | (simp at c10; omega) | omega
          ·
           try simp only [cnd] at c10
           refine awl_skip ?_
           refine awl_seq ?_
           refine awl_seq ?_
           refine awl_regS _ rfl fun K hK => ?_
           try simp only [go_sem, simprocAttr, h13, h14, h115, Mem.marked, Stt.marked, Cor.markedQ, mrow_len, marks_len]
           repeat' (refine And.intro (by first | exact f1.1 | exact f2.1 | exact f3 | assumption | omega) ?_)
           refine hK _ _ ⟨_, _, Wk.keep [] rfl, awl_live' [118] fun ρ hL => ?_⟩
           try simp only [go_sem, simprocAttr, h13, h14, h115, Mem.marked, Stt.marked, Cor.markedQ, mrow_len, marks_len] at hL
           try clear h13 h14 h115
           have h118 := hL
           clear hL
           try simp only [go_sem, simprocAttr, Mem.marked, Stt.marked, Cor.markedQ, mrow_len, marks_len]
           clear hK K
           refine awl_cond h118 (fun c11 => ?_) (fun c11 => ?_)
           ·
            try simp only [cnd] at c11
            first | done | (simp at c11; done) | (simp at c11; omega) | omega
           ·
            try simp only [cnd] at c11
            refine awl_skip ?_
            refine awl_seq ?_
            refine awl_regS _ rfl fun K hK => ?_
            try simp only [go_sem, simprocAttr, h118, Mem.marked, Stt.marked, Cor.markedQ, mrow_len, marks_len]
            repeat' (refine And.intro (by first | exact f1.1 | exact f2.1 | exact f3 | assumption | omega) ?_)
            refine hK _ _ ⟨_, _, Wk.keep [] rfl, awl_live' [4] fun ρ hL => ?_⟩
            try simp only [go_sem, simprocAttr, h118, Mem.marked, Stt.marked, Cor.markedQ, mrow_len, marks_len] at hL
            try clear h118
            have h4 := hL
            clear hL
            try simp only [go_sem, simprocAttr, Mem.marked, Stt.marked, Cor.markedQ, mrow_len, marks_len]
            clear hK K
            refine awl_ret ?_
            refine ret0 (by simp only [go_sem, simprocAttr, h4, Mem.marked, Stt.marked, Cor.markedQ, mrow_len, marks_len]; exact rfl) ?_
            try simp only [go_sem, simprocAttr]
            all_goals (rfl)
end Go.Proofs.YtopjagninmjkbaaGreat.AM
