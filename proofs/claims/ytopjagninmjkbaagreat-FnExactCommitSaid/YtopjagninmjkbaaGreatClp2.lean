/- The law Commit. No conditions but those each theorem bears. -/
import Derived.Test.YtopjagninmjkbaaGreatFa
import Derived.Test.YtopjagninmjkbaaGreatCa13
import Derived.Test.YtopjagninmjkbaaGreatCa23
import Derived.Test.YtopjagninmjkbaaGreatCa36
set_option linter.unusedSimpArgs false
set_option linter.unusedVariables false
namespace Go.Proofs.YtopjagninmjkbaaGreat.AM
open Go

set_option maxHeartbeats 8000000 in
set_option maxRecDepth 100000 in
theorem sat_laws_FnExactCommit (c : Cor) (hs : c.sm) : Sat Tryz.prog 4 [.agg c.cells] [] (.bool true) [] := by
 refine sat_mk [.tmp 2] 0 96 Tryz.call4 Tryz.func4 Tryz.ntmps4 rfl rfl rfl rfl rfl ?_
 refine awl_live' [0] fun ρ hL => ?_
 try simp only [go_sem, simprocAttr, Mem.marked, Stt.marked, Cor.markedQ, mrow_len, marks_len] at hL
 have h0 := hL
 clear hL
 refine awl_seq ?_
 refine awl_regS _ rfl fun K hK => ?_
 try simp only [go_sem, simprocAttr, h0, Mem.marked, Stt.marked, Cor.markedQ, mrow_len, marks_len]
 repeat' (refine And.intro (by first | exact f1.1 | exact f3 | assumption | omega) ?_)
 refine hK _ _ ⟨_, _, Wk.keep [0] rfl, awl_live' [1] fun ρ hL => ?_⟩
 try simp only [go_sem, simprocAttr, h0, Mem.marked, Stt.marked, Cor.markedQ, mrow_len, marks_len] at hL
 try clear h0
 have h1 := hL
 clear hL
 try simp only [go_sem, simprocAttr, Mem.marked, Stt.marked, Cor.markedQ, mrow_len, marks_len]
 clear hK K
 refine awl_seq ?_
 refine awl_regS _ rfl fun K hK => ?_
 try simp only [go_sem, simprocAttr, h1, Mem.marked, Stt.marked, Cor.markedQ, mrow_len, marks_len]
 repeat' (refine And.intro (by first | exact f1.1 | exact f3 | assumption | omega) ?_)
 refine hK _ _ ⟨_, _, Wk.keep [0] rfl, awl_live' [1, 3] fun ρ hL => ?_⟩
 try simp only [go_sem, simprocAttr, h1, Mem.marked, Stt.marked, Cor.markedQ, mrow_len, marks_len] at hL
 try clear h1
 obtain ⟨h1, h3⟩ := hL
 try simp only [go_sem, simprocAttr, Mem.marked, Stt.marked, Cor.markedQ, mrow_len, marks_len]
 clear hK K
 refine awl_seq ?_
 refine awl_regS _ rfl fun K hK => ?_
 try simp only [go_sem, simprocAttr, h1, h3, Mem.marked, Stt.marked, Cor.markedQ, mrow_len, marks_len]
 repeat' (refine And.intro (by first | exact f1.1 | exact f3 | assumption | omega) ?_)
 refine opS_call_ro rfl (sat_laws_szCore c 1048576 hs ⟨by decide, by decide⟩) ?ha ?hv ?hh ?_
 case ha => simp only [go_sem, simprocAttr, h1, h3, Mem.marked, Stt.marked, Cor.markedQ, mrow_len, marks_len]; first | done | rfl
 case hv => first | rfl | (simp only [go_sem]; done)
 case hh => first | rfl | (simp only [go_sem]; done)
 try simp only [go_sem, simprocAttr, h1, h3, Mem.marked, Stt.marked, Cor.markedQ, mrow_len, marks_len]
 repeat' (refine And.intro (by first | exact f1.1 | exact f3 | assumption | omega) ?_)
 refine hK _ _ ⟨_, _, Wk.keep [0] rfl, awl_live' [1, 3] fun ρ hL => ?_⟩
 try simp only [go_sem, simprocAttr, h1, h3, Mem.marked, Stt.marked, Cor.markedQ, mrow_len, marks_len] at hL
 try clear h1 h3
 obtain ⟨h1, h3⟩ := hL
 try simp only [go_sem, simprocAttr, Mem.marked, Stt.marked, Cor.markedQ, mrow_len, marks_len]
 clear hK K
 refine awl_seq ?_
 refine awl_seq ?_
 refine awl_regS _ rfl fun K hK => ?_
 try simp only [go_sem, simprocAttr, h1, h3, Mem.marked, Stt.marked, Cor.markedQ, mrow_len, marks_len]
 repeat' (refine And.intro (by first | exact f1.1 | exact f3 | assumption | omega) ?_)
 refine hK _ _ ⟨_, _, Wk.keep [0] rfl, awl_live' [1, 18] fun ρ hL => ?_⟩
 try simp only [go_sem, simprocAttr, h1, h3, Mem.marked, Stt.marked, Cor.markedQ, mrow_len, marks_len] at hL
 try clear h1 h3
 obtain ⟨h1, h18⟩ := hL
 try simp only [go_sem, simprocAttr, Mem.marked, Stt.marked, Cor.markedQ, mrow_len, marks_len]
 clear hK K
 refine awl_cond h18 (fun c1 => ?_) (fun c1 => ?_)
 ·
  try simp only [cnd] at c1
  refine awl_seq ?_
  refine awl_regS _ rfl fun K hK => ?_
  try simp only [go_sem, simprocAttr, h1, h18, Mem.marked, Stt.marked, Cor.markedQ, mrow_len, marks_len]
  repeat' (refine And.intro (by first | exact f1.1 | exact f3 | assumption | omega) ?_)
  refine hK _ _ ⟨_, _, Wk.keep [] rfl, awl_live' [2] fun ρ hL => ?_⟩
  try simp only [go_sem, simprocAttr, h1, h18, Mem.marked, Stt.marked, Cor.markedQ, mrow_len, marks_len] at hL
  try clear h1 h18
  have h2 := hL
  clear hL
  try simp only [go_sem, simprocAttr, Mem.marked, Stt.marked, Cor.markedQ, mrow_len, marks_len]
  clear hK K
  refine awl_ret ?_
  refine ret0 (by simp only [go_sem, simprocAttr, h2, Mem.marked, Stt.marked, Cor.markedQ, mrow_len, marks_len]; exact rfl) ?_
  try simp only [go_sem, simprocAttr]
  all_goals (rfl)
 ·
  try simp only [cnd] at c1
  have f1 := szC_ok (l := 1048576) ⟨by decide, by decide⟩ c1
  have f3 := commit_fit f1.1
  refine awl_skip ?_
  refine awl_seq ?_
  refine awl_regS _ rfl fun K hK => ?_
  try simp only [go_sem, simprocAttr, h1, h18, Mem.marked, Stt.marked, Cor.markedQ, mrow_len, marks_len]
  repeat' (refine And.intro (by first | exact f1.1 | exact f3 | assumption | omega) ?_)
  refine opS_call_ro rfl (sat_laws_toCore ?_ ?hp0) ?ha ?hv ?hh ?_
  case ha => simp only [go_sem, simprocAttr, h1, h18, Mem.marked, Stt.marked, Cor.markedQ, mrow_len, marks_len]; first | done | rfl
  case hp0 => first | exact f1.1 | exact f3 | assumption | omega
  case hv => first | rfl | (simp only [go_sem]; done)
  case hh => first | rfl | (simp only [go_sem]; done)
  try simp only [go_sem, simprocAttr, h1, h18, Mem.marked, Stt.marked, Cor.markedQ, mrow_len, marks_len]
  repeat' (refine And.intro (by first | exact f1.1 | exact f3 | assumption | omega) ?_)
  refine opS_call_ro rfl (sat_spec_Commit ?_ ?hp0) ?ha ?hv ?hh ?_
  case ha => simp only [go_sem, simprocAttr, h1, h18, Mem.marked, Stt.marked, Cor.markedQ, mrow_len, marks_len]; first | done | rfl
  case hp0 => first | exact f1.1 | exact f3 | assumption | omega
  case hv => first | rfl | (simp only [go_sem]; done)
  case hh => first | rfl | (simp only [go_sem]; done)
  try simp only [go_sem, simprocAttr, h1, h18, Mem.marked, Stt.marked, Cor.markedQ, mrow_len, marks_len]
  repeat' (refine And.intro (by first | exact f1.1 | exact f3 | assumption | omega) ?_)
  refine hK _ _ ⟨_, _, Wk.keep [0, 11, 6, 7, 8, 9, 10] rfl, awl_live' [1, 4, 5] fun ρ hL => ?_⟩
  try simp only [go_sem, simprocAttr, h1, h18, Mem.marked, Stt.marked, Cor.markedQ, mrow_len, marks_len] at hL
  try clear h1 h18
  obtain ⟨h1, h4, h5⟩ := hL
  try simp only [go_sem, simprocAttr, Mem.marked, Stt.marked, Cor.markedQ, mrow_len, marks_len]
  clear hK K
  refine awl_seq ?_
  refine awl_regS _ rfl fun K hK => ?_
  try simp only [go_sem, simprocAttr, h1, h4, h5, Mem.marked, Stt.marked, Cor.markedQ, mrow_len, marks_len]
  repeat' (refine And.intro (by first | exact f1.1 | exact f3 | assumption | omega) ?_)
  refine opS_call_ro rfl (sat_laws_toCore ?_ ?hp0) ?ha ?hv ?hh ?_
  case ha => simp only [go_sem, simprocAttr, h1, h4, h5, Mem.marked, Stt.marked, Cor.markedQ, mrow_len, marks_len]; first | done | rfl
  case hp0 => first | exact f1.1 | exact f3 | assumption | omega
  case hv => first | rfl | (simp only [go_sem]; done)
  case hh => first | rfl | (simp only [go_sem]; done)
  try simp only [go_sem, simprocAttr, h1, h4, h5, Mem.marked, Stt.marked, Cor.markedQ, mrow_len, marks_len]
  repeat' (refine And.intro (by first | exact f1.1 | exact f3 | assumption | omega) ?_)
  refine hK _ _ ⟨_, _, Wk.keep [0, 1, 2, 3, 4, 5, 6, 12, 7, 8, 9, 10, 11] rfl, awl_live' [1, 4, 5, 6] fun ρ hL => ?_⟩
  try simp only [go_sem, simprocAttr, h1, h4, h5, Mem.marked, Stt.marked, Cor.markedQ, mrow_len, marks_len] at hL
  try clear h1 h4 h5
  obtain ⟨h1, h4, h5, h6⟩ := hL
  try simp only [go_sem, simprocAttr, Mem.marked, Stt.marked, Cor.markedQ, mrow_len, marks_len]
  clear hK K
  refine awl_seq ?_
  refine awl_regS _ rfl fun K hK => ?_
  try simp only [go_sem, simprocAttr, h1, h4, h5, h6, Mem.marked, Stt.marked, Cor.markedQ, mrow_len, marks_len]
  repeat' (refine And.intro (by first | exact f1.1 | exact f3 | assumption | omega) ?_)
  refine opS_call_ro rfl (sat_impl_Commit ?_ ?hp0) ?ha ?hv ?hh ?_
  case ha => simp only [go_sem, simprocAttr, h1, h4, h5, h6, Mem.marked, Stt.marked, Cor.markedQ, mrow_len, marks_len]; first | done | rfl
  case hp0 => first | exact f1.1 | exact f3 | assumption | omega
  case hv => first | rfl | (simp only [go_sem]; done)
  case hh => first | rfl | (simp only [go_sem]; done)
  try simp only [go_sem, simprocAttr, h1, h4, h5, h6, Mem.marked, Stt.marked, Cor.markedQ, mrow_len, marks_len]
  repeat' (refine And.intro (by first | exact f1.1 | exact f3 | assumption | omega) ?_)
  refine hK _ _ ⟨_, _, Wk.keep [0, 1, 2, 3, 4, 5, 6, 7, 8, 9, 10, 11, 12, 18, 13, 14, 15, 16, 17] rfl, awl_live' [1, 4, 5, 6, 7, 8] fun ρ hL => ?_⟩
  try simp only [go_sem, simprocAttr, h1, h4, h5, h6, Mem.marked, Stt.marked, Cor.markedQ, mrow_len, marks_len] at hL
  try clear h1 h4 h5 h6
  obtain ⟨h1, h4, h5, h6, h7, h8⟩ := hL
  try simp only [go_sem, simprocAttr, Mem.marked, Stt.marked, Cor.markedQ, mrow_len, marks_len]
  clear hK K
  refine awl_seq ?_
  refine awl_seq ?_
  refine awl_regS _ rfl fun K hK => ?_
  try simp only [go_sem, simprocAttr, h1, h4, h5, h6, h7, h8, Mem.marked, Stt.marked, Cor.markedQ, mrow_len, marks_len]
  repeat' (refine And.intro (by first | exact f1.1 | exact f3 | assumption | omega) ?_)
  refine opS_call_ro rfl (sat_laws_eqCore (commit c).1 (commit c).1 f3) ?ha ?hv ?hh ?_
  case ha => simp only [go_sem, simprocAttr, h1, h4, h5, h6, h7, h8, Mem.marked, Stt.marked, Cor.markedQ, mrow_len, marks_len]; first | done | rfl
  case hv => first | rfl | (simp only [go_sem]; done)
  case hh => first | rfl | (simp only [go_sem]; done)
  try simp only [go_sem, simprocAttr, h1, h4, h5, h6, h7, h8, Mem.marked, Stt.marked, Cor.markedQ, mrow_len, marks_len]
  repeat' (refine And.intro (by first | exact f1.1 | exact f3 | assumption | omega) ?_)
  refine awpS_live [1, 4, 5, 6, 7, 8, 36] fun ρ hL => ?_
  try simp only [go_sem, simprocAttr, h1, h4, h5, h6, h7, h8, Mem.marked, Stt.marked, Cor.markedQ, mrow_len, marks_len] at hL
  try clear h1 h4 h5 h6 h7 h8
  obtain ⟨h1, h4, h5, h6, h7, h8, h36⟩ := hL
  refine grp_orN (tc := 36) (tv := 39) (td := 40) (v := ?v1) 3 rfl [1, 4, 5, 6, 7, 8] h36 rfl (fun hb K1 hK1 => ?run) (fun hb => ?skip) (fun ρ hP hL => ?_)
  case skip =>
   exact awpS_skip (want := false) (b := _) (by rw [hb]; rfl) _ [] ρ h36 (fun _ _ => rfl) (by simp) rfl
  case run =>
   simp only [List.take_succ_cons, List.take_zero]
   rw [hb] at h36
   try simp only [go_sem, simprocAttr, h1, h4, h5, h6, h7, h8, h36, Mem.marked, Stt.marked, Cor.markedQ, mrow_len, marks_len]
   repeat' (refine And.intro (by first | exact f1.1 | exact f3 | assumption | omega) ?_)
   exact hK1 _ (by simp only [go_sem, simprocAttr, h1, h4, h5, h6, h7, h8, h36, Mem.marked, Stt.marked, Cor.markedQ, mrow_len, marks_len]) (by simp only [go_sem, simprocAttr, h1, h4, h5, h6, h7, h8, h36, Mem.marked, Stt.marked, Cor.markedQ, mrow_len, marks_len]; exact rfl) (by simp only [go_sem, simprocAttr, h1, h4, h5, h6, h7, h8, h36, Mem.marked, Stt.marked, Cor.markedQ, mrow_len, marks_len])
  simp only [List.drop_succ_cons, List.drop_zero]
  try simp only [go_sem, simprocAttr, h1, h4, h5, h6, h7, h8, h36, Mem.marked, Stt.marked, Cor.markedQ, mrow_len, marks_len] at hL
  try clear h1 h4 h5 h6 h7 h8 h36
  obtain ⟨h1, h4, h5, h6, h7, h8⟩ := hL
  have h40 := hP
  clear hP
  try simp only [go_sem, simprocAttr, h1, h4, h5, h6, h7, h8, h40, Mem.marked, Stt.marked, Cor.markedQ, mrow_len, marks_len]
  repeat' (refine And.intro (by first | exact f1.1 | exact f3 | assumption | omega) ?_)
  refine hK _ _ ⟨_, _, Wk.keep [0, 1, 2, 3, 4, 5, 6, 7, 8, 9, 10, 11, 12, 13, 14, 15, 16, 17, 18] rfl, awl_live' [1, 4, 5, 6, 7, 8, 40] fun ρ hL => ?_⟩
  try simp only [go_sem, simprocAttr, h1, h4, h5, h6, h7, h8, h40, Mem.marked, Stt.marked, Cor.markedQ, mrow_len, marks_len] at hL
  try clear h1 h4 h5 h6 h7 h8 h40
  obtain ⟨h1, h4, h5, h6, h7, h8, h40⟩ := hL
  try simp only [go_sem, simprocAttr, Mem.marked, Stt.marked, Cor.markedQ, mrow_len, marks_len]
  clear hK K
  refine awl_cond h40 (fun c2 => ?_) (fun c2 => ?_)
  ·
   try simp only [cnd] at c2
   first | done | (simp at c2; done) | (simp at c2; omega) | omega
  ·
   try simp only [cnd] at c2
   refine awl_skip ?_
   refine awl_seq ?_
   refine awl_seq ?_
   refine awl_regD mixed _ rfl fun K hK => ?_
   try simp only [go_sem, simprocAttr, h1, h4, h5, h6, h7, h8, h40, Mem.marked, Stt.marked, Cor.markedQ, mrow_len, marks_len]
   repeat' (refine And.intro (by first | omega | (exact ⟨[0, 0, 2, 7, 15], by kernel_rfl⟩) | kernel_rfl) ?_)
   refine dS_call_ro rfl (sat_laws_toCore ?_ ?hp0) ?ha ?hv ?hh ?_
   case ha => simp only [go_sem, simprocAttr, h1, h4, h5, h6, h7, h8, h40, Mem.marked, Stt.marked, Cor.markedQ, mrow_len, marks_len]; first | done | rfl
   case hp0 => first | exact f1.1 | exact f3 | assumption | omega
   case hv => first | rfl | (simp only [go_sem]; done)
   case hh => first | rfl | (simp only [go_sem]; done)
   try simp only [go_sem, simprocAttr, h1, h4, h5, h6, h7, h8, h40, Mem.marked, Stt.marked, Cor.markedQ, mrow_len, marks_len]
   repeat' (refine And.intro (by first | omega | (exact ⟨[0, 0, 2, 7, 15], by kernel_rfl⟩) | kernel_rfl) ?_)
   refine dS_call_ro rfl (sat_laws_eqCore c c f1.1) ?ha ?hv ?hh ?_
   case ha => simp only [go_sem, simprocAttr, h1, h4, h5, h6, h7, h8, h40, Mem.marked, Stt.marked, Cor.markedQ, mrow_len, marks_len]; first | done | rfl
   case hv => first | rfl | (simp only [go_sem]; done)
   case hh => first | rfl | (simp only [go_sem]; done)
   try simp only [go_sem, simprocAttr, h1, h4, h5, h6, h7, h8, h40, Mem.marked, Stt.marked, Cor.markedQ, mrow_len, marks_len]
   repeat' (refine And.intro (by first | omega | (exact ⟨[0, 0, 2, 7, 15], by kernel_rfl⟩) | kernel_rfl) ?_)
   refine hK _ _ ⟨_, _, Wk.keep [0, 1, 2, 3, 4, 5, 6, 7, 8, 9, 10, 11, 12, 13, 14, 15, 16, 17, 18] rfl, awl_live' [1, 4, 5, 6, 7, 8, 45] fun ρ hL => ?_⟩
   try simp only [go_sem, simprocAttr, h1, h4, h5, h6, h7, h8, h40, Mem.marked, Stt.marked, Cor.markedQ, mrow_len, marks_len] at hL
   try clear h1 h4 h5 h6 h7 h8 h40
   obtain ⟨h1, h4, h5, h6, h7, h8, h45⟩ := hL
   try simp only [go_sem, simprocAttr, Mem.marked, Stt.marked, Cor.markedQ, mrow_len, marks_len]
   clear hK K
   refine awl_cond h45 (fun c3 => ?_) (fun c3 => ?_)
   ·
    try simp only [cnd] at c3
    first | done | (simp at c3; done) | (simp at c3; omega) | omega
   ·
    try simp only [cnd] at c3
    refine awl_skip ?_
    refine awl_seq ?_
    refine awl_regS _ rfl fun K hK => ?_
    try simp only [go_sem, simprocAttr, h1, h4, h5, h6, h7, h8, h45, Mem.marked, Stt.marked, Cor.markedQ, mrow_len, marks_len]
    repeat' (refine And.intro (by first | exact f1.1 | exact f3 | assumption | omega) ?_)
    refine hK _ _ ⟨_, _, Wk.keep [0, 1, 2, 3, 4, 5, 6, 7, 8, 9, 10, 11, 12, 13, 14, 15, 16, 17, 18] rfl, awl_live' [1, 4, 5, 6, 7, 8, 9] fun ρ hL => ?_⟩
    try simp only [go_sem, simprocAttr, h1, h4, h5, h6, h7, h8, h45, Mem.marked, Stt.marked, Cor.markedQ, mrow_len, marks_len] at hL
    try clear h1 h4 h5 h6 h7 h8 h45
    obtain ⟨h1, h4, h5, h6, h7, h8, h9⟩ := hL
    try simp only [go_sem, simprocAttr, Mem.marked, Stt.marked, Cor.markedQ, mrow_len, marks_len]
    clear hK K
    refine awl_seq ?_
    refine awl_regS _ rfl fun K hK => ?_
    try simp only [go_sem, simprocAttr, h1, h4, h5, h6, h7, h8, h9, Mem.marked, Stt.marked, Cor.markedQ, mrow_len, marks_len]
    repeat' (refine And.intro (by first | exact f1.1 | exact f3 | assumption | omega) ?_)
    refine opS_call_in [8, 9, 10, 11, 12] rfl (sat_laws_markCore c 1 f1.1 (by decide)) ?ha ?hb ?hv ?hh (by decide) rfl ?_
    case ha => simp only [go_sem, simprocAttr, h1, h4, h5, h6, h7, h8, h9, Mem.marked, Stt.marked, Cor.markedQ, mrow_len, marks_len]; first | done | rfl
    case hb => simp only [go_sem, simprocAttr, h1, h4, h5, h6, h7, h8, h9, Mem.marked, Stt.marked, Cor.markedQ, mrow_len, marks_len]; first | done | rfl
    case hv => first | rfl | (simp only [go_sem]; done)
    case hh => first | rfl | (simp only [go_sem]; done)
    try simp only [go_sem, simprocAttr, h1, h4, h5, h6, h7, h8, h9, Mem.marked, Stt.marked, Cor.markedQ, mrow_len, marks_len]
    repeat' (refine And.intro (by first | exact f1.1 | exact f3 | assumption | omega) ?_)
    refine hK _ _ ⟨_, _, Wk.keep [0, 1, 2, 3, 4, 5, 6, 13, 14, 15, 16, 17, 18] rfl, awl_live' [1, 4, 5, 7, 8, 9] fun ρ hL => ?_⟩
    try simp only [go_sem, simprocAttr, h1, h4, h5, h6, h7, h8, h9, Mem.marked, Stt.marked, Cor.markedQ, mrow_len, marks_len] at hL
    try clear h1 h4 h5 h6 h7 h8 h9
    obtain ⟨h1, h4, h5, h7, h8, h9⟩ := hL
    try simp only [go_sem, simprocAttr, Mem.marked, Stt.marked, Cor.markedQ, mrow_len, marks_len]
    clear hK K
    refine awl_seq ?_
    refine awl_seq ?_
    refine awl_regS _ rfl fun K hK => ?_
    try simp only [go_sem, simprocAttr, h1, h4, h5, h7, h8, h9, Mem.marked, Stt.marked, Cor.markedQ, mrow_len, marks_len]
    repeat' (refine And.intro (by first | exact f1.1 | exact f3 | assumption | omega) ?_)
    refine awpS_live [1, 4, 5, 7, 8, 51] fun ρ hL => ?_
    try simp only [go_sem, simprocAttr, h1, h4, h5, h7, h8, h9, Mem.marked, Stt.marked, Cor.markedQ, mrow_len, marks_len] at hL
    try clear h1 h4 h5 h7 h8 h9
    obtain ⟨h1, h4, h5, h7, h8, h51⟩ := hL
    refine grp_orN (tc := 51) (tv := 55) (td := 56) (v := ?v2) 4 rfl [1, 4, 5, 7, 8] h51 rfl (fun hb K1 hK1 => ?run) (fun hb => ?skip) (fun ρ hP hL => ?_)
    case skip =>
     exact awpS_skip (want := false) (b := _) (by rw [hb]; rfl) _ [] ρ h51 (fun _ _ => rfl) (by simp) rfl
    case run =>
     simp only [List.take_succ_cons, List.take_zero]
     rw [hb] at h51
     try simp only [go_sem, simprocAttr, h1, h4, h5, h7, h8, h51, Mem.marked, Stt.marked, Cor.markedQ, mrow_len, marks_len]
     repeat' (refine And.intro (by first | exact f1.1 | exact f3 | assumption | omega) ?_)
     refine opS_call_ro rfl (sat_laws_eqCore (commit c).1 (commit c).1 f3) ?ha ?hv ?hh ?_
     case ha => simp only [go_sem, simprocAttr, h1, h4, h5, h7, h8, h51, Mem.marked, Stt.marked, Cor.markedQ, mrow_len, marks_len]; first | done | rfl
     case hv => first | rfl | (simp only [go_sem]; done)
     case hh => first | rfl | (simp only [go_sem]; done)
     try simp only [go_sem, simprocAttr, h1, h4, h5, h7, h8, h51, Mem.marked, Stt.marked, Cor.markedQ, mrow_len, marks_len]
     repeat' (refine And.intro (by first | exact f1.1 | exact f3 | assumption | omega) ?_)
     exact hK1 _ (by simp only [go_sem, simprocAttr, h1, h4, h5, h7, h8, h51, Mem.marked, Stt.marked, Cor.markedQ, mrow_len, marks_len]) (by simp only [go_sem, simprocAttr, h1, h4, h5, h7, h8, h51, Mem.marked, Stt.marked, Cor.markedQ, mrow_len, marks_len]; exact rfl) (by simp only [go_sem, simprocAttr, h1, h4, h5, h7, h8, h51, Mem.marked, Stt.marked, Cor.markedQ, mrow_len, marks_len])
    simp only [List.drop_succ_cons, List.drop_zero]
    try simp only [go_sem, simprocAttr, h1, h4, h5, h7, h8, h51, Mem.marked, Stt.marked, Cor.markedQ, mrow_len, marks_len] at hL
    try clear h1 h4 h5 h7 h8 h51
    obtain ⟨h1, h4, h5, h7, h8⟩ := hL
    have h56 := hP
    clear hP
    try simp only [go_sem, simprocAttr, h1, h4, h5, h7, h8, h56, Mem.marked, Stt.marked, Cor.markedQ, mrow_len, marks_len]
    repeat' (refine And.intro (by first | exact f1.1 | exact f3 | assumption | omega) ?_)
    refine awpS_live [1, 4, 5, 7, 8, 57] fun ρ hL => ?_
    try simp only [go_sem, simprocAttr, h1, h4, h5, h7, h8, h56, Mem.marked, Stt.marked, Cor.markedQ, mrow_len, marks_len] at hL
    try clear h1 h4 h5 h7 h8 h56
    obtain ⟨h1, h4, h5, h7, h8, h57⟩ := hL
    refine grp_orN (tc := 57) (tv := 60) (td := 61) (v := ?v3) 3 rfl [1, 4, 5, 7] h57 rfl (fun hb K1 hK1 => ?run) (fun hb => ?skip) (fun ρ hP hL => ?_)
    case skip =>
     exact awpS_skip (want := false) (b := _) (by rw [hb]; rfl) _ [] ρ h57 (fun _ _ => rfl) (by simp) rfl
    case run =>
     simp only [List.take_succ_cons, List.take_zero]
     rw [hb] at h57
     try simp only [go_sem, simprocAttr, h1, h4, h5, h7, h8, h57, Mem.marked, Stt.marked, Cor.markedQ, mrow_len, marks_len]
     repeat' (refine And.intro (by first | exact f1.1 | exact f3 | assumption | omega) ?_)
     exact hK1 _ (by simp only [go_sem, simprocAttr, h1, h4, h5, h7, h8, h57, Mem.marked, Stt.marked, Cor.markedQ, mrow_len, marks_len]) (by simp only [go_sem, simprocAttr, h1, h4, h5, h7, h8, h57, Mem.marked, Stt.marked, Cor.markedQ, mrow_len, marks_len]; exact rfl) (by simp only [go_sem, simprocAttr, h1, h4, h5, h7, h8, h57, Mem.marked, Stt.marked, Cor.markedQ, mrow_len, marks_len])
    simp only [List.drop_succ_cons, List.drop_zero]
    try simp only [go_sem, simprocAttr, h1, h4, h5, h7, h8, h57, Mem.marked, Stt.marked, Cor.markedQ, mrow_len, marks_len] at hL
    try clear h1 h4 h5 h7 h8 h57
    obtain ⟨h1, h4, h5, h7⟩ := hL
    have h61 := hP
    clear hP
    try simp only [go_sem, simprocAttr, h1, h4, h5, h7, h61, Mem.marked, Stt.marked, Cor.markedQ, mrow_len, marks_len]
    repeat' (refine And.intro (by first | exact f1.1 | exact f3 | assumption | omega) ?_)
    refine hK _ _ ⟨_, _, Wk.keep [0, 1, 2, 3, 4, 5, 6, 7, 8, 9, 10, 11, 12] rfl, awl_live' [1, 4, 5, 7, 61] fun ρ hL => ?_⟩
    try simp only [go_sem, simprocAttr, h1, h4, h5, h7, h61, Mem.marked, Stt.marked, Cor.markedQ, mrow_len, marks_len] at hL
    try clear h1 h4 h5 h7 h61
    obtain ⟨h1, h4, h5, h7, h61⟩ := hL
    try simp only [go_sem, simprocAttr, Mem.marked, Stt.marked, Cor.markedQ, mrow_len, marks_len]
    clear hK K
    refine awl_cond h61 (fun c4 => ?_) (fun c4 => ?_)
    ·
     try simp only [cnd] at c4
     first | done | (simp at c4; done) | (simp at c4; omega) | omega
    ·
     try simp only [cnd] at c4
     refine awl_skip ?_
     refine awl_seq ?_
     refine awl_regS _ rfl fun K hK => ?_
     try simp only [go_sem, simprocAttr, h1, h4, h5, h7, h61, Mem.marked, Stt.marked, Cor.markedQ, mrow_len, marks_len]
     repeat' (refine And.intro (by first | exact f1.1 | exact f3 | assumption | omega) ?_)
     refine hK _ _ ⟨_, _, Wk.keep [0, 1, 2, 3, 4, 5, 6, 7, 8, 9, 10, 11, 12] rfl, awl_live' [1, 4, 5, 7, 10] fun ρ hL => ?_⟩
     try simp only [go_sem, simprocAttr, h1, h4, h5, h7, h61, Mem.marked, Stt.marked, Cor.markedQ, mrow_len, marks_len] at hL
     try clear h1 h4 h5 h7 h61
     obtain ⟨h1, h4, h5, h7, h10⟩ := hL
     try simp only [go_sem, simprocAttr, Mem.marked, Stt.marked, Cor.markedQ, mrow_len, marks_len]
     clear hK K
     refine awl_seq ?_
     refine awl_regS _ rfl fun K hK => ?_
     try simp only [go_sem, simprocAttr, h1, h4, h5, h7, h10, Mem.marked, Stt.marked, Cor.markedQ, mrow_len, marks_len]
     repeat' (refine And.intro (by first | exact f1.1 | exact f3 | assumption | omega) ?_)
     refine opS_call_in [8, 9, 10, 11, 12] rfl (sat_laws_markCore (commit c).1 1 f3 (by decide)) ?ha ?hb ?hv ?hh (by decide) rfl ?_
     case ha => simp only [go_sem, simprocAttr, h1, h4, h5, h7, h10, Mem.marked, Stt.marked, Cor.markedQ, mrow_len, marks_len]; first | done | rfl
     case hb => simp only [go_sem, simprocAttr, h1, h4, h5, h7, h10, Mem.marked, Stt.marked, Cor.markedQ, mrow_len, marks_len]; first | done | rfl
     case hv => first | rfl | (simp only [go_sem]; done)
     case hh => first | rfl | (simp only [go_sem]; done)
     try simp only [go_sem, simprocAttr, h1, h4, h5, h7, h10, Mem.marked, Stt.marked, Cor.markedQ, mrow_len, marks_len]
     repeat' (refine And.intro (by first | exact f1.1 | exact f3 | assumption | omega) ?_)
     refine hK _ _ ⟨_, _, Wk.keep [0, 1, 2, 3, 4, 5, 6, 7, 8, 9, 10, 11, 12] rfl, awl_live' [1, 4, 5, 7, 10] fun ρ hL => ?_⟩
     try simp only [go_sem, simprocAttr, h1, h4, h5, h7, h10, Mem.marked, Stt.marked, Cor.markedQ, mrow_len, marks_len] at hL
     try clear h1 h4 h5 h7 h10
     obtain ⟨h1, h4, h5, h7, h10⟩ := hL
     try simp only [go_sem, simprocAttr, Mem.marked, Stt.marked, Cor.markedQ, mrow_len, marks_len]
     clear hK K
     refine awl_seq ?_
     refine awl_regS _ rfl fun K hK => ?_
     try simp only [go_sem, simprocAttr, h1, h4, h5, h7, h10, Mem.marked, Stt.marked, Cor.markedQ, mrow_len, marks_len]
     repeat' (refine And.intro (by first | exact f1.1 | exact f3 | assumption | omega) ?_)
     refine hK _ _ ⟨_, _, Wk.keep [0, 1, 2, 3, 4, 5, 6, 7, 8, 9, 10, 11, 12] rfl, awl_live' [1, 4, 5, 7, 10, 11] fun ρ hL => ?_⟩
     try simp only [go_sem, simprocAttr, h1, h4, h5, h7, h10, Mem.marked, Stt.marked, Cor.markedQ, mrow_len, marks_len] at hL
     try clear h1 h4 h5 h7 h10
     obtain ⟨h1, h4, h5, h7, h10, h11⟩ := hL
     try simp only [go_sem, simprocAttr, Mem.marked, Stt.marked, Cor.markedQ, mrow_len, marks_len]
     clear hK K
     refine awl_seq ?_
     refine awl_regS _ rfl fun K hK => ?_
     try simp only [go_sem, simprocAttr, h1, h4, h5, h7, h10, h11, Mem.marked, Stt.marked, Cor.markedQ, mrow_len, marks_len]
     repeat' (refine And.intro (by first | exact f1.1 | exact f3 | assumption | omega) ?_)
     refine opS_call_ro rfl (sat_laws_heldCore (commit c).1 1 f3 (by decide)) ?ha ?hv ?hh ?_
     case ha => simp only [go_sem, simprocAttr, h1, h4, h5, h7, h10, h11, Mem.marked, Stt.marked, Cor.markedQ, mrow_len, marks_len]; first | done | rfl
     case hv => first | rfl | (simp only [go_sem]; done)
     case hh => first | rfl | (simp only [go_sem]; done)
     try simp only [go_sem, simprocAttr, h1, h4, h5, h7, h10, h11, Mem.marked, Stt.marked, Cor.markedQ, mrow_len, marks_len]
     repeat' (refine And.intro (by first | exact f1.1 | exact f3 | assumption | omega) ?_)
     refine hK _ _ ⟨_, _, Wk.keep [0, 1, 2, 3, 4, 5, 6, 7, 8, 9, 10, 11, 12] rfl, awl_live' [1, 4, 5, 7, 10, 11] fun ρ hL => ?_⟩
     try simp only [go_sem, simprocAttr, h1, h4, h5, h7, h10, h11, Mem.marked, Stt.marked, Cor.markedQ, mrow_len, marks_len] at hL
     try clear h1 h4 h5 h7 h10 h11
     obtain ⟨h1, h4, h5, h7, h10, h11⟩ := hL
     try simp only [go_sem, simprocAttr, Mem.marked, Stt.marked, Cor.markedQ, mrow_len, marks_len]
     clear hK K
     refine awl_seq ?_
     refine awl_seq ?_
     refine awl_regS _ rfl fun K hK => ?_
     try simp only [go_sem, simprocAttr, h1, h4, h5, h7, h10, h11, Mem.marked, Stt.marked, Cor.markedQ, mrow_len, marks_len]
     repeat' (refine And.intro (by first | exact f1.1 | exact f3 | assumption | omega) ?_)
     refine hK _ _ ⟨_, _, Wk.keep [0, 1, 2, 3, 4, 5, 6, 7, 8, 9, 10, 11, 12] rfl, awl_live' [1, 4, 5, 7, 10, 11, 69] fun ρ hL => ?_⟩
     try simp only [go_sem, simprocAttr, h1, h4, h5, h7, h10, h11, Mem.marked, Stt.marked, Cor.markedQ, mrow_len, marks_len] at hL
     try clear h1 h4 h5 h7 h10 h11
     obtain ⟨h1, h4, h5, h7, h10, h11, h69⟩ := hL
     try simp only [go_sem, simprocAttr, Mem.marked, Stt.marked, Cor.markedQ, mrow_len, marks_len]
     clear hK K
     refine awl_cond h69 (fun c5 => ?_) (fun c5 => ?_)
     ·
      try simp only [cnd] at c5
      first | done | (simp at c5; done) | (simp at c5; omega) | omega
     ·
      try simp only [cnd] at c5
      refine awl_skip ?_
      refine awl_seq ?_
      refine awl_seq ?_
      refine awl_regS _ rfl fun K hK => ?_
      try simp only [go_sem, simprocAttr, h1, h4, h5, h7, h10, h11, h69, Mem.marked, Stt.marked, Cor.markedQ, mrow_len, marks_len]
      repeat' (refine And.intro (by first | exact f1.1 | exact f3 | assumption | omega) ?_)
      refine hK _ _ ⟨_, _, Wk.keep [0, 1, 2, 3, 4, 5, 6, 7, 8, 9, 10, 11, 12] rfl, awl_live' [1, 4, 5, 7, 10, 72] fun ρ hL => ?_⟩
      try simp only [go_sem, simprocAttr, h1, h4, h5, h7, h10, h11, h69, Mem.marked, Stt.marked, Cor.markedQ, mrow_len, marks_len] at hL
      try clear h1 h4 h5 h7 h10 h11 h69
      obtain ⟨h1, h4, h5, h7, h10, h72⟩ := hL
      try simp only [go_sem, simprocAttr, Mem.marked, Stt.marked, Cor.markedQ, mrow_len, marks_len]
      clear hK K
      refine awl_cond h72 (fun c6 => ?_) (fun c6 => ?_)
      ·
       try simp only [cnd] at c6
       first | done | (simp at c6; done) | (simp at c6; omega) | omega
      ·
       try simp only [cnd] at c6
       refine awl_skip ?_
       refine awl_seq ?_
       refine awl_regS _ rfl fun K hK => ?_
       try simp only [go_sem, simprocAttr, h1, h4, h5, h7, h10, h72, Mem.marked, Stt.marked, Cor.markedQ, mrow_len, marks_len]
       repeat' (refine And.intro (by first | exact f1.1 | exact f3 | assumption | omega) ?_)
       refine opS_call_ro rfl (sat_laws_toCore ?_ ?hp0) ?ha ?hv ?hh ?_
       case ha => simp only [go_sem, simprocAttr, h1, h4, h5, h7, h10, h72, Mem.marked, Stt.marked, Cor.markedQ, mrow_len, marks_len]; first | done | rfl
       case hp0 => first | exact f1.1 | exact f3 | assumption | omega
       case hv => first | rfl | (simp only [go_sem]; done)
       case hh => first | rfl | (simp only [go_sem]; done)
       try simp only [go_sem, simprocAttr, h1, h4, h5, h7, h10, h72, Mem.marked, Stt.marked, Cor.markedQ, mrow_len, marks_len]
       repeat' (refine And.intro (by first | exact f1.1 | exact f3 | assumption | omega) ?_)
       refine opS_call_ro rfl (sat_impl_Commit ?_ ?hp0) ?ha ?hv ?hh ?_
       case ha => simp only [go_sem, simprocAttr, h1, h4, h5, h7, h10, h72, Mem.marked, Stt.marked, Cor.markedQ, mrow_len, marks_len]; first | done | rfl
       case hp0 => first | exact f1.1 | exact f3 | assumption | omega
       case hv => first | rfl | (simp only [go_sem]; done)
       case hh => first | rfl | (simp only [go_sem]; done)
       try simp only [go_sem, simprocAttr, h1, h4, h5, h7, h10, h72, Mem.marked, Stt.marked, Cor.markedQ, mrow_len, marks_len]
       repeat' (refine And.intro (by first | exact f1.1 | exact f3 | assumption | omega) ?_)
       refine hK _ _ ⟨_, _, Wk.keep [1, 2, 3, 4, 5, 6, 7, 8, 9, 10, 11, 12, 23, 18, 19, 20, 21, 22] rfl, awl_live' [4, 5, 7, 10, 12, 13] fun ρ hL => ?_⟩
       try simp only [go_sem, simprocAttr, h1, h4, h5, h7, h10, h72, Mem.marked, Stt.marked, Cor.markedQ, mrow_len, marks_len] at hL
       try clear h1 h4 h5 h7 h10 h72
       obtain ⟨h4, h5, h7, h10, h12, h13⟩ := hL
       try simp only [go_sem, simprocAttr, Mem.marked, Stt.marked, Cor.markedQ, mrow_len, marks_len]
       clear hK K
       refine awl_seq ?_
       refine awl_seq ?_
       refine awl_regS _ rfl fun K hK => ?_
       try simp only [go_sem, simprocAttr, h4, h5, h7, h10, h12, h13, Mem.marked, Stt.marked, Cor.markedQ, mrow_len, marks_len]
       repeat' (refine And.intro (by first | exact f1.1 | exact f3 | assumption | omega) ?_)
       refine opS_call_ro rfl (sat_laws_eqCore (commit c).1 (commit c).1 f3) ?ha ?hv ?hh ?_
       case ha => simp only [go_sem, simprocAttr, h4, h5, h7, h10, h12, h13, Mem.marked, Stt.marked, Cor.markedQ, mrow_len, marks_len]; first | done | rfl
       case hv => first | rfl | (simp only [go_sem]; done)
       case hh => first | rfl | (simp only [go_sem]; done)
       try simp only [go_sem, simprocAttr, h4, h5, h7, h10, h12, h13, Mem.marked, Stt.marked, Cor.markedQ, mrow_len, marks_len]
       repeat' (refine And.intro (by first | exact f1.1 | exact f3 | assumption | omega) ?_)
       refine awpS_live [5, 7, 10, 13, 83] fun ρ hL => ?_
       try simp only [go_sem, simprocAttr, h4, h5, h7, h10, h12, h13, Mem.marked, Stt.marked, Cor.markedQ, mrow_len, marks_len] at hL
       try clear h4 h5 h7 h10 h12 h13
       obtain ⟨h5, h7, h10, h13, h83⟩ := hL
       refine grp_orN (tc := 83) (tv := 86) (td := 87) (v := ?v4) 3 rfl [7, 10] h83 rfl (fun hb K1 hK1 => ?run) (fun hb => ?skip) (fun ρ hP hL => ?_)
       case skip =>
        exact awpS_skip (want := false) (b := _) (by rw [hb]; rfl) _ [] ρ h83 (fun _ _ => rfl) (by simp) rfl
       case run =>
        simp only [List.take_succ_cons, List.take_zero]
        rw [hb] at h83
        try simp only [go_sem, simprocAttr, h5, h7, h10, h13, h83, Mem.marked, Stt.marked, Cor.markedQ, mrow_len, marks_len]
        repeat' (refine And.intro (by first | exact f1.1 | exact f3 | assumption | omega) ?_)
        exact hK1 _ (by simp only [go_sem, simprocAttr, h5, h7, h10, h13, h83, Mem.marked, Stt.marked, Cor.markedQ, mrow_len, marks_len]) (by simp only [go_sem, simprocAttr, h5, h7, h10, h13, h83, Mem.marked, Stt.marked, Cor.markedQ, mrow_len, marks_len]; exact rfl) (by simp only [go_sem, simprocAttr, h5, h7, h10, h13, h83, Mem.marked, Stt.marked, Cor.markedQ, mrow_len, marks_len])
       simp only [List.drop_succ_cons, List.drop_zero]
       try simp only [go_sem, simprocAttr, h5, h7, h10, h13, h83, Mem.marked, Stt.marked, Cor.markedQ, mrow_len, marks_len] at hL
       try clear h5 h7 h10 h13 h83
       obtain ⟨h7, h10⟩ := hL
       have h87 := hP
       clear hP
       try simp only [go_sem, simprocAttr, h7, h10, h87, Mem.marked, Stt.marked, Cor.markedQ, mrow_len, marks_len]
       repeat' (refine And.intro (by first | exact f1.1 | exact f3 | assumption | omega) ?_)
       refine hK _ _ ⟨_, _, Wk.keep [6, 7, 8, 9, 10, 11] rfl, awl_live' [7, 10, 87] fun ρ hL => ?_⟩
       try simp only [go_sem, simprocAttr, h7, h10, h87, Mem.marked, Stt.marked, Cor.markedQ, mrow_len, marks_len] at hL
       try clear h7 h10 h87
       obtain ⟨h7, h10, h87⟩ := hL
       try simp only [go_sem, simprocAttr, Mem.marked, Stt.marked, Cor.markedQ, mrow_len, marks_len]
       clear hK K
       refine awl_cond h87 (fun c7 => ?_) (fun c7 => ?_)
       ·
        try simp only [cnd] at c7
        first | done | (simp at c7; done) | (simp at c7; omega) | omega
       ·
        try simp only [cnd] at c7
        refine awl_skip ?_
        refine awl_seq ?_
        refine awl_regS _ rfl fun K hK => ?_
        try simp only [go_sem, simprocAttr, h7, h10, h87, Mem.marked, Stt.marked, Cor.markedQ, mrow_len, marks_len]
        repeat' (refine And.intro (by first | exact f1.1 | exact f3 | assumption | omega) ?_)
        refine hK _ _ ⟨_, _, Wk.keep [0, 1, 2, 3, 4, 5] rfl, awl_live' [7, 10, 11] fun ρ hL => ?_⟩
        try simp only [go_sem, simprocAttr, h7, h10, h87, Mem.marked, Stt.marked, Cor.markedQ, mrow_len, marks_len] at hL
        try clear h7 h10 h87
        obtain ⟨h7, h10, h11⟩ := hL
        try simp only [go_sem, simprocAttr, Mem.marked, Stt.marked, Cor.markedQ, mrow_len, marks_len]
        clear hK K
        refine awl_seq ?_
        refine awl_regS _ rfl fun K hK => ?_
        try simp only [go_sem, simprocAttr, h7, h10, h11, Mem.marked, Stt.marked, Cor.markedQ, mrow_len, marks_len]
        repeat' (refine And.intro (by first | exact f1.1 | exact f3 | assumption | omega) ?_)
        refine opS_call_ro rfl (sat_laws_heldCore (commit c).1 1 f3 (by decide)) ?ha ?hv ?hh ?_
        case ha => simp only [go_sem, simprocAttr, h7, h10, h11, Mem.marked, Stt.marked, Cor.markedQ, mrow_len, marks_len]; first | done | rfl
        case hv => first | rfl | (simp only [go_sem]; done)
        case hh => first | rfl | (simp only [go_sem]; done)
        try simp only [go_sem, simprocAttr, h7, h10, h11, Mem.marked, Stt.marked, Cor.markedQ, mrow_len, marks_len]
        repeat' (refine And.intro (by first | exact f1.1 | exact f3 | assumption | omega) ?_)
        refine hK _ _ ⟨_, _, Wk.keep [] rfl, awl_live' [10, 11] fun ρ hL => ?_⟩
        try simp only [go_sem, simprocAttr, h7, h10, h11, Mem.marked, Stt.marked, Cor.markedQ, mrow_len, marks_len] at hL
        try clear h7 h10 h11
        obtain ⟨h10, h11⟩ := hL
        try simp only [go_sem, simprocAttr, Mem.marked, Stt.marked, Cor.markedQ, mrow_len, marks_len]
        clear hK K
        refine awl_seq ?_
        refine awl_seq ?_
        refine awl_regS _ rfl fun K hK => ?_
        try simp only [go_sem, simprocAttr, h10, h11, Mem.marked, Stt.marked, Cor.markedQ, mrow_len, marks_len]
        repeat' (refine And.intro (by first | exact f1.1 | exact f3 | assumption | omega) ?_)
        refine hK _ _ ⟨_, _, Wk.keep [] rfl, awl_live' [10, 11, 92] fun ρ hL => ?_⟩
        try simp only [go_sem, simprocAttr, h10, h11, Mem.marked, Stt.marked, Cor.markedQ, mrow_len, marks_len] at hL
        try clear h10 h11
        obtain ⟨h10, h11, h92⟩ := hL
        try simp only [go_sem, simprocAttr, Mem.marked, Stt.marked, Cor.markedQ, mrow_len, marks_len]
        clear hK K
        refine awl_cond h92 (fun c8 => ?_) (fun c8 => ?_)
        ·
         try simp only [cnd] at c8
         first | done | (simp at c8; done) | (simp at c8; omega) | omega
        ·
         try simp only [cnd] at c8
         refine awl_skip ?_
         refine awl_seq ?_
         refine awl_seq ?_
         refine awl_regS _ rfl fun K hK => ?_
         try simp only [go_sem, simprocAttr, h10, h11, h92, Mem.marked, Stt.marked, Cor.markedQ, mrow_len, marks_len]
         repeat' (refine And.intro (by first | exact f1.1 | exact f3 | assumption | omega) ?_)
         refine hK _ _ ⟨_, _, Wk.keep [] rfl, awl_live' [95] fun ρ hL => ?_⟩
         try simp only [go_sem, simprocAttr, h10, h11, h92, Mem.marked, Stt.marked, Cor.markedQ, mrow_len, marks_len] at hL
         try clear h10 h11 h92
         have h95 := hL
         clear hL
         try simp only [go_sem, simprocAttr, Mem.marked, Stt.marked, Cor.markedQ, mrow_len, marks_len]
         clear hK K
         refine awl_cond h95 (fun c9 => ?_) (fun c9 => ?_)
         ·
          try simp only [cnd] at c9
          first | done | (simp at c9; done) | (simp at c9; omega) | omega
         ·
          try simp only [cnd] at c9
          refine awl_skip ?_
          refine awl_seq ?_
          refine awl_regS _ rfl fun K hK => ?_
          try simp only [go_sem, simprocAttr, h95, Mem.marked, Stt.marked, Cor.markedQ, mrow_len, marks_len]
          repeat' (refine And.intro (by first | exact f1.1 | exact f3 | assumption | omega) ?_)
          refine hK _ _ ⟨_, _, Wk.keep [] rfl, awl_live' [2] fun ρ hL => ?_⟩
          try simp only [go_sem, simprocAttr, h95, Mem.marked, Stt.marked, Cor.markedQ, mrow_len, marks_len] at hL
          try clear h95
          have h2 := hL
          clear hL
          try simp only [go_sem, simprocAttr, Mem.marked, Stt.marked, Cor.markedQ, mrow_len, marks_len]
          clear hK K
          refine awl_ret ?_
          refine ret0 (by simp only [go_sem, simprocAttr, h2, Mem.marked, Stt.marked, Cor.markedQ, mrow_len, marks_len]; exact rfl) ?_
          try simp only [go_sem, simprocAttr]
          all_goals (rfl)
end Go.Proofs.YtopjagninmjkbaaGreat.AM
