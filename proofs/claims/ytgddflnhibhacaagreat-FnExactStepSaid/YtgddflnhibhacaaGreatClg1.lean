/- The law Step. No conditions but those each theorem bears. -/
import Derived.Test.YtgddflnhibhacaaGreatFa
import Derived.Test.YtgddflnhibhacaaGreatSp13
import Derived.Test.YtgddflnhibhacaaGreatCa31
import Derived.Test.YtgddflnhibhacaaGreatCa30
set_option linter.unusedSimpArgs false
set_option linter.unusedVariables false
namespace Go.Proofs.YtgddflnhibhacaaGreat.AM
open Go

set_option maxHeartbeats 8000000 in
set_option maxRecDepth 100000 in
theorem sat_laws_FnExactStep (l : List Ins) (s : Stt) (hl : l.length ≤ 9223372036854775807) (hs : s.sm) : Sat Tryz.prog 3 [.sl l.length l.length (rows l), .agg s.cells] [] (.bool true) [] := by
 refine sat_mk [.tmp 4] 0 92 Tryz.call3 Tryz.func3 Tryz.ntmps3 rfl rfl rfl rfl rfl ?_
 refine awl_live' [0, 1] fun ρ hL => ?_
 try simp only [go_sem, simprocAttr, Mem.marked, Stt.marked, mrow_len] at hL
 obtain ⟨h0, h1⟩ := hL
 refine awl_seq ?_
 refine awl_regS _ rfl fun K hK => ?_
 try simp only [go_sem, simprocAttr, h0, h1, Mem.marked, Stt.marked, mrow_len]
 repeat' (refine And.intro (by first | exact f1.1 | exact f2.1 | exact f3 | assumption | omega) ?_)
 refine hK _ _ ⟨_, _, Wk.keep [0] rfl, awl_live' [0, 3] fun ρ hL => ?_⟩
 try simp only [go_sem, simprocAttr, h0, h1, Mem.marked, Stt.marked, mrow_len] at hL
 try clear h0 h1
 obtain ⟨h0, h3⟩ := hL
 try simp only [go_sem, simprocAttr, Mem.marked, Stt.marked, mrow_len]
 clear hK K
 refine awl_seq ?_
 refine awl_regS _ rfl fun K hK => ?_
 try simp only [go_sem, simprocAttr, h0, h3, Mem.marked, Stt.marked, mrow_len]
 repeat' (refine And.intro (by first | exact f1.1 | exact f2.1 | exact f3 | assumption | omega) ?_)
 refine hK _ _ ⟨_, _, Wk.keep [0] rfl, awl_live' [0, 3, 5] fun ρ hL => ?_⟩
 try simp only [go_sem, simprocAttr, h0, h3, Mem.marked, Stt.marked, mrow_len] at hL
 try clear h0 h3
 obtain ⟨h0, h3, h5⟩ := hL
 try simp only [go_sem, simprocAttr, Mem.marked, Stt.marked, mrow_len]
 clear hK K
 refine awl_seq ?_
 refine awl_regS _ rfl fun K hK => ?_
 try simp only [go_sem, simprocAttr, h0, h3, h5, Mem.marked, Stt.marked, mrow_len]
 repeat' (refine And.intro (by first | exact f1.1 | exact f2.1 | exact f3 | assumption | omega) ?_)
 refine opS_call_ro rfl (sat_laws_szInsS l 1048576 hl ⟨by decide, by decide⟩) ?ha ?hv ?hh ?_
 case ha => simp only [go_sem, simprocAttr, h0, h3, h5, Mem.marked, Stt.marked, mrow_len]; first | done | rfl
 case hv => first | rfl | (simp only [go_sem]; done)
 case hh => first | rfl | (simp only [go_sem]; done)
 try simp only [go_sem, simprocAttr, h0, h3, h5, Mem.marked, Stt.marked, mrow_len]
 repeat' (refine And.intro (by first | exact f1.1 | exact f2.1 | exact f3 | assumption | omega) ?_)
 refine hK _ _ ⟨_, _, Wk.keep [0] rfl, awl_live' [0, 3, 5] fun ρ hL => ?_⟩
 try simp only [go_sem, simprocAttr, h0, h3, h5, Mem.marked, Stt.marked, mrow_len] at hL
 try clear h0 h3 h5
 obtain ⟨h0, h3, h5⟩ := hL
 try simp only [go_sem, simprocAttr, Mem.marked, Stt.marked, mrow_len]
 clear hK K
 refine awl_seq ?_
 refine awl_seq ?_
 refine awl_regS _ rfl fun K hK => ?_
 try simp only [go_sem, simprocAttr, h0, h3, h5, Mem.marked, Stt.marked, mrow_len]
 repeat' (refine And.intro (by first | exact f1.1 | exact f2.1 | exact f3 | assumption | omega) ?_)
 refine hK _ _ ⟨_, _, Wk.keep [0] rfl, awl_live' [0, 3, 5, 18] fun ρ hL => ?_⟩
 try simp only [go_sem, simprocAttr, h0, h3, h5, Mem.marked, Stt.marked, mrow_len] at hL
 try clear h0 h3 h5
 obtain ⟨h0, h3, h5, h18⟩ := hL
 try simp only [go_sem, simprocAttr, Mem.marked, Stt.marked, mrow_len]
 clear hK K
 refine awl_cond h18 (fun c1 => ?_) (fun c1 => ?_)
 ·
  try simp only [cnd] at c1
  refine awl_seq ?_
  refine awl_regS _ rfl fun K hK => ?_
  try simp only [go_sem, simprocAttr, h0, h3, h5, h18, Mem.marked, Stt.marked, mrow_len]
  repeat' (refine And.intro (by first | exact f1.1 | exact f2.1 | exact f3 | assumption | omega) ?_)
  refine hK _ _ ⟨_, _, Wk.keep [] rfl, awl_live' [4] fun ρ hL => ?_⟩
  try simp only [go_sem, simprocAttr, h0, h3, h5, h18, Mem.marked, Stt.marked, mrow_len] at hL
  try clear h0 h3 h5 h18
  have h4 := hL
  clear hL
  try simp only [go_sem, simprocAttr, Mem.marked, Stt.marked, mrow_len]
  clear hK K
  refine awl_ret ?_
  refine ret0 (by simp only [go_sem, simprocAttr, h4, Mem.marked, Stt.marked, mrow_len]; exact rfl) ?_
  try simp only [go_sem, simprocAttr]
  all_goals (rfl)
 ·
  try simp only [cnd] at c1
  have f1 := szL_ok (l := 1048576) ⟨by decide, by decide⟩ c1
  have f1a := f1.1
  refine awl_skip ?_
  refine awl_seq ?_
  refine awl_regS _ rfl fun K hK => ?_
  try simp only [go_sem, simprocAttr, h0, h3, h5, h18, Mem.marked, Stt.marked, mrow_len]
  repeat' (refine And.intro (by first | exact f1.1 | exact f2.1 | exact f3 | assumption | omega) ?_)
  refine opS_call_ro rfl (sat_laws_szState s (szL 1048576 l.length) hs f1.2) ?ha ?hv ?hh ?_
  case ha => simp only [go_sem, simprocAttr, h0, h3, h5, h18, Mem.marked, Stt.marked, mrow_len]; first | done | rfl
  case hv => first | rfl | (simp only [go_sem]; done)
  case hh => first | rfl | (simp only [go_sem]; done)
  try simp only [go_sem, simprocAttr, h0, h3, h5, h18, Mem.marked, Stt.marked, mrow_len]
  repeat' (refine And.intro (by first | exact f1.1 | exact f2.1 | exact f3 | assumption | omega) ?_)
  refine hK _ _ ⟨_, _, Wk.keep [0] rfl, awl_live' [0, 3, 5] fun ρ hL => ?_⟩
  try simp only [go_sem, simprocAttr, h0, h3, h5, h18, Mem.marked, Stt.marked, mrow_len] at hL
  try clear h0 h3 h5 h18
  obtain ⟨h0, h3, h5⟩ := hL
  try simp only [go_sem, simprocAttr, Mem.marked, Stt.marked, mrow_len]
  clear hK K
  refine awl_seq ?_
  refine awl_seq ?_
  refine awl_regS _ rfl fun K hK => ?_
  try simp only [go_sem, simprocAttr, h0, h3, h5, Mem.marked, Stt.marked, mrow_len]
  repeat' (refine And.intro (by first | exact f1.1 | exact f2.1 | exact f3 | assumption | omega) ?_)
  refine hK _ _ ⟨_, _, Wk.keep [0] rfl, awl_live' [0, 3, 23] fun ρ hL => ?_⟩
  try simp only [go_sem, simprocAttr, h0, h3, h5, Mem.marked, Stt.marked, mrow_len] at hL
  try clear h0 h3 h5
  obtain ⟨h0, h3, h23⟩ := hL
  try simp only [go_sem, simprocAttr, Mem.marked, Stt.marked, mrow_len]
  clear hK K
  refine awl_cond h23 (fun c2 => ?_) (fun c2 => ?_)
  ·
   try simp only [cnd] at c2
   refine awl_seq ?_
   refine awl_regS _ rfl fun K hK => ?_
   try simp only [go_sem, simprocAttr, h0, h3, h23, Mem.marked, Stt.marked, mrow_len]
   repeat' (refine And.intro (by first | exact f1.1 | exact f2.1 | exact f3 | assumption | omega) ?_)
   refine hK _ _ ⟨_, _, Wk.keep [] rfl, awl_live' [4] fun ρ hL => ?_⟩
   try simp only [go_sem, simprocAttr, h0, h3, h23, Mem.marked, Stt.marked, mrow_len] at hL
   try clear h0 h3 h23
   have h4 := hL
   clear hL
   try simp only [go_sem, simprocAttr, Mem.marked, Stt.marked, mrow_len]
   clear hK K
   refine awl_ret ?_
   refine ret0 (by simp only [go_sem, simprocAttr, h4, Mem.marked, Stt.marked, mrow_len]; exact rfl) ?_
   try simp only [go_sem, simprocAttr]
   all_goals (rfl)
  ·
   try simp only [cnd] at c2
   have f2 := szS_ok f1.2 c2
   have f3 := step_fit (l := l) f2.1
   refine awl_skip ?_
   refine awl_seq ?_
   refine awl_regD mixed _ rfl fun K hK => ?_
   try simp only [go_sem, simprocAttr, h0, h3, h23, Mem.marked, Stt.marked, mrow_len]
   repeat' (refine And.intro (by first | omega | (exact ⟨[0, 1, 0, 7, 15, 0, 63], by kernel_rfl⟩) | kernel_rfl) ?_)
   refine dS_call_ro rfl (sat_laws_toInsS ?_ ?hp0) ?ha ?hv ?hh ?_
   case ha => simp only [go_sem, simprocAttr, h0, h3, h23, Mem.marked, Stt.marked, mrow_len]; first | done | rfl
   case hp0 => first | exact f1.1 | exact f2.1 | exact f3 | assumption | omega
   case hv => first | rfl | (simp only [go_sem]; done)
   case hh => first | rfl | (simp only [go_sem]; done)
   try simp only [go_sem, simprocAttr, h0, h3, h23, Mem.marked, Stt.marked, mrow_len]
   repeat' (refine And.intro (by first | omega | (exact ⟨[0, 1, 0, 7, 15, 0, 63], by kernel_rfl⟩) | kernel_rfl) ?_)
   refine dS_call_ro rfl (sat_laws_toState ?_ ?hp0) ?ha ?hv ?hh ?_
   case ha => simp only [go_sem, simprocAttr, h0, h3, h23, Mem.marked, Stt.marked, mrow_len]; first | done | rfl
   case hp0 => first | exact f1.1 | exact f2.1 | exact f3 | assumption | omega
   case hv => first | rfl | (simp only [go_sem]; done)
   case hh => first | rfl | (simp only [go_sem]; done)
   try simp only [go_sem, simprocAttr, h0, h3, h23, Mem.marked, Stt.marked, mrow_len]
   repeat' (refine And.intro (by first | omega | (exact ⟨[0, 1, 0, 7, 15, 0, 63], by kernel_rfl⟩) | kernel_rfl) ?_)
   refine dS_call_ro rfl (sat_spec_Step ?_ ?_ ?hp0 ?hp1) ?ha ?hv ?hh ?_
   case ha => simp only [go_sem, simprocAttr, h0, h3, h23, Mem.marked, Stt.marked, mrow_len]; first | done | rfl
   case hp0 => first | exact f1.1 | exact f2.1 | exact f3 | assumption | omega
   case hp1 => first | exact f1.1 | exact f2.1 | exact f3 | assumption | omega
   case hv => first | rfl | (simp only [go_sem]; done)
   case hh => first | rfl | (simp only [go_sem]; done)
   try simp only [go_sem, simprocAttr, h0, h3, h23, Mem.marked, Stt.marked, mrow_len]
   repeat' (refine And.intro (by first | omega | (exact ⟨[0, 1, 0, 7, 15, 0, 63], by kernel_rfl⟩) | kernel_rfl) ?_)
   refine hK _ _ ⟨_, _, Wk.keep [0, 8, 5, 6, 7] rfl, awl_live' [0, 3, 6] fun ρ hL => ?_⟩
   try simp only [go_sem, simprocAttr, h0, h3, h23, Mem.marked, Stt.marked, mrow_len] at hL
   try clear h0 h3 h23
   obtain ⟨h0, h3, h6⟩ := hL
   try simp only [go_sem, simprocAttr, Mem.marked, Stt.marked, mrow_len]
   clear hK K
   refine awl_seq ?_
   refine awl_regS _ rfl fun K hK => ?_
   try simp only [go_sem, simprocAttr, h0, h3, h6, Mem.marked, Stt.marked, mrow_len]
   repeat' (refine And.intro (by first | exact f1.1 | exact f2.1 | exact f3 | assumption | omega) ?_)
   refine opS_call_ro rfl (sat_laws_toInsS ?_ ?hp0) ?ha ?hv ?hh ?_
   case ha => simp only [go_sem, simprocAttr, h0, h3, h6, Mem.marked, Stt.marked, mrow_len]; first | done | rfl
   case hp0 => first | exact f1.1 | exact f2.1 | exact f3 | assumption | omega
   case hv => first | rfl | (simp only [go_sem]; done)
   case hh => first | rfl | (simp only [go_sem]; done)
   try simp only [go_sem, simprocAttr, h0, h3, h6, Mem.marked, Stt.marked, mrow_len]
   repeat' (refine And.intro (by first | exact f1.1 | exact f2.1 | exact f3 | assumption | omega) ?_)
   refine hK _ _ ⟨_, _, Wk.keep [0, 1, 2, 3, 4, 5] rfl, awl_live' [0, 3, 6, 7] fun ρ hL => ?_⟩
   try simp only [go_sem, simprocAttr, h0, h3, h6, Mem.marked, Stt.marked, mrow_len] at hL
   try clear h0 h3 h6
   obtain ⟨h0, h3, h6, h7⟩ := hL
   try simp only [go_sem, simprocAttr, Mem.marked, Stt.marked, mrow_len]
   clear hK K
   refine awl_seq ?_
   refine awl_regS _ rfl fun K hK => ?_
   try simp only [go_sem, simprocAttr, h0, h3, h6, h7, Mem.marked, Stt.marked, mrow_len]
   repeat' (refine And.intro (by first | exact f1.1 | exact f2.1 | exact f3 | assumption | omega) ?_)
   refine opS_call_ro rfl (sat_laws_toState ?_ ?hp0) ?ha ?hv ?hh ?_
   case ha => simp only [go_sem, simprocAttr, h0, h3, h6, h7, Mem.marked, Stt.marked, mrow_len]; first | done | rfl
   case hp0 => first | exact f1.1 | exact f2.1 | exact f3 | assumption | omega
   case hv => first | rfl | (simp only [go_sem]; done)
   case hh => first | rfl | (simp only [go_sem]; done)
   try simp only [go_sem, simprocAttr, h0, h3, h6, h7, Mem.marked, Stt.marked, mrow_len]
   repeat' (refine And.intro (by first | exact f1.1 | exact f2.1 | exact f3 | assumption | omega) ?_)
   refine hK _ _ ⟨_, _, Wk.keep [0, 1, 2, 3, 4, 5, 9, 6, 7, 8] rfl, awl_live' [0, 3, 6, 7, 8] fun ρ hL => ?_⟩
   try simp only [go_sem, simprocAttr, h0, h3, h6, h7, Mem.marked, Stt.marked, mrow_len] at hL
   try clear h0 h3 h6 h7
   obtain ⟨h0, h3, h6, h7, h8⟩ := hL
   try simp only [go_sem, simprocAttr, Mem.marked, Stt.marked, mrow_len]
   clear hK K
   refine awl_seq ?_
   refine awl_regS _ rfl fun K hK => ?_
   try simp only [go_sem, simprocAttr, h0, h3, h6, h7, h8, Mem.marked, Stt.marked, mrow_len]
   repeat' (refine And.intro (by first | exact f1.1 | exact f2.1 | exact f3 | assumption | omega) ?_)
   refine opS_call_ro rfl (sat_impl_Step ?_ ?_ ?hp0 ?hp1) ?ha ?hv ?hh ?_
   case ha => simp only [go_sem, simprocAttr, h0, h3, h6, h7, h8, Mem.marked, Stt.marked, mrow_len]; first | done | rfl
   case hp0 => first | exact f1.1 | exact f2.1 | exact f3 | assumption | omega
   case hp1 => first | exact f1.1 | exact f2.1 | exact f3 | assumption | omega
   case hv => first | rfl | (simp only [go_sem]; done)
   case hh => first | rfl | (simp only [go_sem]; done)
   try simp only [go_sem, simprocAttr, h0, h3, h6, h7, h8, Mem.marked, Stt.marked, mrow_len]
   repeat' (refine And.intro (by first | exact f1.1 | exact f2.1 | exact f3 | assumption | omega) ?_)
   refine hK _ _ ⟨_, _, Wk.keep [0, 1, 2, 3, 4, 5, 6, 7, 8, 9, 13, 10, 11, 12] rfl, awl_live' [0, 3, 6, 7, 8, 9] fun ρ hL => ?_⟩
   try simp only [go_sem, simprocAttr, h0, h3, h6, h7, h8, Mem.marked, Stt.marked, mrow_len] at hL
   try clear h0 h3 h6 h7 h8
   obtain ⟨h0, h3, h6, h7, h8, h9⟩ := hL
   try simp only [go_sem, simprocAttr, Mem.marked, Stt.marked, mrow_len]
   clear hK K
   refine awl_seq ?_
   refine awl_seq ?_
   refine awl_regS _ rfl fun K hK => ?_
   try simp only [go_sem, simprocAttr, h0, h3, h6, h7, h8, h9, Mem.marked, Stt.marked, mrow_len]
   repeat' (refine And.intro (by first | exact f1.1 | exact f2.1 | exact f3 | assumption | omega) ?_)
   refine opS_call_ro rfl (sat_laws_eqState (step l s) (step l s) f3) ?ha ?hv ?hh ?_
   case ha => simp only [go_sem, simprocAttr, h0, h3, h6, h7, h8, h9, Mem.marked, Stt.marked, mrow_len]; first | done | rfl
   case hv => first | rfl | (simp only [go_sem]; done)
   case hh => first | rfl | (simp only [go_sem]; done)
   try simp only [go_sem, simprocAttr, h0, h3, h6, h7, h8, h9, Mem.marked, Stt.marked, mrow_len]
   repeat' (refine And.intro (by first | exact f1.1 | exact f2.1 | exact f3 | assumption | omega) ?_)
   refine hK _ _ ⟨_, _, Wk.keep [0, 1, 2, 3, 4, 5, 6, 7, 8, 9, 10, 11, 12, 13] rfl, awl_live' [0, 3, 6, 7, 8, 9, 39] fun ρ hL => ?_⟩
   try simp only [go_sem, simprocAttr, h0, h3, h6, h7, h8, h9, Mem.marked, Stt.marked, mrow_len] at hL
   try clear h0 h3 h6 h7 h8 h9
   obtain ⟨h0, h3, h6, h7, h8, h9, h39⟩ := hL
   try simp only [go_sem, simprocAttr, Mem.marked, Stt.marked, mrow_len]
   clear hK K
   refine awl_cond h39 (fun c3 => ?_) (fun c3 => ?_)
   ·
    try simp only [cnd] at c3
    first | done | (simp at c3; done) | (simp at c3; omega) | omega
   ·
    try simp only [cnd] at c3
    refine awl_skip ?_
    refine awl_seq ?_
    refine awl_seq ?_
    refine awl_regS _ rfl fun K hK => ?_
    try simp only [go_sem, simprocAttr, h0, h3, h6, h7, h8, h9, h39, Mem.marked, Stt.marked, mrow_len]
    repeat' (refine And.intro (by first | exact f1.1 | exact f2.1 | exact f3 | assumption | omega) ?_)
    refine opS_call_ro rfl (sat_laws_toInsS ?_ ?hp0) ?ha ?hv ?hh ?_
    case ha => simp only [go_sem, simprocAttr, h0, h3, h6, h7, h8, h9, h39, Mem.marked, Stt.marked, mrow_len]; first | done | rfl
    case hp0 => first | exact f1.1 | exact f2.1 | exact f3 | assumption | omega
    case hv => first | rfl | (simp only [go_sem]; done)
    case hh => first | rfl | (simp only [go_sem]; done)
    try simp only [go_sem, simprocAttr, h0, h3, h6, h7, h8, h9, h39, Mem.marked, Stt.marked, mrow_len]
    repeat' (refine And.intro (by first | exact f1.1 | exact f2.1 | exact f3 | assumption | omega) ?_)
    refine opS_call_ro rfl (sat_laws_eqInsS ?_ ?_ ?hp0) ?ha ?hv ?hh ?_
    case ha => simp only [go_sem, simprocAttr, h0, h3, h6, h7, h8, h9, h39, Mem.marked, Stt.marked, mrow_len]; first | done | rfl
    case hp0 => first | exact f1.1 | exact f2.1 | exact f3 | assumption | omega
    case hv => first | rfl | (simp only [go_sem]; done)
    case hh => first | rfl | (simp only [go_sem]; done)
    try simp only [go_sem, simprocAttr, h0, h3, h6, h7, h8, h9, h39, Mem.marked, Stt.marked, mrow_len]
    repeat' (refine And.intro (by first | exact f1.1 | exact f2.1 | exact f3 | assumption | omega) ?_)
    refine hK _ _ ⟨_, _, Wk.keep [0, 1, 2, 3, 4, 5, 6, 7, 8, 9, 10, 11, 12, 13] rfl, awl_live' [0, 3, 6, 7, 8, 9, 44] fun ρ hL => ?_⟩
    try simp only [go_sem, simprocAttr, h0, h3, h6, h7, h8, h9, h39, Mem.marked, Stt.marked, mrow_len] at hL
    try clear h0 h3 h6 h7 h8 h9 h39
    obtain ⟨h0, h3, h6, h7, h8, h9, h44⟩ := hL
    try simp only [go_sem, simprocAttr, Mem.marked, Stt.marked, mrow_len]
    clear hK K
    refine awl_cond h44 (fun c4 => ?_) (fun c4 => ?_)
    ·
     try simp only [cnd] at c4
     first | done | (simp at c4; done) | (simp at c4; omega) | omega
    ·
     try simp only [cnd] at c4
     refine awl_skip ?_
     refine awl_seq ?_
     refine awl_seq ?_
     refine awl_regD mixed _ rfl fun K hK => ?_
     try simp only [go_sem, simprocAttr, h0, h3, h6, h7, h8, h9, h44, Mem.marked, Stt.marked, mrow_len]
     repeat' (refine And.intro (by first | omega | (exact ⟨[0, 0, 2, 7, 15], by kernel_rfl⟩) | kernel_rfl) ?_)
     refine dS_call_ro rfl (sat_laws_toState ?_ ?hp0) ?ha ?hv ?hh ?_
     case ha => simp only [go_sem, simprocAttr, h0, h3, h6, h7, h8, h9, h44, Mem.marked, Stt.marked, mrow_len]; first | done | rfl
     case hp0 => first | exact f1.1 | exact f2.1 | exact f3 | assumption | omega
     case hv => first | rfl | (simp only [go_sem]; done)
     case hh => first | rfl | (simp only [go_sem]; done)
     try simp only [go_sem, simprocAttr, h0, h3, h6, h7, h8, h9, h44, Mem.marked, Stt.marked, mrow_len]
     repeat' (refine And.intro (by first | omega | (exact ⟨[0, 0, 2, 7, 15], by kernel_rfl⟩) | kernel_rfl) ?_)
     refine dS_call_ro rfl (sat_laws_eqState s s f2.1) ?ha ?hv ?hh ?_
     case ha => simp only [go_sem, simprocAttr, h0, h3, h6, h7, h8, h9, h44, Mem.marked, Stt.marked, mrow_len]; first | done | rfl
     case hv => first | rfl | (simp only [go_sem]; done)
     case hh => first | rfl | (simp only [go_sem]; done)
     try simp only [go_sem, simprocAttr, h0, h3, h6, h7, h8, h9, h44, Mem.marked, Stt.marked, mrow_len]
     repeat' (refine And.intro (by first | omega | (exact ⟨[0, 0, 2, 7, 15], by kernel_rfl⟩) | kernel_rfl) ?_)
     refine hK _ _ ⟨_, _, Wk.keep [0, 1, 2, 3, 4, 5, 6, 7, 8, 9, 10, 11, 12, 13] rfl, awl_live' [0, 3, 6, 7, 8, 9, 49] fun ρ hL => ?_⟩
     try simp only [go_sem, simprocAttr, h0, h3, h6, h7, h8, h9, h44, Mem.marked, Stt.marked, mrow_len] at hL
     try clear h0 h3 h6 h7 h8 h9 h44
     obtain ⟨h0, h3, h6, h7, h8, h9, h49⟩ := hL
     try simp only [go_sem, simprocAttr, Mem.marked, Stt.marked, mrow_len]
     clear hK K
     refine awl_cond h49 (fun c5 => ?_) (fun c5 => ?_)
     ·
      try simp only [cnd] at c5
      first | done | (simp at c5; done) | (simp at c5; omega) | omega
     ·
      try simp only [cnd] at c5
      refine awl_skip ?_
      refine awl_seq ?_
      refine awl_regS _ rfl fun K hK => ?_
      try simp only [go_sem, simprocAttr, h0, h3, h6, h7, h8, h9, h49, Mem.marked, Stt.marked, mrow_len]
      repeat' (refine And.intro (by first | exact f1.1 | exact f2.1 | exact f3 | assumption | omega) ?_)
      refine hK _ _ ⟨_, _, Wk.keep [0, 1, 2, 3, 4, 5, 6, 7, 8, 9, 10, 11, 12, 13] rfl, awl_live' [0, 3, 6, 7, 8, 9, 10] fun ρ hL => ?_⟩
      try simp only [go_sem, simprocAttr, h0, h3, h6, h7, h8, h9, h49, Mem.marked, Stt.marked, mrow_len] at hL
      try clear h0 h3 h6 h7 h8 h9 h49
      obtain ⟨h0, h3, h6, h7, h8, h9, h10⟩ := hL
      try simp only [go_sem, simprocAttr, Mem.marked, Stt.marked, mrow_len]
      clear hK K
      refine awl_seq ?_
      refine awl_regS _ rfl fun K hK => ?_
      try simp only [go_sem, simprocAttr, h0, h3, h6, h7, h8, h9, h10, Mem.marked, Stt.marked, mrow_len]
      repeat' (refine And.intro (by first | exact f1.1 | exact f2.1 | exact f3 | assumption | omega) ?_)
      refine opS_call_in [5] rfl (sat_laws_markInsS ?_ ?_ ?_ ?hp0 ?hp1) ?ha ?hb ?hv ?hh (by decide) rfl ?_
      case ha => simp only [go_sem, simprocAttr, h0, h3, h6, h7, h8, h9, h10, Mem.marked, Stt.marked, mrow_len]; first | done | rfl
      case hb => simp only [go_sem, simprocAttr, h0, h3, h6, h7, h8, h9, h10, Mem.marked, Stt.marked, mrow_len]; first | done | rfl
      case hp0 => first | exact f1.1 | exact f2.1 | exact f3 | assumption | omega
      case hp1 => first | exact f1.1 | exact f2.1 | exact f3 | assumption | omega
      case hv => first | rfl | (simp only [go_sem]; done)
      case hh => first | rfl | (simp only [go_sem]; done)
      try simp only [go_sem, simprocAttr, h0, h3, h6, h7, h8, h9, h10, Mem.marked, Stt.marked, mrow_len]
      repeat' (refine And.intro (by first | exact f1.1 | exact f2.1 | exact f3 | assumption | omega) ?_)
      refine hK _ _ ⟨_, _, Wk.keep [0, 1, 2, 3, 4, 6, 7, 8, 9, 10, 11, 12, 13] rfl, awl_live' [0, 3, 6, 8, 9, 10] fun ρ hL => ?_⟩
      try simp only [go_sem, simprocAttr, h0, h3, h6, h7, h8, h9, h10, Mem.marked, Stt.marked, mrow_len] at hL
      try clear h0 h3 h6 h7 h8 h9 h10
      obtain ⟨h0, h3, h6, h8, h9, h10⟩ := hL
      try simp only [go_sem, simprocAttr, Mem.marked, Stt.marked, mrow_len]
      clear hK K
      refine awl_seq ?_
      refine awl_regS _ rfl fun K hK => ?_
      try simp only [go_sem, simprocAttr, h0, h3, h6, h8, h9, h10, Mem.marked, Stt.marked, mrow_len]
      repeat' (refine And.intro (by first | exact f1.1 | exact f2.1 | exact f3 | assumption | omega) ?_)
      refine opS_call_in [6, 7, 8] rfl (sat_laws_markState s (1 + (5 * l.length : Nat)) f2.1 (by omega)) ?ha ?hb ?hv ?hh (by decide) rfl ?_
      case ha => simp only [go_sem, simprocAttr, h0, h3, h6, h8, h9, h10, Mem.marked, Stt.marked, mrow_len]; first | done | rfl
      case hb => simp only [go_sem, simprocAttr, h0, h3, h6, h8, h9, h10, Mem.marked, Stt.marked, mrow_len]; first | done | rfl
      case hv => first | rfl | (simp only [go_sem]; done)
      case hh => first | rfl | (simp only [go_sem]; done)
      try simp only [go_sem, simprocAttr, h0, h3, h6, h8, h9, h10, Mem.marked, Stt.marked, mrow_len]
      repeat' (refine And.intro (by first | exact f1.1 | exact f2.1 | exact f3 | assumption | omega) ?_)
      refine hK _ _ ⟨_, _, Wk.keep [0, 1, 2, 3, 4, 9, 10, 11, 12] rfl, awl_live' [0, 3, 6, 9, 10] fun ρ hL => ?_⟩
      try simp only [go_sem, simprocAttr, h0, h3, h6, h8, h9, h10, Mem.marked, Stt.marked, mrow_len] at hL
      try clear h0 h3 h6 h8 h9 h10
      obtain ⟨h0, h3, h6, h9, h10⟩ := hL
      try simp only [go_sem, simprocAttr, Mem.marked, Stt.marked, mrow_len]
      clear hK K
      refine awl_seq ?_
      refine awl_seq ?_
      refine awl_regS _ rfl fun K hK => ?_
      try simp only [go_sem, simprocAttr, h0, h3, h6, h9, h10, Mem.marked, Stt.marked, mrow_len]
      repeat' (refine And.intro (by first | exact f1.1 | exact f2.1 | exact f3 | assumption | omega) ?_)
      refine awpS_live [0, 3, 6, 9, 58] fun ρ hL => ?_
      try simp only [go_sem, simprocAttr, h0, h3, h6, h9, h10, Mem.marked, Stt.marked, mrow_len] at hL
      try clear h0 h3 h6 h9 h10
      obtain ⟨h0, h3, h6, h9, h58⟩ := hL
      refine grp_orN (tc := 58) (tv := 62) (td := 63) (v := ?v1) 4 rfl [0, 3, 6, 9] h58 rfl (fun hb K1 hK1 => ?run) (fun hb => ?skip) (fun ρ hP hL => ?_)
      case skip =>
       exact awpS_skip (want := false) (b := _) (by rw [hb]; rfl) _ [] ρ h58 (fun _ _ => rfl) (by simp) rfl
      case run =>
       simp only [List.take_succ_cons, List.take_zero]
       rw [hb] at h58
       try simp only [go_sem, simprocAttr, h0, h3, h6, h9, h58, Mem.marked, Stt.marked, mrow_len]
       repeat' (refine And.intro (by first | exact f1.1 | exact f2.1 | exact f3 | assumption | omega) ?_)
       refine opS_call_ro rfl (sat_laws_eqState (step l s) (step l s) f3) ?ha ?hv ?hh ?_
       case ha => simp only [go_sem, simprocAttr, h0, h3, h6, h9, h58, Mem.marked, Stt.marked, mrow_len]; first | done | rfl
       case hv => first | rfl | (simp only [go_sem]; done)
       case hh => first | rfl | (simp only [go_sem]; done)
       try simp only [go_sem, simprocAttr, h0, h3, h6, h9, h58, Mem.marked, Stt.marked, mrow_len]
       repeat' (refine And.intro (by first | exact f1.1 | exact f2.1 | exact f3 | assumption | omega) ?_)
       exact hK1 _ (by simp only [go_sem, simprocAttr, h0, h3, h6, h9, h58, Mem.marked, Stt.marked, mrow_len]) (by simp only [go_sem, simprocAttr, h0, h3, h6, h9, h58, Mem.marked, Stt.marked, mrow_len]; exact rfl) (by simp only [go_sem, simprocAttr, h0, h3, h6, h9, h58, Mem.marked, Stt.marked, mrow_len])
      simp only [List.drop_succ_cons, List.drop_zero]
      try simp only [go_sem, simprocAttr, h0, h3, h6, h9, h58, Mem.marked, Stt.marked, mrow_len] at hL
      try clear h0 h3 h6 h9 h58
      obtain ⟨h0, h3, h6, h9⟩ := hL
      have h63 := hP
      clear hP
      try simp only [go_sem, simprocAttr, h0, h3, h6, h9, h63, Mem.marked, Stt.marked, mrow_len]
      repeat' (refine And.intro (by first | exact f1.1 | exact f2.1 | exact f3 | assumption | omega) ?_)
      refine hK _ _ ⟨_, _, Wk.keep [0, 1, 2, 3, 4, 5, 6, 7, 8] rfl, awl_live' [0, 3, 6, 9, 63] fun ρ hL => ?_⟩
      try simp only [go_sem, simprocAttr, h0, h3, h6, h9, h63, Mem.marked, Stt.marked, mrow_len] at hL
      try clear h0 h3 h6 h9 h63
      obtain ⟨h0, h3, h6, h9, h63⟩ := hL
      try simp only [go_sem, simprocAttr, Mem.marked, Stt.marked, mrow_len]
      clear hK K
      refine awl_cond h63 (fun c6 => ?_) (fun c6 => ?_)
      ·
       try simp only [cnd] at c6
       first | done | (simp at c6; done) | (simp at c6; omega) | omega
      ·
       try simp only [cnd] at c6
       refine awl_skip ?_
       refine awl_seq ?_
       refine awl_regS _ rfl fun K hK => ?_
       try simp only [go_sem, simprocAttr, h0, h3, h6, h9, h63, Mem.marked, Stt.marked, mrow_len]
       repeat' (refine And.intro (by first | exact f1.1 | exact f2.1 | exact f3 | assumption | omega) ?_)
       refine hK _ _ ⟨_, _, Wk.keep [0, 1, 2, 3, 4, 5, 6, 7, 8] rfl, awl_live' [0, 3, 6, 9, 11] fun ρ hL => ?_⟩
       try simp only [go_sem, simprocAttr, h0, h3, h6, h9, h63, Mem.marked, Stt.marked, mrow_len] at hL
       try clear h0 h3 h6 h9 h63
       obtain ⟨h0, h3, h6, h9, h11⟩ := hL
       try simp only [go_sem, simprocAttr, Mem.marked, Stt.marked, mrow_len]
       clear hK K
       refine awl_seq ?_
       refine awl_regS _ rfl fun K hK => ?_
       try simp only [go_sem, simprocAttr, h0, h3, h6, h9, h11, Mem.marked, Stt.marked, mrow_len]
       repeat' (refine And.intro (by first | exact f1.1 | exact f2.1 | exact f3 | assumption | omega) ?_)
       refine opS_call_in [6, 7, 8] rfl (sat_laws_markState (step l s) 1 f3 (by decide)) ?ha ?hb ?hv ?hh (by decide) rfl ?_
       case ha => simp only [go_sem, simprocAttr, h0, h3, h6, h9, h11, Mem.marked, Stt.marked, mrow_len]; first | done | rfl
       case hb => simp only [go_sem, simprocAttr, h0, h3, h6, h9, h11, Mem.marked, Stt.marked, mrow_len]; first | done | rfl
       case hv => first | rfl | (simp only [go_sem]; done)
       case hh => first | rfl | (simp only [go_sem]; done)
       try simp only [go_sem, simprocAttr, h0, h3, h6, h9, h11, Mem.marked, Stt.marked, mrow_len]
       repeat' (refine And.intro (by first | exact f1.1 | exact f2.1 | exact f3 | assumption | omega) ?_)
       refine hK _ _ ⟨_, _, Wk.keep [0, 1, 2, 3, 4, 5, 6, 7, 8] rfl, awl_live' [0, 3, 6, 9, 11] fun ρ hL => ?_⟩
       try simp only [go_sem, simprocAttr, h0, h3, h6, h9, h11, Mem.marked, Stt.marked, mrow_len] at hL
       try clear h0 h3 h6 h9 h11
       obtain ⟨h0, h3, h6, h9, h11⟩ := hL
       try simp only [go_sem, simprocAttr, Mem.marked, Stt.marked, mrow_len]
       clear hK K
       refine awl_seq ?_
       refine awl_regS _ rfl fun K hK => ?_
       try simp only [go_sem, simprocAttr, h0, h3, h6, h9, h11, Mem.marked, Stt.marked, mrow_len]
       repeat' (refine And.intro (by first | exact f1.1 | exact f2.1 | exact f3 | assumption | omega) ?_)
       refine hK _ _ ⟨_, _, Wk.keep [0, 1, 2, 3, 4, 5, 6, 7, 8] rfl, awl_live' [0, 3, 6, 9, 11, 12] fun ρ hL => ?_⟩
       try simp only [go_sem, simprocAttr, h0, h3, h6, h9, h11, Mem.marked, Stt.marked, mrow_len] at hL
       try clear h0 h3 h6 h9 h11
       obtain ⟨h0, h3, h6, h9, h11, h12⟩ := hL
       try simp only [go_sem, simprocAttr, Mem.marked, Stt.marked, mrow_len]
       clear hK K
       refine awl_seq ?_
       refine awl_regS _ rfl fun K hK => ?_
       try simp only [go_sem, simprocAttr, h0, h3, h6, h9, h11, h12, Mem.marked, Stt.marked, mrow_len]
       repeat' (refine And.intro (by first | exact f1.1 | exact f2.1 | exact f3 | assumption | omega) ?_)
       refine opS_call_ro rfl (sat_laws_heldState (step l s) 1 f3 (by decide)) ?ha ?hv ?hh ?_
       case ha => simp only [go_sem, simprocAttr, h0, h3, h6, h9, h11, h12, Mem.marked, Stt.marked, mrow_len]; first | done | rfl
       case hv => first | rfl | (simp only [go_sem]; done)
       case hh => first | rfl | (simp only [go_sem]; done)
       try simp only [go_sem, simprocAttr, h0, h3, h6, h9, h11, h12, Mem.marked, Stt.marked, mrow_len]
       repeat' (refine And.intro (by first | exact f1.1 | exact f2.1 | exact f3 | assumption | omega) ?_)
       refine hK _ _ ⟨_, _, Wk.keep [0, 1, 2, 3, 4, 5, 6, 7, 8] rfl, awl_live' [0, 3, 6, 9, 11, 12] fun ρ hL => ?_⟩
       try simp only [go_sem, simprocAttr, h0, h3, h6, h9, h11, h12, Mem.marked, Stt.marked, mrow_len] at hL
       try clear h0 h3 h6 h9 h11 h12
       obtain ⟨h0, h3, h6, h9, h11, h12⟩ := hL
       try simp only [go_sem, simprocAttr, Mem.marked, Stt.marked, mrow_len]
       clear hK K
       refine awl_seq ?_
       refine awl_seq ?_
       refine awl_regS _ rfl fun K hK => ?_
       try simp only [go_sem, simprocAttr, h0, h3, h6, h9, h11, h12, Mem.marked, Stt.marked, mrow_len]
       repeat' (refine And.intro (by first | exact f1.1 | exact f2.1 | exact f3 | assumption | omega) ?_)
       refine hK _ _ ⟨_, _, Wk.keep [0, 1, 2, 3, 4, 5, 6, 7, 8] rfl, awl_live' [0, 3, 6, 9, 11, 12, 71] fun ρ hL => ?_⟩
       try simp only [go_sem, simprocAttr, h0, h3, h6, h9, h11, h12, Mem.marked, Stt.marked, mrow_len] at hL
       try clear h0 h3 h6 h9 h11 h12
       obtain ⟨h0, h3, h6, h9, h11, h12, h71⟩ := hL
       try simp only [go_sem, simprocAttr, Mem.marked, Stt.marked, mrow_len]
       clear hK K
       refine awl_cond h71 (fun c7 => ?_) (fun c7 => ?_)
       ·
        try simp only [cnd] at c7
        first | done | (simp at c7; done) | (simp at c7; omega) | omega
       ·
        try simp only [cnd] at c7
        refine awl_skip ?_
        refine awl_seq ?_
        refine awl_seq ?_
        refine awl_regS _ rfl fun K hK => ?_
        try simp only [go_sem, simprocAttr, h0, h3, h6, h9, h11, h12, h71, Mem.marked, Stt.marked, mrow_len]
        repeat' (refine And.intro (by first | exact f1.1 | exact f2.1 | exact f3 | assumption | omega) ?_)
        refine hK _ _ ⟨_, _, Wk.keep [0, 1, 2, 3, 4, 5, 6, 7, 8] rfl, awl_live' [0, 3, 6, 9, 11, 74] fun ρ hL => ?_⟩
        try simp only [go_sem, simprocAttr, h0, h3, h6, h9, h11, h12, h71, Mem.marked, Stt.marked, mrow_len] at hL
        try clear h0 h3 h6 h9 h11 h12 h71
        obtain ⟨h0, h3, h6, h9, h11, h74⟩ := hL
        try simp only [go_sem, simprocAttr, Mem.marked, Stt.marked, mrow_len]
        clear hK K
        refine awl_cond h74 (fun c8 => ?_) (fun c8 => ?_)
        ·
         try simp only [cnd] at c8
         first | done | (simp at c8; done) | (simp at c8; omega) | omega
        ·
         try simp only [cnd] at c8
         refine awl_skip ?_
         refine awl_seq ?_
         refine awl_regD mixed _ rfl fun K hK => ?_
         try simp only [go_sem, simprocAttr, h0, h3, h6, h9, h11, h74, Mem.marked, Stt.marked, mrow_len]
         repeat' (refine And.intro (by first | omega | (exact ⟨[0, 1, 0, 7, 15, 0, 63], by kernel_rfl⟩) | kernel_rfl) ?_)
         refine dS_call_ro rfl (sat_laws_toInsS ?_ ?hp0) ?ha ?hv ?hh ?_
         case ha => simp only [go_sem, simprocAttr, h0, h3, h6, h9, h11, h74, Mem.marked, Stt.marked, mrow_len]; first | done | rfl
         case hp0 => first | exact f1.1 | exact f2.1 | exact f3 | assumption | omega
         case hv => first | rfl | (simp only [go_sem]; done)
         case hh => first | rfl | (simp only [go_sem]; done)
         try simp only [go_sem, simprocAttr, h0, h3, h6, h9, h11, h74, Mem.marked, Stt.marked, mrow_len]
         repeat' (refine And.intro (by first | omega | (exact ⟨[0, 1, 0, 7, 15, 0, 63], by kernel_rfl⟩) | kernel_rfl) ?_)
         refine dS_call_ro rfl (sat_laws_toState ?_ ?hp0) ?ha ?hv ?hh ?_
         case ha => simp only [go_sem, simprocAttr, h0, h3, h6, h9, h11, h74, Mem.marked, Stt.marked, mrow_len]; first | done | rfl
         case hp0 => first | exact f1.1 | exact f2.1 | exact f3 | assumption | omega
         case hv => first | rfl | (simp only [go_sem]; done)
         case hh => first | rfl | (simp only [go_sem]; done)
         try simp only [go_sem, simprocAttr, h0, h3, h6, h9, h11, h74, Mem.marked, Stt.marked, mrow_len]
         repeat' (refine And.intro (by first | omega | (exact ⟨[0, 1, 0, 7, 15, 0, 63], by kernel_rfl⟩) | kernel_rfl) ?_)
         refine dS_call_ro rfl (sat_impl_Step ?_ ?_ ?hp0 ?hp1) ?ha ?hv ?hh ?_
         case ha => simp only [go_sem, simprocAttr, h0, h3, h6, h9, h11, h74, Mem.marked, Stt.marked, mrow_len]; first | done | rfl
         case hp0 => first | exact f1.1 | exact f2.1 | exact f3 | assumption | omega
         case hp1 => first | exact f1.1 | exact f2.1 | exact f3 | assumption | omega
         case hv => first | rfl | (simp only [go_sem]; done)
         case hh => first | rfl | (simp only [go_sem]; done)
         try simp only [go_sem, simprocAttr, h0, h3, h6, h9, h11, h74, Mem.marked, Stt.marked, mrow_len]
         repeat' (refine And.intro (by first | omega | (exact ⟨[0, 1, 0, 7, 15, 0, 63], by kernel_rfl⟩) | kernel_rfl) ?_)
         refine hK _ _ ⟨_, _, Wk.keep [1, 2, 3, 4, 5, 6, 7, 8, 16, 13, 14, 15] rfl, awl_live' [6, 9, 11, 13] fun ρ hL => ?_⟩
         try simp only [go_sem, simprocAttr, h0, h3, h6, h9, h11, h74, Mem.marked, Stt.marked, mrow_len] at hL
         try clear h0 h3 h6 h9 h11 h74
         obtain ⟨h6, h9, h11, h13⟩ := hL
         try simp only [go_sem, simprocAttr, Mem.marked, Stt.marked, mrow_len]
         clear hK K
         refine awl_seq ?_
         refine awl_seq ?_
         refine awl_regS _ rfl fun K hK => ?_
         try simp only [go_sem, simprocAttr, h6, h9, h11, h13, Mem.marked, Stt.marked, mrow_len]
         repeat' (refine And.intro (by first | exact f1.1 | exact f2.1 | exact f3 | assumption | omega) ?_)
         refine opS_call_ro rfl (sat_laws_eqState (step l s) (step l s) f3) ?ha ?hv ?hh ?_
         case ha => simp only [go_sem, simprocAttr, h6, h9, h11, h13, Mem.marked, Stt.marked, mrow_len]; first | done | rfl
         case hv => first | rfl | (simp only [go_sem]; done)
         case hh => first | rfl | (simp only [go_sem]; done)
         try simp only [go_sem, simprocAttr, h6, h9, h11, h13, Mem.marked, Stt.marked, mrow_len]
         repeat' (refine And.intro (by first | exact f1.1 | exact f2.1 | exact f3 | assumption | omega) ?_)
         refine hK _ _ ⟨_, _, Wk.keep [4, 5, 6, 7] rfl, awl_live' [9, 11, 83] fun ρ hL => ?_⟩
         try simp only [go_sem, simprocAttr, h6, h9, h11, h13, Mem.marked, Stt.marked, mrow_len] at hL
         try clear h6 h9 h11 h13
         obtain ⟨h9, h11, h83⟩ := hL
         try simp only [go_sem, simprocAttr, Mem.marked, Stt.marked, mrow_len]
         clear hK K
         refine awl_cond h83 (fun c9 => ?_) (fun c9 => ?_)
         ·
          try simp only [cnd] at c9
          first | done | (simp at c9; done) | (simp at c9; omega) | omega
         ·
          try simp only [cnd] at c9
          refine awl_skip ?_
          refine awl_seq ?_
          refine awl_regS _ rfl fun K hK => ?_
          try simp only [go_sem, simprocAttr, h9, h11, h83, Mem.marked, Stt.marked, mrow_len]
          repeat' (refine And.intro (by first | exact f1.1 | exact f2.1 | exact f3 | assumption | omega) ?_)
          refine hK _ _ ⟨_, _, Wk.keep [0, 1, 2, 3] rfl, awl_live' [9, 11, 12] fun ρ hL => ?_⟩
          try simp only [go_sem, simprocAttr, h9, h11, h83, Mem.marked, Stt.marked, mrow_len] at hL
          try clear h9 h11 h83
          obtain ⟨h9, h11, h12⟩ := hL
          try simp only [go_sem, simprocAttr, Mem.marked, Stt.marked, mrow_len]
          clear hK K
          refine awl_seq ?_
          refine awl_regS _ rfl fun K hK => ?_
          try simp only [go_sem, simprocAttr, h9, h11, h12, Mem.marked, Stt.marked, mrow_len]
          repeat' (refine And.intro (by first | exact f1.1 | exact f2.1 | exact f3 | assumption | omega) ?_)
          refine opS_call_ro rfl (sat_laws_heldState (step l s) 1 f3 (by decide)) ?ha ?hv ?hh ?_
          case ha => simp only [go_sem, simprocAttr, h9, h11, h12, Mem.marked, Stt.marked, mrow_len]; first | done | rfl
          case hv => first | rfl | (simp only [go_sem]; done)
          case hh => first | rfl | (simp only [go_sem]; done)
          try simp only [go_sem, simprocAttr, h9, h11, h12, Mem.marked, Stt.marked, mrow_len]
          repeat' (refine And.intro (by first | exact f1.1 | exact f2.1 | exact f3 | assumption | omega) ?_)
          refine hK _ _ ⟨_, _, Wk.keep [] rfl, awl_live' [11, 12] fun ρ hL => ?_⟩
          try simp only [go_sem, simprocAttr, h9, h11, h12, Mem.marked, Stt.marked, mrow_len] at hL
          try clear h9 h11 h12
          obtain ⟨h11, h12⟩ := hL
          try simp only [go_sem, simprocAttr, Mem.marked, Stt.marked, mrow_len]
          clear hK K
          refine awl_seq ?_
          refine awl_seq ?_
          refine awl_regS _ rfl fun K hK => ?_
          try simp only [go_sem, simprocAttr, h11, h12, Mem.marked, Stt.marked, mrow_len]
          repeat' (refine And.intro (by first | exact f1.1 | exact f2.1 | exact f3 | assumption | omega) ?_)
          refine hK _ _ ⟨_, _, Wk.keep [] rfl, awl_live' [11, 12, 88] fun ρ hL => ?_⟩
          try simp only [go_sem, simprocAttr, h11, h12, Mem.marked, Stt.marked, mrow_len] at hL
          try clear h11 h12
          obtain ⟨h11, h12, h88⟩ := hL
          try simp only [go_sem, simprocAttr, Mem.marked, Stt.marked, mrow_len]
          clear hK K
          refine awl_cond h88 (fun c10 => ?_) (fun c10 => ?_)
          ·
           try simp only [cnd] at c10
           first | done | (simp at c10; done) | (simp at c10; omega) | omega
          ·
           try simp only [cnd] at c10
           refine awl_skip ?_
           refine awl_seq ?_
           refine awl_seq ?_
           refine awl_regS _ rfl fun K hK => ?_
           try simp only [go_sem, simprocAttr, h11, h12, h88, Mem.marked, Stt.marked, mrow_len]
           repeat' (refine And.intro (by first | exact f1.1 | exact f2.1 | exact f3 | assumption | omega) ?_)
           refine hK _ _ ⟨_, _, Wk.keep [] rfl, awl_live' [91] fun ρ hL => ?_⟩
           try simp only [go_sem, simprocAttr, h11, h12, h88, Mem.marked, Stt.marked, mrow_len] at hL
           try clear h11 h12 h88
           have h91 := hL
           clear hL
           try simp only [go_sem, simprocAttr, Mem.marked, Stt.marked, mrow_len]
           clear hK K
           refine awl_cond h91 (fun c11 => ?_) (fun c11 => ?_)
           ·
            try simp only [cnd] at c11
            first | done | (simp at c11; done) | (simp at c11; omega) | omega
           ·
            try simp only [cnd] at c11
            refine awl_skip ?_
            refine awl_seq ?_
            refine awl_regS _ rfl fun K hK => ?_
            try simp only [go_sem, simprocAttr, h91, Mem.marked, Stt.marked, mrow_len]
            repeat' (refine And.intro (by first | exact f1.1 | exact f2.1 | exact f3 | assumption | omega) ?_)
            refine hK _ _ ⟨_, _, Wk.keep [] rfl, awl_live' [4] fun ρ hL => ?_⟩
            try simp only [go_sem, simprocAttr, h91, Mem.marked, Stt.marked, mrow_len] at hL
            try clear h91
            have h4 := hL
            clear hL
            try simp only [go_sem, simprocAttr, Mem.marked, Stt.marked, mrow_len]
            clear hK K
            refine awl_ret ?_
            refine ret0 (by simp only [go_sem, simprocAttr, h4, Mem.marked, Stt.marked, mrow_len]; exact rfl) ?_
            try simp only [go_sem, simprocAttr]
            all_goals (rfl)
end Go.Proofs.YtgddflnhibhacaaGreat.AM
