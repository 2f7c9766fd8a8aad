/- The law Run. No conditions but those each theorem bears. -/
import Derived.Test.YtgddflnhibhacaaGreatFa
import Derived.Test.YtgddflnhibhacaaGreatSp13
import Derived.Test.YtgddflnhibhacaaGreatCa31
import Derived.Test.YtgddflnhibhacaaGreatCa32
set_option linter.unusedSimpArgs false
set_option linter.unusedVariables false
namespace Go.Proofs.YtgddflnhibhacaaGreat.AM
open Go

set_option maxHeartbeats 8000000 in
set_option maxRecDepth 100000 in
theorem sat_laws_FnExactRun (l : List Ins) (s : Stt) (ns : List Int) (hl : l.length ≤ 9223372036854775807) (hs : s.sm) : Sat Tryz.prog 5 [.sl l.length l.length (rows l), .agg s.cells, .sl ns.length ns.length (ints ns)] [] (.bool true) [] := by
 refine sat_mk [.tmp 6] 0 113 Tryz.call5 Tryz.func5 Tryz.ntmps5 rfl rfl rfl rfl rfl ?_
 refine awl_live' [0, 1, 2] fun ρ hL => ?_
 try simp only [go_sem, simprocAttr, Mem.marked, Stt.marked, mrow_len] at hL
 obtain ⟨h0, h1, h2⟩ := hL
 refine awl_seq ?_
 refine awl_regS _ rfl fun K hK => ?_
 try simp only [go_sem, simprocAttr, h0, h1, h2, Mem.marked, Stt.marked, mrow_len]
 repeat' (refine And.intro (by first | exact f1.1 | exact f2.1 | exact f3 | assumption | omega) ?_)
 refine hK _ _ ⟨_, _, Wk.keep [0] rfl, awl_live' [0, 2, 4] fun ρ hL => ?_⟩
 try simp only [go_sem, simprocAttr, h0, h1, h2, Mem.marked, Stt.marked, mrow_len] at hL
 try clear h0 h1 h2
 obtain ⟨h0, h2, h4⟩ := hL
 try simp only [go_sem, simprocAttr, Mem.marked, Stt.marked, mrow_len]
 clear hK K
 refine awl_seq ?_
 refine awl_seq ?_
 refine awl_regS _ rfl fun K hK => ?_
 try simp only [go_sem, simprocAttr, h0, h2, h4, Mem.marked, Stt.marked, mrow_len]
 repeat' (refine And.intro (by first | exact f1.1 | exact f2.1 | exact f3 | assumption | omega) ?_)
 refine hK _ _ ⟨_, _, Wk.keep [0] rfl, awl_live' [0, 2, 4, 19] fun ρ hL => ?_⟩
 try simp only [go_sem, simprocAttr, h0, h2, h4, Mem.marked, Stt.marked, mrow_len] at hL
 try clear h0 h2 h4
 obtain ⟨h0, h2, h4, h19⟩ := hL
 try simp only [go_sem, simprocAttr, Mem.marked, Stt.marked, mrow_len]
 clear hK K
 refine awl_cond h19 (fun c1 => ?_) (fun c1 => ?_)
 ·
  try simp only [cnd] at c1
  refine awl_seq ?_
  refine awl_regS _ rfl fun K hK => ?_
  try simp only [go_sem, simprocAttr, h0, h2, h4, h19, Mem.marked, Stt.marked, mrow_len]
  repeat' (refine And.intro (by first | exact f1.1 | exact f2.1 | exact f3 | assumption | omega) ?_)
  refine hK _ _ ⟨_, _, Wk.keep [] rfl, awl_live' [6] fun ρ hL => ?_⟩
  try simp only [go_sem, simprocAttr, h0, h2, h4, h19, Mem.marked, Stt.marked, mrow_len] at hL
  try clear h0 h2 h4 h19
  have h6 := hL
  clear hL
  try simp only [go_sem, simprocAttr, Mem.marked, Stt.marked, mrow_len]
  clear hK K
  refine awl_ret ?_
  refine ret0 (by simp only [go_sem, simprocAttr, h6, Mem.marked, Stt.marked, mrow_len]; exact rfl) ?_
  try simp only [go_sem, simprocAttr]
  all_goals (rfl)
 ·
  try simp only [cnd] at c1
  have f0 : ns.length ≤ 1048576 := by omega
  refine awl_skip ?_
  refine awl_seq ?_
  refine awl_regS _ rfl fun K hK => ?_
  try simp only [go_sem, simprocAttr, h0, h2, h4, h19, Mem.marked, Stt.marked, mrow_len]
  repeat' (refine And.intro (by first | exact f1.1 | exact f2.1 | exact f3 | assumption | omega) ?_)
  refine hK _ _ ⟨_, _, Wk.keep [0] rfl, awl_live' [0, 2, 4, 7] fun ρ hL => ?_⟩
  try simp only [go_sem, simprocAttr, h0, h2, h4, h19, Mem.marked, Stt.marked, mrow_len] at hL
  try clear h0 h2 h4 h19
  obtain ⟨h0, h2, h4, h7⟩ := hL
  try simp only [go_sem, simprocAttr, Mem.marked, Stt.marked, mrow_len]
  clear hK K
  refine awl_seq ?_
  refine awl_regS _ rfl fun K hK => ?_
  try simp only [go_sem, simprocAttr, h0, h2, h4, h7, Mem.marked, Stt.marked, mrow_len]
  repeat' (refine And.intro (by first | exact f1.1 | exact f2.1 | exact f3 | assumption | omega) ?_)
  refine opS_call_ro rfl (sat_laws_szInsS l 1048576 hl ⟨by decide, by decide⟩) ?ha ?hv ?hh ?_
  case ha => simp only [go_sem, simprocAttr, h0, h2, h4, h7, Mem.marked, Stt.marked, mrow_len]; first | done | rfl
  case hv => first | rfl | (simp only [go_sem]; done)
  case hh => first | rfl | (simp only [go_sem]; done)
  try simp only [go_sem, simprocAttr, h0, h2, h4, h7, Mem.marked, Stt.marked, mrow_len]
  repeat' (refine And.intro (by first | exact f1.1 | exact f2.1 | exact f3 | assumption | omega) ?_)
  refine hK _ _ ⟨_, _, Wk.keep [0] rfl, awl_live' [0, 2, 4, 7] fun ρ hL => ?_⟩
  try simp only [go_sem, simprocAttr, h0, h2, h4, h7, Mem.marked, Stt.marked, mrow_len] at hL
  try clear h0 h2 h4 h7
  obtain ⟨h0, h2, h4, h7⟩ := hL
  try simp only [go_sem, simprocAttr, Mem.marked, Stt.marked, mrow_len]
  clear hK K
  refine awl_seq ?_
  refine awl_seq ?_
  refine awl_regS _ rfl fun K hK => ?_
  try simp only [go_sem, simprocAttr, h0, h2, h4, h7, Mem.marked, Stt.marked, mrow_len]
  repeat' (refine And.intro (by first | exact f1.1 | exact f2.1 | exact f3 | assumption | omega) ?_)
  refine hK _ _ ⟨_, _, Wk.keep [0] rfl, awl_live' [0, 2, 4, 7, 24] fun ρ hL => ?_⟩
  try simp only [go_sem, simprocAttr, h0, h2, h4, h7, Mem.marked, Stt.marked, mrow_len] at hL
  try clear h0 h2 h4 h7
  obtain ⟨h0, h2, h4, h7, h24⟩ := hL
  try simp only [go_sem, simprocAttr, Mem.marked, Stt.marked, mrow_len]
  clear hK K
  refine awl_cond h24 (fun c2 => ?_) (fun c2 => ?_)
  ·
   try simp only [cnd] at c2
   refine awl_seq ?_
   refine awl_regS _ rfl fun K hK => ?_
   try simp only [go_sem, simprocAttr, h0, h2, h4, h7, h24, Mem.marked, Stt.marked, mrow_len]
   repeat' (refine And.intro (by first | exact f1.1 | exact f2.1 | exact f3 | assumption | omega) ?_)
   refine hK _ _ ⟨_, _, Wk.keep [] rfl, awl_live' [6] fun ρ hL => ?_⟩
   try simp only [go_sem, simprocAttr, h0, h2, h4, h7, h24, Mem.marked, Stt.marked, mrow_len] at hL
   try clear h0 h2 h4 h7 h24
   have h6 := hL
   clear hL
   try simp only [go_sem, simprocAttr, Mem.marked, Stt.marked, mrow_len]
   clear hK K
   refine awl_ret ?_
   refine ret0 (by simp only [go_sem, simprocAttr, h6, Mem.marked, Stt.marked, mrow_len]; exact rfl) ?_
   try simp only [go_sem, simprocAttr]
   all_goals (rfl)
  ·
   try simp only [cnd] at c2
   have f1 := szL_ok (l := 1048576) ⟨by decide, by decide⟩ c2
   have f1a := f1.1
   refine awl_skip ?_
   refine awl_seq ?_
   refine awl_regS _ rfl fun K hK => ?_
   try simp only [go_sem, simprocAttr, h0, h2, h4, h7, h24, Mem.marked, Stt.marked, mrow_len]
   repeat' (refine And.intro (by first | exact f1.1 | exact f2.1 | exact f3 | assumption | omega) ?_)
   refine opS_call_ro rfl (sat_laws_szState s (szL 1048576 l.length) hs f1.2) ?ha ?hv ?hh ?_
   case ha => simp only [go_sem, simprocAttr, h0, h2, h4, h7, h24, Mem.marked, Stt.marked, mrow_len]; first | done | rfl
   case hv => first | rfl | (simp only [go_sem]; done)
   case hh => first | rfl | (simp only [go_sem]; done)
   try simp only [go_sem, simprocAttr, h0, h2, h4, h7, h24, Mem.marked, Stt.marked, mrow_len]
   repeat' (refine And.intro (by first | exact f1.1 | exact f2.1 | exact f3 | assumption | omega) ?_)
   refine hK _ _ ⟨_, _, Wk.keep [0] rfl, awl_live' [0, 2, 4, 7] fun ρ hL => ?_⟩
   try simp only [go_sem, simprocAttr, h0, h2, h4, h7, h24, Mem.marked, Stt.marked, mrow_len] at hL
   try clear h0 h2 h4 h7 h24
   obtain ⟨h0, h2, h4, h7⟩ := hL
   try simp only [go_sem, simprocAttr, Mem.marked, Stt.marked, mrow_len]
   clear hK K
   refine awl_seq ?_
   refine awl_seq ?_
   refine awl_regS _ rfl fun K hK => ?_
   try simp only [go_sem, simprocAttr, h0, h2, h4, h7, Mem.marked, Stt.marked, mrow_len]
   repeat' (refine And.intro (by first | exact f1.1 | exact f2.1 | exact f3 | assumption | omega) ?_)
   refine hK _ _ ⟨_, _, Wk.keep [0] rfl, awl_live' [0, 2, 4, 29] fun ρ hL => ?_⟩
   try simp only [go_sem, simprocAttr, h0, h2, h4, h7, Mem.marked, Stt.marked, mrow_len] at hL
   try clear h0 h2 h4 h7
   obtain ⟨h0, h2, h4, h29⟩ := hL
   try simp only [go_sem, simprocAttr, Mem.marked, Stt.marked, mrow_len]
   clear hK K
   refine awl_cond h29 (fun c3 => ?_) (fun c3 => ?_)
   ·
    try simp only [cnd] at c3
    refine awl_seq ?_
    refine awl_regS _ rfl fun K hK => ?_
    try simp only [go_sem, simprocAttr, h0, h2, h4, h29, Mem.marked, Stt.marked, mrow_len]
    repeat' (refine And.intro (by first | exact f1.1 | exact f2.1 | exact f3 | assumption | omega) ?_)
    refine hK _ _ ⟨_, _, Wk.keep [] rfl, awl_live' [6] fun ρ hL => ?_⟩
    try simp only [go_sem, simprocAttr, h0, h2, h4, h29, Mem.marked, Stt.marked, mrow_len] at hL
    try clear h0 h2 h4 h29
    have h6 := hL
    clear hL
    try simp only [go_sem, simprocAttr, Mem.marked, Stt.marked, mrow_len]
    clear hK K
    refine awl_ret ?_
    refine ret0 (by simp only [go_sem, simprocAttr, h6, Mem.marked, Stt.marked, mrow_len]; exact rfl) ?_
    try simp only [go_sem, simprocAttr]
    all_goals (rfl)
   ·
    try simp only [cnd] at c3
    have f2 := szS_ok f1.2 c3
    have f3 := run_fit (l := l) (ns := ns) f2.1
    have f4 := Stt.cost_le f2.1
    refine awl_skip ?_
    refine awl_seq ?_
    refine awl_regD mixed _ rfl fun K hK => ?_
    try simp only [go_sem, simprocAttr, h0, h2, h4, h29, Mem.marked, Stt.marked, mrow_len]
    repeat' (refine And.intro (by first | omega | (exact ⟨[0, 1, 0, 7, 0, 31, 63, 0, 255], by kernel_rfl⟩) | kernel_rfl) ?_)
    refine dS_call_ro rfl (sat_laws_toInsS ?_ ?hp0) ?ha ?hv ?hh ?_
    case ha => simp only [go_sem, simprocAttr, h0, h2, h4, h29, Mem.marked, Stt.marked, mrow_len]; first | done | rfl
    case hp0 => first | exact f1.1 | exact f2.1 | exact f3 | assumption | omega
    case hv => first | rfl | (simp only [go_sem]; done)
    case hh => first | rfl | (simp only [go_sem]; done)
    try simp only [go_sem, simprocAttr, h0, h2, h4, h29, Mem.marked, Stt.marked, mrow_len]
    repeat' (refine And.intro (by first | omega | (exact ⟨[0, 1, 0, 7, 0, 31, 63, 0, 255], by kernel_rfl⟩) | kernel_rfl) ?_)
    refine dS_call_ro rfl (sat_laws_toState ?_ ?hp0) ?ha ?hv ?hh ?_
    case ha => simp only [go_sem, simprocAttr, h0, h2, h4, h29, Mem.marked, Stt.marked, mrow_len]; first | done | rfl
    case hp0 => first | exact f1.1 | exact f2.1 | exact f3 | assumption | omega
    case hv => first | rfl | (simp only [go_sem]; done)
    case hh => first | rfl | (simp only [go_sem]; done)
    try simp only [go_sem, simprocAttr, h0, h2, h4, h29, Mem.marked, Stt.marked, mrow_len]
    repeat' (refine And.intro (by first | omega | (exact ⟨[0, 1, 0, 7, 0, 31, 63, 0, 255], by kernel_rfl⟩) | kernel_rfl) ?_)
    refine dS_call_ro rfl (sat_laws_toIntS ?_ ?_ ?hp0) ?ha ?hv ?hh ?_
    case ha => simp only [go_sem, simprocAttr, h0, h2, h4, h29, Mem.marked, Stt.marked, mrow_len]; first | done | rfl
    case hp0 => first | exact f1.1 | exact f2.1 | exact f3 | assumption | omega
    case hv => first | rfl | (simp only [go_sem]; done)
    case hh => first | rfl | (simp only [go_sem]; done)
    try simp only [go_sem, simprocAttr, h0, h2, h4, h29, Mem.marked, Stt.marked, mrow_len]
    repeat' (refine And.intro (by first | omega | (exact ⟨[0, 1, 0, 7, 0, 31, 63, 0, 255], by kernel_rfl⟩) | kernel_rfl) ?_)
    refine dS_call_ro rfl (sat_spec_Run ?_ ?_ ?_ ?hp0 ?hp1 ?hp2) ?ha ?hv ?hh ?_
    case ha => simp only [go_sem, simprocAttr, h0, h2, h4, h29, Mem.marked, Stt.marked, mrow_len]; first | done | rfl
    case hp0 => first | exact f1.1 | exact f2.1 | exact f3 | assumption | omega
    case hp1 => first | exact f1.1 | exact f2.1 | exact f3 | assumption | omega
    case hp2 => first | exact f1.1 | exact f2.1 | exact f3 | assumption | omega
    case hv => first | rfl | (simp only [go_sem]; done)
    case hh => first | rfl | (simp only [go_sem]; done)
    try simp only [go_sem, simprocAttr, h0, h2, h4, h29, Mem.marked, Stt.marked, mrow_len]
    repeat' (refine And.intro (by first | omega | (exact ⟨[0, 1, 0, 7, 0, 31, 63, 0, 255], by kernel_rfl⟩) | kernel_rfl) ?_)
    refine hK _ _ ⟨_, _, Wk.keep [0, 9, 6, 7, 8] rfl, awl_live' [0, 2, 4, 8] fun ρ hL => ?_⟩
    try simp only [go_sem, simprocAttr, h0, h2, h4, h29, Mem.marked, Stt.marked, mrow_len] at hL
    try clear h0 h2 h4 h29
    obtain ⟨h0, h2, h4, h8⟩ := hL
    try simp only [go_sem, simprocAttr, Mem.marked, Stt.marked, mrow_len]
    clear hK K
    refine awl_seq ?_
    refine awl_regS _ rfl fun K hK => ?_
    try simp only [go_sem, simprocAttr, h0, h2, h4, h8, Mem.marked, Stt.marked, mrow_len]
    repeat' (refine And.intro (by first | exact f1.1 | exact f2.1 | exact f3 | assumption | omega) ?_)
    refine opS_call_ro rfl (sat_laws_toInsS ?_ ?hp0) ?ha ?hv ?hh ?_
    case ha => simp only [go_sem, simprocAttr, h0, h2, h4, h8, Mem.marked, Stt.marked, mrow_len]; first | done | rfl
    case hp0 => first | exact f1.1 | exact f2.1 | exact f3 | assumption | omega
    case hv => first | rfl | (simp only [go_sem]; done)
    case hh => first | rfl | (simp only [go_sem]; done)
    try simp only [go_sem, simprocAttr, h0, h2, h4, h8, Mem.marked, Stt.marked, mrow_len]
    repeat' (refine And.intro (by first | exact f1.1 | exact f2.1 | exact f3 | assumption | omega) ?_)
    refine hK _ _ ⟨_, _, Wk.keep [0, 1, 2, 3, 4, 5] rfl, awl_live' [0, 2, 4, 8, 9] fun ρ hL => ?_⟩
    try simp only [go_sem, simprocAttr, h0, h2, h4, h8, Mem.marked, Stt.marked, mrow_len] at hL
    try clear h0 h2 h4 h8
    obtain ⟨h0, h2, h4, h8, h9⟩ := hL
    try simp only [go_sem, simprocAttr, Mem.marked, Stt.marked, mrow_len]
    clear hK K
    refine awl_seq ?_
    refine awl_regS _ rfl fun K hK => ?_
    try simp only [go_sem, simprocAttr, h0, h2, h4, h8, h9, Mem.marked, Stt.marked, mrow_len]
    repeat' (refine And.intro (by first | exact f1.1 | exact f2.1 | exact f3 | assumption | omega) ?_)
    refine opS_call_ro rfl (sat_laws_toState ?_ ?hp0) ?ha ?hv ?hh ?_
    case ha => simp only [go_sem, simprocAttr, h0, h2, h4, h8, h9, Mem.marked, Stt.marked, mrow_len]; first | done | rfl
    case hp0 => first | exact f1.1 | exact f2.1 | exact f3 | assumption | omega
    case hv => first | rfl | (simp only [go_sem]; done)
    case hh => first | rfl | (simp only [go_sem]; done)
    try simp only [go_sem, simprocAttr, h0, h2, h4, h8, h9, Mem.marked, Stt.marked, mrow_len]
    repeat' (refine And.intro (by first | exact f1.1 | exact f2.1 | exact f3 | assumption | omega) ?_)
    refine hK _ _ ⟨_, _, Wk.keep [0, 1, 2, 3, 4, 5, 9, 6, 7, 8] rfl, awl_live' [0, 2, 4, 8, 9, 10] fun ρ hL => ?_⟩
    try simp only [go_sem, simprocAttr, h0, h2, h4, h8, h9, Mem.marked, Stt.marked, mrow_len] at hL
    try clear h0 h2 h4 h8 h9
    obtain ⟨h0, h2, h4, h8, h9, h10⟩ := hL
    try simp only [go_sem, simprocAttr, Mem.marked, Stt.marked, mrow_len]
    clear hK K
    refine awl_seq ?_
    refine awl_regS _ rfl fun K hK => ?_
    try simp only [go_sem, simprocAttr, h0, h2, h4, h8, h9, h10, Mem.marked, Stt.marked, mrow_len]
    repeat' (refine And.intro (by first | exact f1.1 | exact f2.1 | exact f3 | assumption | omega) ?_)
    refine opS_call_ro rfl (sat_laws_toIntS ?_ ?_ ?hp0) ?ha ?hv ?hh ?_
    case ha => simp only [go_sem, simprocAttr, h0, h2, h4, h8, h9, h10, Mem.marked, Stt.marked, mrow_len]; first | done | rfl
    case hp0 => first | exact f1.1 | exact f2.1 | exact f3 | assumption | omega
    case hv => first | rfl | (simp only [go_sem]; done)
    case hh => first | rfl | (simp only [go_sem]; done)
    try simp only [go_sem, simprocAttr, h0, h2, h4, h8, h9, h10, Mem.marked, Stt.marked, mrow_len]
    repeat' (refine And.intro (by first | exact f1.1 | exact f2.1 | exact f3 | assumption | omega) ?_)
    refine hK _ _ ⟨_, _, Wk.keep [0, 1, 2, 3, 4, 5, 6, 7, 8, 9, 10] rfl, awl_live' [0, 2, 4, 8, 9, 10, 11] fun ρ hL => ?_⟩
    try simp only [go_sem, simprocAttr, h0, h2, h4, h8, h9, h10, Mem.marked, Stt.marked, mrow_len] at hL
    try clear h0 h2 h4 h8 h9 h10
    obtain ⟨h0, h2, h4, h8, h9, h10, h11⟩ := hL
    try simp only [go_sem, simprocAttr, Mem.marked, Stt.marked, mrow_len]
    clear hK K
    refine awl_seq ?_
    refine awl_regS _ rfl fun K hK => ?_
    try simp only [go_sem, simprocAttr, h0, h2, h4, h8, h9, h10, h11, Mem.marked, Stt.marked, mrow_len]
    repeat' (refine And.intro (by first | exact f1.1 | exact f2.1 | exact f3 | assumption | omega) ?_)
    refine opS_call_ro rfl (sat_impl_Run ?_ ?_ ?_ ?hp0 ?hp1 ?hp2) ?ha ?hv ?hh ?_
    case ha => simp only [go_sem, simprocAttr, h0, h2, h4, h8, h9, h10, h11, Mem.marked, Stt.marked, mrow_len]; first | done | rfl
    case hp0 => first | exact f1.1 | exact f2.1 | exact f3 | assumption | omega
    case hp1 => first | exact f1.1 | exact f2.1 | exact f3 | assumption | omega
    case hp2 => first | exact f1.1 | exact f2.1 | exact f3 | assumption | omega
    case hv => first | rfl | (simp only [go_sem]; done)
    case hh => first | rfl | (simp only [go_sem]; done)
    try simp only [go_sem, simprocAttr, h0, h2, h4, h8, h9, h10, h11, Mem.marked, Stt.marked, mrow_len]
    repeat' (refine And.intro (by first | exact f1.1 | exact f2.1 | exact f3 | assumption | omega) ?_)
    refine hK _ _ ⟨_, _, Wk.keep [0, 1, 2, 3, 4, 5, 6, 7, 8, 9, 10, 14, 11, 12, 13] rfl, awl_live' [0, 2, 4, 8, 9, 10, 11, 12] fun ρ hL => ?_⟩
    try simp only [go_sem, simprocAttr, h0, h2, h4, h8, h9, h10, h11, Mem.marked, Stt.marked, mrow_len] at hL
    try clear h0 h2 h4 h8 h9 h10 h11
    obtain ⟨h0, h2, h4, h8, h9, h10, h11, h12⟩ := hL
    try simp only [go_sem, simprocAttr, Mem.marked, Stt.marked, mrow_len]
    clear hK K
    refine awl_seq ?_
    refine awl_seq ?_
    refine awl_regS _ rfl fun K hK => ?_
    try simp only [go_sem, simprocAttr, h0, h2, h4, h8, h9, h10, h11, h12, Mem.marked, Stt.marked, mrow_len]
    repeat' (refine And.intro (by first | exact f1.1 | exact f2.1 | exact f3 | assumption | omega) ?_)
    refine opS_call_ro rfl (sat_laws_eqState (run l s ns) (run l s ns) f3) ?ha ?hv ?hh ?_
    case ha => simp only [go_sem, simprocAttr, h0, h2, h4, h8, h9, h10, h11, h12, Mem.marked, Stt.marked, mrow_len]; first | done | rfl
    case hv => first | rfl | (simp only [go_sem]; done)
    case hh => first | rfl | (simp only [go_sem]; done)
    try simp only [go_sem, simprocAttr, h0, h2, h4, h8, h9, h10, h11, h12, Mem.marked, Stt.marked, mrow_len]
    repeat' (refine And.intro (by first | exact f1.1 | exact f2.1 | exact f3 | assumption | omega) ?_)
    refine hK _ _ ⟨_, _, Wk.keep [0, 1, 2, 3, 4, 5, 6, 7, 8, 9, 10, 11, 12, 13, 14] rfl, awl_live' [0, 2, 4, 8, 9, 10, 11, 12, 50] fun ρ hL => ?_⟩
    try simp only [go_sem, simprocAttr, h0, h2, h4, h8, h9, h10, h11, h12, Mem.marked, Stt.marked, mrow_len] at hL
    try clear h0 h2 h4 h8 h9 h10 h11 h12
    obtain ⟨h0, h2, h4, h8, h9, h10, h11, h12, h50⟩ := hL
    try simp only [go_sem, simprocAttr, Mem.marked, Stt.marked, mrow_len]
    clear hK K
    refine awl_cond h50 (fun c4 => ?_) (fun c4 => ?_)
    ·
     try simp only [cnd] at c4
     first | done | (simp at c4; done) | (simp at c4; omega) | omega
    ·
     try simp only [cnd] at c4
     refine awl_skip ?_
     refine awl_seq ?_
     refine awl_seq ?_
     refine awl_regS _ rfl fun K hK => ?_
     try simp only [go_sem, simprocAttr, h0, h2, h4, h8, h9, h10, h11, h12, h50, Mem.marked, Stt.marked, mrow_len]
     repeat' (refine And.intro (by first | exact f1.1 | exact f2.1 | exact f3 | assumption | omega) ?_)
     refine opS_call_ro rfl (sat_laws_toInsS ?_ ?hp0) ?ha ?hv ?hh ?_
     case ha => simp only [go_sem, simprocAttr, h0, h2, h4, h8, h9, h10, h11, h12, h50, Mem.marked, Stt.marked, mrow_len]; first | done | rfl
     case hp0 => first | exact f1.1 | exact f2.1 | exact f3 | assumption | omega
     case hv => first | rfl | (simp only [go_sem]; done)
     case hh => first | rfl | (simp only [go_sem]; done)
     try simp only [go_sem, simprocAttr, h0, h2, h4, h8, h9, h10, h11, h12, h50, Mem.marked, Stt.marked, mrow_len]
     repeat' (refine And.intro (by first | exact f1.1 | exact f2.1 | exact f3 | assumption | omega) ?_)
     refine opS_call_ro rfl (sat_laws_eqInsS ?_ ?_ ?hp0) ?ha ?hv ?hh ?_
     case ha => simp only [go_sem, simprocAttr, h0, h2, h4, h8, h9, h10, h11, h12, h50, Mem.marked, Stt.marked, mrow_len]; first | done | rfl
     case hp0 => first | exact f1.1 | exact f2.1 | exact f3 | assumption | omega
     case hv => first | rfl | (simp only [go_sem]; done)
     case hh => first | rfl | (simp only [go_sem]; done)
     try simp only [go_sem, simprocAttr, h0, h2, h4, h8, h9, h10, h11, h12, h50, Mem.marked, Stt.marked, mrow_len]
     repeat' (refine And.intro (by first | exact f1.1 | exact f2.1 | exact f3 | assumption | omega) ?_)
     refine hK _ _ ⟨_, _, Wk.keep [0, 1, 2, 3, 4, 5, 6, 7, 8, 9, 10, 11, 12, 13, 14] rfl, awl_live' [0, 2, 4, 8, 9, 10, 11, 12, 55] fun ρ hL => ?_⟩
     try simp only [go_sem, simprocAttr, h0, h2, h4, h8, h9, h10, h11, h12, h50, Mem.marked, Stt.marked, mrow_len] at hL
     try clear h0 h2 h4 h8 h9 h10 h11 h12 h50
     obtain ⟨h0, h2, h4, h8, h9, h10, h11, h12, h55⟩ := hL
     try simp only [go_sem, simprocAttr, Mem.marked, Stt.marked, mrow_len]
     clear hK K
     refine awl_cond h55 (fun c5 => ?_) (fun c5 => ?_)
     ·
      try simp only [cnd] at c5
      first | done | (simp at c5; done) | (simp at c5; omega) | omega
     ·
      try simp only [cnd] at c5
      refine awl_skip ?_
      refine awl_seq ?_
      refine awl_seq ?_
      refine awl_regD mixed _ rfl fun K hK => ?_
      try simp only [go_sem, simprocAttr, h0, h2, h4, h8, h9, h10, h11, h12, h55, Mem.marked, Stt.marked, mrow_len]
      repeat' (refine And.intro (by first | omega | (exact ⟨[0, 0, 2, 7, 15], by kernel_rfl⟩) | kernel_rfl) ?_)
      refine dS_call_ro rfl (sat_laws_toState ?_ ?hp0) ?ha ?hv ?hh ?_
      case ha => simp only [go_sem, simprocAttr, h0, h2, h4, h8, h9, h10, h11, h12, h55, Mem.marked, Stt.marked, mrow_len]; first | done | rfl
      case hp0 => first | exact f1.1 | exact f2.1 | exact f3 | assumption | omega
      case hv => first | rfl | (simp only [go_sem]; done)
      case hh => first | rfl | (simp only [go_sem]; done)
      try simp only [go_sem, simprocAttr, h0, h2, h4, h8, h9, h10, h11, h12, h55, Mem.marked, Stt.marked, mrow_len]
      repeat' (refine And.intro (by first | omega | (exact ⟨[0, 0, 2, 7, 15], by kernel_rfl⟩) | kernel_rfl) ?_)
      refine dS_call_ro rfl (sat_laws_eqState s s f2.1) ?ha ?hv ?hh ?_
      case ha => simp only [go_sem, simprocAttr, h0, h2, h4, h8, h9, h10, h11, h12, h55, Mem.marked, Stt.marked, mrow_len]; first | done | rfl
      case hv => first | rfl | (simp only [go_sem]; done)
      case hh => first | rfl | (simp only [go_sem]; done)
      try simp only [go_sem, simprocAttr, h0, h2, h4, h8, h9, h10, h11, h12, h55, Mem.marked, Stt.marked, mrow_len]
      repeat' (refine And.intro (by first | omega | (exact ⟨[0, 0, 2, 7, 15], by kernel_rfl⟩) | kernel_rfl) ?_)
      refine hK _ _ ⟨_, _, Wk.keep [0, 1, 2, 3, 4, 5, 6, 7, 8, 9, 10, 11, 12, 13, 14] rfl, awl_live' [0, 2, 4, 8, 9, 10, 11, 12, 60] fun ρ hL => ?_⟩
      try simp only [go_sem, simprocAttr, h0, h2, h4, h8, h9, h10, h11, h12, h55, Mem.marked, Stt.marked, mrow_len] at hL
      try clear h0 h2 h4 h8 h9 h10 h11 h12 h55
      obtain ⟨h0, h2, h4, h8, h9, h10, h11, h12, h60⟩ := hL
      try simp only [go_sem, simprocAttr, Mem.marked, Stt.marked, mrow_len]
      clear hK K
      refine awl_cond h60 (fun c6 => ?_) (fun c6 => ?_)
      ·
       try simp only [cnd] at c6
       first | done | (simp at c6; done) | (simp at c6; omega) | omega
      ·
       try simp only [cnd] at c6
       refine awl_skip ?_
       refine awl_seq ?_
       refine awl_seq ?_
       refine awl_regS _ rfl fun K hK => ?_
       try simp only [go_sem, simprocAttr, h0, h2, h4, h8, h9, h10, h11, h12, h60, Mem.marked, Stt.marked, mrow_len]
       repeat' (refine And.intro (by first | exact f1.1 | exact f2.1 | exact f3 | assumption | omega) ?_)
       refine opS_call_ro rfl (sat_laws_toIntS ?_ ?_ ?hp0) ?ha ?hv ?hh ?_
       case ha => simp only [go_sem, simprocAttr, h0, h2, h4, h8, h9, h10, h11, h12, h60, Mem.marked, Stt.marked, mrow_len]; first | done | rfl
       case hp0 => first | exact f1.1 | exact f2.1 | exact f3 | assumption | omega
       case hv => first | rfl | (simp only [go_sem]; done)
       case hh => first | rfl | (simp only [go_sem]; done)
       try simp only [go_sem, simprocAttr, h0, h2, h4, h8, h9, h10, h11, h12, h60, Mem.marked, Stt.marked, mrow_len]
       repeat' (refine And.intro (by first | exact f1.1 | exact f2.1 | exact f3 | assumption | omega) ?_)
       refine opS_call_ro rfl (sat_laws_eqIntS ?_ ?_ ?_ ?_ ?hp0) ?ha ?hv ?hh ?_
       case ha => simp only [go_sem, simprocAttr, h0, h2, h4, h8, h9, h10, h11, h12, h60, Mem.marked, Stt.marked, mrow_len]; first | done | rfl
       case hp0 => first | exact f1.1 | exact f2.1 | exact f3 | assumption | omega
       case hv => first | rfl | (simp only [go_sem]; done)
       case hh => first | rfl | (simp only [go_sem]; done)
       try simp only [go_sem, simprocAttr, h0, h2, h4, h8, h9, h10, h11, h12, h60, Mem.marked, Stt.marked, mrow_len]
       repeat' (refine And.intro (by first | exact f1.1 | exact f2.1 | exact f3 | assumption | omega) ?_)
       refine hK _ _ ⟨_, _, Wk.keep [0, 1, 2, 3, 4, 5, 6, 7, 8, 9, 10, 11, 12, 13, 14] rfl, awl_live' [0, 2, 4, 8, 9, 10, 11, 12, 65] fun ρ hL => ?_⟩
       try simp only [go_sem, simprocAttr, h0, h2, h4, h8, h9, h10, h11, h12, h60, Mem.marked, Stt.marked, mrow_len] at hL
       try clear h0 h2 h4 h8 h9 h10 h11 h12 h60
       obtain ⟨h0, h2, h4, h8, h9, h10, h11, h12, h65⟩ := hL
       try simp only [go_sem, simprocAttr, Mem.marked, Stt.marked, mrow_len]
       clear hK K
       refine awl_cond h65 (fun c7 => ?_) (fun c7 => ?_)
       ·
        try simp only [cnd] at c7
        first | done | (simp at c7; done) | (simp at c7; omega) | omega
       ·
        try simp only [cnd] at c7
        refine awl_skip ?_
        refine awl_seq ?_
        refine awl_regS _ rfl fun K hK => ?_
        try simp only [go_sem, simprocAttr, h0, h2, h4, h8, h9, h10, h11, h12, h65, Mem.marked, Stt.marked, mrow_len]
        repeat' (refine And.intro (by first | exact f1.1 | exact f2.1 | exact f3 | assumption | omega) ?_)
        refine hK _ _ ⟨_, _, Wk.keep [0, 1, 2, 3, 4, 5, 6, 7, 8, 9, 10, 11, 12, 13, 14] rfl, awl_live' [0, 2, 4, 8, 9, 10, 11, 12, 13] fun ρ hL => ?_⟩
        try simp only [go_sem, simprocAttr, h0, h2, h4, h8, h9, h10, h11, h12, h65, Mem.marked, Stt.marked, mrow_len] at hL
        try clear h0 h2 h4 h8 h9 h10 h11 h12 h65
        obtain ⟨h0, h2, h4, h8, h9, h10, h11, h12, h13⟩ := hL
        try simp only [go_sem, simprocAttr, Mem.marked, Stt.marked, mrow_len]
        clear hK K
        refine awl_seq ?_
        refine awl_regS _ rfl fun K hK => ?_
        try simp only [go_sem, simprocAttr, h0, h2, h4, h8, h9, h10, h11, h12, h13, Mem.marked, Stt.marked, mrow_len]
        repeat' (refine And.intro (by first | exact f1.1 | exact f2.1 | exact f3 | assumption | omega) ?_)
        refine opS_call_in [5] rfl (sat_laws_markInsS ?_ ?_ ?_ ?hp0 ?hp1) ?ha ?hb ?hv ?hh (by decide) rfl ?_
        case ha => simp only [go_sem, simprocAttr, h0, h2, h4, h8, h9, h10, h11, h12, h13, Mem.marked, Stt.marked, mrow_len]; first | done | rfl
        case hb => simp only [go_sem, simprocAttr, h0, h2, h4, h8, h9, h10, h11, h12, h13, Mem.marked, Stt.marked, mrow_len]; first | done | rfl
        case hp0 => first | exact f1.1 | exact f2.1 | exact f3 | assumption | omega
        case hp1 => first | exact f1.1 | exact f2.1 | exact f3 | assumption | omega
        case hv => first | rfl | (simp only [go_sem]; done)
        case hh => first | rfl | (simp only [go_sem]; done)
        try simp only [go_sem, simprocAttr, h0, h2, h4, h8, h9, h10, h11, h12, h13, Mem.marked, Stt.marked, mrow_len]
        repeat' (refine And.intro (by first | exact f1.1 | exact f2.1 | exact f3 | assumption | omega) ?_)
        refine hK _ _ ⟨_, _, Wk.keep [0, 1, 2, 3, 4, 6, 7, 8, 9, 10, 11, 12, 13, 14] rfl, awl_live' [0, 2, 4, 8, 10, 11, 12, 13] fun ρ hL => ?_⟩
        try simp only [go_sem, simprocAttr, h0, h2, h4, h8, h9, h10, h11, h12, h13, Mem.marked, Stt.marked, mrow_len] at hL
        try clear h0 h2 h4 h8 h9 h10 h11 h12 h13
        obtain ⟨h0, h2, h4, h8, h10, h11, h12, h13⟩ := hL
        try simp only [go_sem, simprocAttr, Mem.marked, Stt.marked, mrow_len]
        clear hK K
        refine awl_seq ?_
        refine awl_regS _ rfl fun K hK => ?_
        try simp only [go_sem, simprocAttr, h0, h2, h4, h8, h10, h11, h12, h13, Mem.marked, Stt.marked, mrow_len]
        repeat' (refine And.intro (by first | exact f1.1 | exact f2.1 | exact f3 | assumption | omega) ?_)
        refine opS_call_in [6, 7, 8] rfl (sat_laws_markState s (1 + (5 * l.length : Nat)) f2.1 (by omega)) ?ha ?hb ?hv ?hh (by decide) rfl ?_
        case ha => simp only [go_sem, simprocAttr, h0, h2, h4, h8, h10, h11, h12, h13, Mem.marked, Stt.marked, mrow_len]; first | done | rfl
        case hb => simp only [go_sem, simprocAttr, h0, h2, h4, h8, h10, h11, h12, h13, Mem.marked, Stt.marked, mrow_len]; first | done | rfl
        case hv => first | rfl | (simp only [go_sem]; done)
        case hh => first | rfl | (simp only [go_sem]; done)
        try simp only [go_sem, simprocAttr, h0, h2, h4, h8, h10, h11, h12, h13, Mem.marked, Stt.marked, mrow_len]
        repeat' (refine And.intro (by first | exact f1.1 | exact f2.1 | exact f3 | assumption | omega) ?_)
        refine hK _ _ ⟨_, _, Wk.keep [0, 1, 2, 3, 4, 9, 10, 11, 12, 13] rfl, awl_live' [0, 2, 4, 8, 11, 12, 13] fun ρ hL => ?_⟩
        try simp only [go_sem, simprocAttr, h0, h2, h4, h8, h10, h11, h12, h13, Mem.marked, Stt.marked, mrow_len] at hL
        try clear h0 h2 h4 h8 h10 h11 h12 h13
        obtain ⟨h0, h2, h4, h8, h11, h12, h13⟩ := hL
        try simp only [go_sem, simprocAttr, Mem.marked, Stt.marked, mrow_len]
        clear hK K
        refine awl_seq ?_
        refine awl_regS _ rfl fun K hK => ?_
        try simp only [go_sem, simprocAttr, h0, h2, h4, h8, h11, h12, h13, Mem.marked, Stt.marked, mrow_len]
        repeat' (refine And.intro (by first | exact f1.1 | exact f2.1 | exact f3 | assumption | omega) ?_)
        refine opS_call_in [5] rfl (sat_laws_markIntS ?_ ?_ ?_ ?hp0 ?hp1) ?ha ?hb ?hv ?hh (by decide) rfl ?_
        case ha => simp only [go_sem, simprocAttr, h0, h2, h4, h8, h11, h12, h13, Mem.marked, Stt.marked, mrow_len]; first | done | rfl
        case hb => simp only [go_sem, simprocAttr, h0, h2, h4, h8, h11, h12, h13, Mem.marked, Stt.marked, mrow_len]; first | done | rfl
        case hp0 => first | exact f1.1 | exact f2.1 | exact f3 | assumption | omega
        case hp1 => first | exact f1.1 | exact f2.1 | exact f3 | assumption | omega
        case hv => first | rfl | (simp only [go_sem]; done)
        case hh => first | rfl | (simp only [go_sem]; done)
        try simp only [go_sem, simprocAttr, h0, h2, h4, h8, h11, h12, h13, Mem.marked, Stt.marked, mrow_len]
        repeat' (refine And.intro (by first | exact f1.1 | exact f2.1 | exact f3 | assumption | omega) ?_)
        refine hK _ _ ⟨_, _, Wk.keep [0, 1, 2, 3, 4, 6, 7, 8, 9] rfl, awl_live' [0, 2, 4, 8, 12, 13] fun ρ hL => ?_⟩
        try simp only [go_sem, simprocAttr, h0, h2, h4, h8, h11, h12, h13, Mem.marked, Stt.marked, mrow_len] at hL
        try clear h0 h2 h4 h8 h11 h12 h13
        obtain ⟨h0, h2, h4, h8, h12, h13⟩ := hL
        try simp only [go_sem, simprocAttr, Mem.marked, Stt.marked, mrow_len]
        clear hK K
        refine awl_seq ?_
        refine awl_seq ?_
        refine awl_regS _ rfl fun K hK => ?_
        try simp only [go_sem, simprocAttr, h0, h2, h4, h8, h12, h13, Mem.marked, Stt.marked, mrow_len]
        repeat' (refine And.intro (by first | exact f1.1 | exact f2.1 | exact f3 | assumption | omega) ?_)
        refine awpS_live [0, 2, 4, 8, 12, 77] fun ρ hL => ?_
        try simp only [go_sem, simprocAttr, h0, h2, h4, h8, h12, h13, Mem.marked, Stt.marked, mrow_len] at hL
        try clear h0 h2 h4 h8 h12 h13
        obtain ⟨h0, h2, h4, h8, h12, h77⟩ := hL
        refine grp_orN (tc := 77) (tv := 81) (td := 82) (v := ?v1) 4 rfl [0, 2, 4, 8, 12] h77 rfl (fun hb K1 hK1 => ?run) (fun hb => ?skip) (fun ρ hP hL => ?_)
        case skip =>
         exact awpS_skip (want := false) (b := _) (by rw [hb]; rfl) _ [] ρ h77 (fun _ _ => rfl) (by simp) rfl
        case run =>
         simp only [List.take_succ_cons, List.take_zero]
         rw [hb] at h77
         try simp only [go_sem, simprocAttr, h0, h2, h4, h8, h12, h77, Mem.marked, Stt.marked, mrow_len]
         repeat' (refine And.intro (by first | exact f1.1 | exact f2.1 | exact f3 | assumption | omega) ?_)
         refine opS_call_ro rfl (sat_laws_eqState (run l s ns) (run l s ns) f3) ?ha ?hv ?hh ?_
         case ha => simp only [go_sem, simprocAttr, h0, h2, h4, h8, h12, h77, Mem.marked, Stt.marked, mrow_len]; first | done | rfl
         case hv => first | rfl | (simp only [go_sem]; done)
         case hh => first | rfl | (simp only [go_sem]; done)
         try simp only [go_sem, simprocAttr, h0, h2, h4, h8, h12, h77, Mem.marked, Stt.marked, mrow_len]
         repeat' (refine And.intro (by first | exact f1.1 | exact f2.1 | exact f3 | assumption | omega) ?_)
         exact hK1 _ (by simp only [go_sem, simprocAttr, h0, h2, h4, h8, h12, h77, Mem.marked, Stt.marked, mrow_len]) (by simp only [go_sem, simprocAttr, h0, h2, h4, h8, h12, h77, Mem.marked, Stt.marked, mrow_len]; exact rfl) (by simp only [go_sem, simprocAttr, h0, h2, h4, h8, h12, h77, Mem.marked, Stt.marked, mrow_len])
        simp only [List.drop_succ_cons, List.drop_zero]
        try simp only [go_sem, simprocAttr, h0, h2, h4, h8, h12, h77, Mem.marked, Stt.marked, mrow_len] at hL
        try clear h0 h2 h4 h8 h12 h77
        obtain ⟨h0, h2, h4, h8, h12⟩ := hL
        have h82 := hP
        clear hP
        try simp only [go_sem, simprocAttr, h0, h2, h4, h8, h12, h82, Mem.marked, Stt.marked, mrow_len]
        repeat' (refine And.intro (by first | exact f1.1 | exact f2.1 | exact f3 | assumption | omega) ?_)
        refine hK _ _ ⟨_, _, Wk.keep [0, 1, 2, 3, 4, 5, 6, 7, 8] rfl, awl_live' [0, 2, 4, 8, 12, 82] fun ρ hL => ?_⟩
        try simp only [go_sem, simprocAttr, h0, h2, h4, h8, h12, h82, Mem.marked, Stt.marked, mrow_len] at hL
        try clear h0 h2 h4 h8 h12 h82
        obtain ⟨h0, h2, h4, h8, h12, h82⟩ := hL
        try simp only [go_sem, simprocAttr, Mem.marked, Stt.marked, mrow_len]
        clear hK K
        refine awl_cond h82 (fun c8 => ?_) (fun c8 => ?_)
        ·
         try simp only [cnd] at c8
         first | done | (simp at c8; done) | (simp at c8; omega) | omega
        ·
         try simp only [cnd] at c8
         refine awl_skip ?_
         refine awl_seq ?_
         refine awl_regS _ rfl fun K hK => ?_
         try simp only [go_sem, simprocAttr, h0, h2, h4, h8, h12, h82, Mem.marked, Stt.marked, mrow_len]
         repeat' (refine And.intro (by first | exact f1.1 | exact f2.1 | exact f3 | assumption | omega) ?_)
         refine hK _ _ ⟨_, _, Wk.keep [0, 1, 2, 3, 4, 5, 6, 7, 8] rfl, awl_live' [0, 2, 4, 8, 12, 14] fun ρ hL => ?_⟩
         try simp only [go_sem, simprocAttr, h0, h2, h4, h8, h12, h82, Mem.marked, Stt.marked, mrow_len] at hL
         try clear h0 h2 h4 h8 h12 h82
         obtain ⟨h0, h2, h4, h8, h12, h14⟩ := hL
         try simp only [go_sem, simprocAttr, Mem.marked, Stt.marked, mrow_len]
         clear hK K
         refine awl_seq ?_
         refine awl_regS _ rfl fun K hK => ?_
         try simp only [go_sem, simprocAttr, h0, h2, h4, h8, h12, h14, Mem.marked, Stt.marked, mrow_len]
         repeat' (refine And.intro (by first | exact f1.1 | exact f2.1 | exact f3 | assumption | omega) ?_)
         refine opS_call_in [6, 7, 8] rfl (sat_laws_markState (run l s ns) 1 f3 (by decide)) ?ha ?hb ?hv ?hh (by decide) rfl ?_
         case ha => simp only [go_sem, simprocAttr, h0, h2, h4, h8, h12, h14, Mem.marked, Stt.marked, mrow_len]; first | done | rfl
         case hb => simp only [go_sem, simprocAttr, h0, h2, h4, h8, h12, h14, Mem.marked, Stt.marked, mrow_len]; first | done | rfl
         case hv => first | rfl | (simp only [go_sem]; done)
         case hh => first | rfl | (simp only [go_sem]; done)
         try simp only [go_sem, simprocAttr, h0, h2, h4, h8, h12, h14, Mem.marked, Stt.marked, mrow_len]
         repeat' (refine And.intro (by first | exact f1.1 | exact f2.1 | exact f3 | assumption | omega) ?_)
         refine hK _ _ ⟨_, _, Wk.keep [0, 1, 2, 3, 4, 5, 6, 7, 8] rfl, awl_live' [0, 2, 4, 8, 12, 14] fun ρ hL => ?_⟩
         try simp only [go_sem, simprocAttr, h0, h2, h4, h8, h12, h14, Mem.marked, Stt.marked, mrow_len] at hL
         try clear h0 h2 h4 h8 h12 h14
         obtain ⟨h0, h2, h4, h8, h12, h14⟩ := hL
         try simp only [go_sem, simprocAttr, Mem.marked, Stt.marked, mrow_len]
         clear hK K
         refine awl_seq ?_
         refine awl_regS _ rfl fun K hK => ?_
         try simp only [go_sem, simprocAttr, h0, h2, h4, h8, h12, h14, Mem.marked, Stt.marked, mrow_len]
         repeat' (refine And.intro (by first | exact f1.1 | exact f2.1 | exact f3 | assumption | omega) ?_)
         refine hK _ _ ⟨_, _, Wk.keep [0, 1, 2, 3, 4, 5, 6, 7, 8] rfl, awl_live' [0, 2, 4, 8, 12, 14, 15] fun ρ hL => ?_⟩
         try simp only [go_sem, simprocAttr, h0, h2, h4, h8, h12, h14, Mem.marked, Stt.marked, mrow_len] at hL
         try clear h0 h2 h4 h8 h12 h14
         obtain ⟨h0, h2, h4, h8, h12, h14, h15⟩ := hL
         try simp only [go_sem, simprocAttr, Mem.marked, Stt.marked, mrow_len]
         clear hK K
         refine awl_seq ?_
         refine awl_regS _ rfl fun K hK => ?_
         try simp only [go_sem, simprocAttr, h0, h2, h4, h8, h12, h14, h15, Mem.marked, Stt.marked, mrow_len]
         repeat' (refine And.intro (by first | exact f1.1 | exact f2.1 | exact f3 | assumption | omega) ?_)
         refine opS_call_ro rfl (sat_laws_heldState (run l s ns) 1 f3 (by decide)) ?ha ?hv ?hh ?_
         case ha => simp only [go_sem, simprocAttr, h0, h2, h4, h8, h12, h14, h15, Mem.marked, Stt.marked, mrow_len]; first | done | rfl
         case hv => first | rfl | (simp only [go_sem]; done)
         case hh => first | rfl | (simp only [go_sem]; done)
         try simp only [go_sem, simprocAttr, h0, h2, h4, h8, h12, h14, h15, Mem.marked, Stt.marked, mrow_len]
         repeat' (refine And.intro (by first | exact f1.1 | exact f2.1 | exact f3 | assumption | omega) ?_)
         refine hK _ _ ⟨_, _, Wk.keep [0, 1, 2, 3, 4, 5, 6, 7, 8] rfl, awl_live' [0, 2, 4, 8, 12, 14, 15] fun ρ hL => ?_⟩
         try simp only [go_sem, simprocAttr, h0, h2, h4, h8, h12, h14, h15, Mem.marked, Stt.marked, mrow_len] at hL
         try clear h0 h2 h4 h8 h12 h14 h15
         obtain ⟨h0, h2, h4, h8, h12, h14, h15⟩ := hL
         try simp only [go_sem, simprocAttr, Mem.marked, Stt.marked, mrow_len]
         clear hK K
         refine awl_seq ?_
         refine awl_seq ?_
         refine awl_regS _ rfl fun K hK => ?_
         try simp only [go_sem, simprocAttr, h0, h2, h4, h8, h12, h14, h15, Mem.marked, Stt.marked, mrow_len]
         repeat' (refine And.intro (by first | exact f1.1 | exact f2.1 | exact f3 | assumption | omega) ?_)
         refine hK _ _ ⟨_, _, Wk.keep [0, 1, 2, 3, 4, 5, 6, 7, 8] rfl, awl_live' [0, 2, 4, 8, 12, 14, 15, 90] fun ρ hL => ?_⟩
         try simp only [go_sem, simprocAttr, h0, h2, h4, h8, h12, h14, h15, Mem.marked, Stt.marked, mrow_len] at hL
         try clear h0 h2 h4 h8 h12 h14 h15
         obtain ⟨h0, h2, h4, h8, h12, h14, h15, h90⟩ := hL
         try simp only [go_sem, simprocAttr, Mem.marked, Stt.marked, mrow_len]
         clear hK K
         refine awl_cond h90 (fun c9 => ?_) (fun c9 => ?_)
         ·
          try simp only [cnd] at c9
          first | done | (simp at c9; done) | (simp at c9; omega) | omega
         ·
          try simp only [cnd] at c9
          refine awl_skip ?_
          refine awl_seq ?_
          refine awl_seq ?_
          refine awl_regS _ rfl fun K hK => ?_
          try simp only [go_sem, simprocAttr, h0, h2, h4, h8, h12, h14, h15, h90, Mem.marked, Stt.marked, mrow_len]
          repeat' (refine And.intro (by first | exact f1.1 | exact f2.1 | exact f3 | assumption | omega) ?_)
          refine hK _ _ ⟨_, _, Wk.keep [0, 1, 2, 3, 4, 5, 6, 7, 8] rfl, awl_live' [0, 2, 4, 8, 12, 14, 93] fun ρ hL => ?_⟩
          try simp only [go_sem, simprocAttr, h0, h2, h4, h8, h12, h14, h15, h90, Mem.marked, Stt.marked, mrow_len] at hL
          try clear h0 h2 h4 h8 h12 h14 h15 h90
          obtain ⟨h0, h2, h4, h8, h12, h14, h93⟩ := hL
          try simp only [go_sem, simprocAttr, Mem.marked, Stt.marked, mrow_len]
          clear hK K
          refine awl_cond h93 (fun c10 => ?_) (fun c10 => ?_)
          ·
           try simp only [cnd] at c10
           first | done | (simp at c10; done) | (simp at c10; omega) | omega
          ·
           try simp only [cnd] at c10
           refine awl_skip ?_
           refine awl_seq ?_
           refine awl_regD mixed _ rfl fun K hK => ?_
           try simp only [go_sem, simprocAttr, h0, h2, h4, h8, h12, h14, h93, Mem.marked, Stt.marked, mrow_len]
           repeat' (refine And.intro (by first | omega | (exact ⟨[0, 1, 0, 7, 0, 31, 63, 0, 255], by kernel_rfl⟩) | kernel_rfl) ?_)
           refine dS_call_ro rfl (sat_laws_toInsS ?_ ?hp0) ?ha ?hv ?hh ?_
           case ha => simp only [go_sem, simprocAttr, h0, h2, h4, h8, h12, h14, h93, Mem.marked, Stt.marked, mrow_len]; first | done | rfl
           case hp0 => first | exact f1.1 | exact f2.1 | exact f3 | assumption | omega
           case hv => first | rfl | (simp only [go_sem]; done)
           case hh => first | rfl | (simp only [go_sem]; done)
           try simp only [go_sem, simprocAttr, h0, h2, h4, h8, h12, h14, h93, Mem.marked, Stt.marked, mrow_len]
           repeat' (refine And.intro (by first | omega | (exact ⟨[0, 1, 0, 7, 0, 31, 63, 0, 255], by kernel_rfl⟩) | kernel_rfl) ?_)
           refine dS_call_ro rfl (sat_laws_toState ?_ ?hp0) ?ha ?hv ?hh ?_
           case ha => simp only [go_sem, simprocAttr, h0, h2, h4, h8, h12, h14, h93, Mem.marked, Stt.marked, mrow_len]; first | done | rfl
           case hp0 => first | exact f1.1 | exact f2.1 | exact f3 | assumption | omega
           case hv => first | rfl | (simp only [go_sem]; done)
           case hh => first | rfl | (simp only [go_sem]; done)
           try simp only [go_sem, simprocAttr, h0, h2, h4, h8, h12, h14, h93, Mem.marked, Stt.marked, mrow_len]
           repeat' (refine And.intro (by first | omega | (exact ⟨[0, 1, 0, 7, 0, 31, 63, 0, 255], by kernel_rfl⟩) | kernel_rfl) ?_)
           refine dS_call_ro rfl (sat_laws_toIntS ?_ ?_ ?hp0) ?ha ?hv ?hh ?_
           case ha => simp only [go_sem, simprocAttr, h0, h2, h4, h8, h12, h14, h93, Mem.marked, Stt.marked, mrow_len]; first | done | rfl
           case hp0 => first | exact f1.1 | exact f2.1 | exact f3 | assumption | omega
           case hv => first | rfl | (simp only [go_sem]; done)
           case hh => first | rfl | (simp only [go_sem]; done)
           try simp only [go_sem, simprocAttr, h0, h2, h4, h8, h12, h14, h93, Mem.marked, Stt.marked, mrow_len]
           repeat' (refine And.intro (by first | omega | (exact ⟨[0, 1, 0, 7, 0, 31, 63, 0, 255], by kernel_rfl⟩) | kernel_rfl) ?_)
           refine dS_call_ro rfl (sat_impl_Run ?_ ?_ ?_ ?hp0 ?hp1 ?hp2) ?ha ?hv ?hh ?_
           case ha => simp only [go_sem, simprocAttr, h0, h2, h4, h8, h12, h14, h93, Mem.marked, Stt.marked, mrow_len]; first | done | rfl
           case hp0 => first | exact f1.1 | exact f2.1 | exact f3 | assumption | omega
           case hp1 => first | exact f1.1 | exact f2.1 | exact f3 | assumption | omega
           case hp2 => first | exact f1.1 | exact f2.1 | exact f3 | assumption | omega
           case hv => first | rfl | (simp only [go_sem]; done)
           case hh => first | rfl | (simp only [go_sem]; done)
           try simp only [go_sem, simprocAttr, h0, h2, h4, h8, h12, h14, h93, Mem.marked, Stt.marked, mrow_len]
           repeat' (refine And.intro (by first | omega | (exact ⟨[0, 1, 0, 7, 0, 31, 63, 0, 255], by kernel_rfl⟩) | kernel_rfl) ?_)
           refine hK _ _ ⟨_, _, Wk.keep [1, 2, 3, 4, 5, 6, 7, 8, 17, 14, 15, 16] rfl, awl_live' [8, 12, 14, 16] fun ρ hL => ?_⟩
           try simp only [go_sem, simprocAttr, h0, h2, h4, h8, h12, h14, h93, Mem.marked, Stt.marked, mrow_len] at hL
           try clear h0 h2 h4 h8 h12 h14 h93
           obtain ⟨h8, h12, h14, h16⟩ := hL
           try simp only [go_sem, simprocAttr, Mem.marked, Stt.marked, mrow_len]
           clear hK K
           refine awl_seq ?_
           refine awl_seq ?_
           refine awl_regS _ rfl fun K hK => ?_
           try simp only [go_sem, simprocAttr, h8, h12, h14, h16, Mem.marked, Stt.marked, mrow_len]
           repeat' (refine And.intro (by first | exact f1.1 | exact f2.1 | exact f3 | assumption | omega) ?_)
           refine opS_call_ro rfl (sat_laws_eqState (run l s ns) (run l s ns) f3) ?ha ?hv ?hh ?_
           case ha => simp only [go_sem, simprocAttr, h8, h12, h14, h16, Mem.marked, Stt.marked, mrow_len]; first | done | rfl
           case hv => first | rfl | (simp only [go_sem]; done)
           case hh => first | rfl | (simp only [go_sem]; done)
           try simp only [go_sem, simprocAttr, h8, h12, h14, h16, Mem.marked, Stt.marked, mrow_len]
           repeat' (refine And.intro (by first | exact f1.1 | exact f2.1 | exact f3 | assumption | omega) ?_)
           refine hK _ _ ⟨_, _, Wk.keep [4, 5, 6, 7] rfl, awl_live' [12, 14, 104] fun ρ hL => ?_⟩
           try simp only [go_sem, simprocAttr, h8, h12, h14, h16, Mem.marked, Stt.marked, mrow_len] at hL
           try clear h8 h12 h14 h16
           obtain ⟨h12, h14, h104⟩ := hL
           try simp only [go_sem, simprocAttr, Mem.marked, Stt.marked, mrow_len]
           clear hK K
           refine awl_cond h104 (fun c11 => ?_) (fun c11 => ?_)
           ·
            try simp only [cnd] at c11
            first | done | (simp at c11; done) | (simp at c11; omega) | omega
           ·
            try simp only [cnd] at c11
            refine awl_skip ?_
            refine awl_seq ?_
            refine awl_regS _ rfl fun K hK => ?_
            try simp only [go_sem, simprocAttr, h12, h14, h104, Mem.marked, Stt.marked, mrow_len]
            repeat' (refine And.intro (by first | exact f1.1 | exact f2.1 | exact f3 | assumption | omega) ?_)
            refine hK _ _ ⟨_, _, Wk.keep [0, 1, 2, 3] rfl, awl_live' [12, 14, 15] fun ρ hL => ?_⟩
            try simp only [go_sem, simprocAttr, h12, h14, h104, Mem.marked, Stt.marked, mrow_len] at hL
            try clear h12 h14 h104
            obtain ⟨h12, h14, h15⟩ := hL
            try simp only [go_sem, simprocAttr, Mem.marked, Stt.marked, mrow_len]
            clear hK K
            refine awl_seq ?_
            refine awl_regS _ rfl fun K hK => ?_
            try simp only [go_sem, simprocAttr, h12, h14, h15, Mem.marked, Stt.marked, mrow_len]
            repeat' (refine And.intro (by first | exact f1.1 | exact f2.1 | exact f3 | assumption | omega) ?_)
            refine opS_call_ro rfl (sat_laws_heldState (run l s ns) 1 f3 (by decide)) ?ha ?hv ?hh ?_
            case ha => simp only [go_sem, simprocAttr, h12, h14, h15, Mem.marked, Stt.marked, mrow_len]; first | done | rfl
            case hv => first | rfl | (simp only [go_sem]; done)
            case hh => first | rfl | (simp only [go_sem]; done)
            try simp only [go_sem, simprocAttr, h12, h14, h15, Mem.marked, Stt.marked, mrow_len]
            repeat' (refine And.intro (by first | exact f1.1 | exact f2.1 | exact f3 | assumption | omega) ?_)
            refine hK _ _ ⟨_, _, Wk.keep [] rfl, awl_live' [14, 15] fun ρ hL => ?_⟩
            try simp only [go_sem, simprocAttr, h12, h14, h15, Mem.marked, Stt.marked, mrow_len] at hL
            try clear h12 h14 h15
            obtain ⟨h14, h15⟩ := hL
            try simp only [go_sem, simprocAttr, Mem.marked, Stt.marked, mrow_len]
            clear hK K
            refine awl_seq ?_
            refine awl_seq ?_
            refine awl_regS _ rfl fun K hK => ?_
            try simp only [go_sem, simprocAttr, h14, h15, Mem.marked, Stt.marked, mrow_len]
            repeat' (refine And.intro (by first | exact f1.1 | exact f2.1 | exact f3 | assumption | omega) ?_)
            refine hK _ _ ⟨_, _, Wk.keep [] rfl, awl_live' [14, 15, 109] fun ρ hL => ?_⟩
            try simp only [go_sem, simprocAttr, h14, h15, Mem.marked, Stt.marked, mrow_len] at hL
            try clear h14 h15
            obtain ⟨h14, h15, h109⟩ := hL
            try simp only [go_sem, simprocAttr, Mem.marked, Stt.marked, mrow_len]
            clear hK K
            refine awl_cond h109 (fun c12 => ?_) (fun c12 => ?_)
            ·
             try simp only [cnd] at c12
             first | done | (simp at c12; done) | (simp at c12; omega) | omega
            ·
             try simp only [cnd] at c12
             refine awl_skip ?_
             refine awl_seq ?_
             refine awl_seq ?_
             refine awl_regS _ rfl fun K hK => ?_
             try simp only [go_sem, simprocAttr, h14, h15, h109, Mem.marked, Stt.marked, mrow_len]
             repeat' (refine And.intro (by first | exact f1.1 | exact f2.1 | exact f3 | assumption | omega) ?_)
             refine hK _ _ ⟨_, _, Wk.keep [] rfl, awl_live' [112] fun ρ hL => ?_⟩
             try simp only [go_sem, simprocAttr, h14, h15, h109, Mem.marked, Stt.marked, mrow_len] at hL
             try clear h14 h15 h109
             have h112 := hL
             clear hL
             try simp only [go_sem, simprocAttr, Mem.marked, Stt.marked, mrow_len]
             clear hK K
             refine awl_cond h112 (fun c13 => ?_) (fun c13 => ?_)
             ·
              try simp only [cnd] at c13
              first | done | (simp at c13; done) | (simp at c13; omega) | omega
             ·
              try simp only [cnd] at c13
              refine awl_skip ?_
              refine awl_seq ?_
              refine awl_regS _ rfl fun K hK => ?_
              try simp only [go_sem, simprocAttr, h112, Mem.marked, Stt.marked, mrow_len]
              repeat' (refine And.intro (by first | exact f1.1 | exact f2.1 | exact f3 | assumption | omega) ?_)
              refine hK _ _ ⟨_, _, Wk.keep [] rfl, awl_live' [6] fun ρ hL => ?_⟩
              try simp only [go_sem, simprocAttr, h112, Mem.marked, Stt.marked, mrow_len] at hL
              try clear h112
              have h6 := hL
              clear hL
              try simp only [go_sem, simprocAttr, Mem.marked, Stt.marked, mrow_len]
              clear hK K
              refine awl_ret ?_
              refine ret0 (by simp only [go_sem, simprocAttr, h6, Mem.marked, Stt.marked, mrow_len]; exact rfl) ?_
              try simp only [go_sem, simprocAttr]
              all_goals (rfl)
end Go.Proofs.YtgddflnhibhacaaGreat.AM
