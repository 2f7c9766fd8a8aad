/- What the command at a place comes to. No conditions but those each theorem bears. -/
import Derived.Test.YtgddflnhibhacaaGreatFa
import Derived.Test.YtgddflnhibhacaaGreatCa24
set_option linter.unusedSimpArgs false
set_option linter.unusedVariables false
namespace Go.Proofs.YtgddflnhibhacaaGreat.AM
open Go

set_option maxHeartbeats 8000000 in
set_option maxRecDepth 100000 in
theorem sat_impl_effectOf (l : List Ins) (s : Stt) (hl : l.length ≤ 1048576) (hf : s.fit) (hk : sttOk s = true) : Sat Tryz.prog 38 [.sl l.length l.length (rows l), .agg s.cells] [] (.agg (Fx.cells (fxOf l s))) [] := by
 refine sat_mk [.cell 4 72] 0 77 Tryz.call38 Tryz.func38 Tryz.ntmps38 rfl rfl rfl rfl rfl ?_
 refine awl_live' [0, 1] fun ρ hL => ?_
 try simp only [go_sem, simprocAttr] at hL
 obtain ⟨h0, h1⟩ := hL
 refine awl_seq ?_
 refine awl_regS _ rfl fun K hK => ?_
 try simp only [go_sem, simprocAttr, h0, h1]
 repeat' (refine And.intro (by first | rfl | omega | (simp; done)) ?_)
 refine hK _ _ (.mk (awl_live' [0, 3, 4] fun ρ hL => ?_))
 try simp only [go_sem, simprocAttr, h0, h1] at hL
 try clear h0 h1
 obtain ⟨h0, h3, h4⟩ := hL
 clear hK K
 refine awl_seq ?_
 refine awl_regS _ rfl fun K hK => ?_
 try simp only [go_sem, simprocAttr, h0, h3, h4]
 repeat' (refine And.intro (by first | rfl | omega | (simp; done)) ?_)
 refine opS_call_ro rfl (sat_impl_Fetch l s.pc hl) ?ha ?hv ?hh ?_
 case ha => simp only [go_sem, simprocAttr, h0, h3, h4]; first | done | rfl
 case hv => first | rfl | (simp only [go_sem]; done)
 case hh => first | rfl | (simp only [go_sem]; done)
 try simp only [go_sem, simprocAttr, h0, h3, h4]
 repeat' (refine And.intro (by first | rfl | omega | (simp; done)) ?_)
 refine hK _ _ (.mk (awl_live' [3, 4, 5, 6] fun ρ hL => ?_))
 try simp only [go_sem, simprocAttr, h0, h3, h4] at hL
 try clear h0 h3 h4
 obtain ⟨h3, h4, h5, h6⟩ := hL
 clear hK K
 refine awl_seq ?_
 refine awl_seq ?_
 refine awl_regS _ rfl fun K hK => ?_
 try simp only [go_sem, simprocAttr, h3, h4, h5, h6]
 repeat' (refine And.intro (by first | rfl | omega | (simp; done)) ?_)
 refine hK _ _ (.mk (awl_live' [3, 4, 5, 6, 18] fun ρ hL => ?_))
 try simp only [go_sem, simprocAttr, h3, h4, h5, h6] at hL
 try clear h3 h4 h5 h6
 obtain ⟨h3, h4, h5, h6, h18⟩ := hL
 clear hK K
 refine awl_cond h18 (fun c1 => ?_) (fun c1 => ?_)
 ·
  try simp only [cnd] at c1
  refine awl_seq ?_
  refine awl_regS _ rfl fun K hK => ?_
  try simp only [go_sem, simprocAttr, h3, h4, h5, h6, h18]
  repeat' (refine And.intro (by first | rfl | omega | (simp; done)) ?_)
  refine opS_call_ro rfl (sat_impl_trapped ?_ ?_) ?ha ?hv ?hh ?_
  case ha => simp only [go_sem, simprocAttr, h3, h4, h5, h6, h18]; first | done | rfl
  case hv => first | rfl | (simp only [go_sem]; done)
  case hh => first | rfl | (simp only [go_sem]; done)
  try simp only [go_sem, simprocAttr, h3, h4, h5, h6, h18]
  repeat' (refine And.intro (by first | rfl | omega | (simp; done)) ?_)
  refine hK _ _ (.mk (awl_live' [4] fun ρ hL => ?_))
  try simp only [go_sem, simprocAttr, h3, h4, h5, h6, h18] at hL
  try clear h3 h4 h5 h6 h18
  have h4 := hL
  clear hL
  clear hK K
  refine awl_ret ?_
  refine ret0 (by simp only [go_sem, simprocAttr, h4]; exact rfl) ?_
  try simp only [go_sem, simprocAttr]
  all_goals (rw [fx_fetch c1] <;> rfl)
 ·
  try simp only [cnd] at c1
  refine awl_skip ?_
  refine awl_seq ?_
  have hx := fetch_regs c1
  have h8 := (sttOk_parts hk).2.1
  have hna : (fetch l s.pc).1.a.toNat < s.regs.length := by omega
  have hnb : (fetch l s.pc).1.b.toNat < s.regs.length := by omega
  refine awl_regD mixed _ rfl fun K hK => ?_
  try simp only [go_sem, simprocAttr, h3, h4, h5, h6, h18, hna, hnb]
  repeat' (refine And.intro (by first | omega | (exact ⟨[0, 1, 0, 4, 15, 31, 0, 64, 0, 256, 960, 1984, 0, 0, 12351, 32767], by kernel_rfl⟩) | kernel_rfl) ?_)
  refine hK _ _ (.mk (awl_live' [3, 4, 5, 6, 7, 8] fun ρ hL => ?_))
  try simp only [go_sem, simprocAttr, h3, h4, h5, h6, h18, hna, hnb] at hL
  try clear h3 h4 h5 h6 h18
  obtain ⟨h3, h4, h5, h6, h7, h8⟩ := hL
  clear hK K
  refine awl_seq ?_
  refine awl_regS _ rfl fun K hK => ?_
  try simp only [go_sem, simprocAttr, h3, h4, h5, h6, h7, h8]
  repeat' (refine And.intro (by first | rfl | omega | (simp; done)) ?_)
  refine hK _ _ (.mk (awl_live' [3, 4, 5, 6, 7, 8, 9] fun ρ hL => ?_))
  try simp only [go_sem, simprocAttr, h3, h4, h5, h6, h7, h8] at hL
  try clear h3 h4 h5 h6 h7 h8
  obtain ⟨h3, h4, h5, h6, h7, h8, h9⟩ := hL
  clear hK K
  refine awl_seq ?_
  refine awl_seq ?_
  refine awl_regS _ rfl fun K hK => ?_
  try simp only [go_sem, simprocAttr, h3, h4, h5, h6, h7, h8, h9]
  repeat' (refine And.intro (by first | rfl | omega | (simp; done)) ?_)
  refine hK _ _ (.mk (awl_live' [3, 4, 5, 6, 7, 8, 9, 37] fun ρ hL => ?_))
  try simp only [go_sem, simprocAttr, h3, h4, h5, h6, h7, h8, h9] at hL
  try clear h3 h4 h5 h6 h7 h8 h9
  obtain ⟨h3, h4, h5, h6, h7, h8, h9, h37⟩ := hL
  clear hK K
  refine awl_block fun R1 hw1 hR1 => ?_
  refine awl_seq ?_
  refine awl_regS _ rfl fun K hK => ?_
  try simp only [go_sem, simprocAttr, h3, h4, h5, h6, h7, h8, h9, h37]
  repeat' (refine And.intro (by first | rfl | omega | (simp; done)) ?_)
  refine hK _ _ (.mk (awl_live' [3, 4, 5, 6, 7, 8, 9, 37, 38] fun ρ hL => ?_))
  try simp only [go_sem, simprocAttr, h3, h4, h5, h6, h7, h8, h9, h37] at hL
  try clear h3 h4 h5 h6 h7 h8 h9 h37
  obtain ⟨h3, h4, h5, h6, h7, h8, h9, h37, h38⟩ := hL
  clear hK K
  refine awl_cond h38 (fun c2 => ?_) (fun c2 => ?_)
  ·
   try simp only [cnd] at c2
   refine awl_regS _ rfl fun K hK => ?_
   try simp only [go_sem, simprocAttr, h3, h4, h5, h6, h7, h8, h9, h37, h38]
   repeat' (refine And.intro (by first | rfl | omega | (simp; done)) ?_)
   refine opS_call_ro rfl (sat_impl_Read s.mem ?_ ?_ hf.2) ?ha ?hv ?hh ?_
   case ha => simp only [go_sem, simprocAttr, h3, h4, h5, h6, h7, h8, h9, h37, h38]; first | done | rfl
   case hv => first | rfl | (simp only [go_sem]; done)
   case hh => first | rfl | (simp only [go_sem]; done)
   try simp only [go_sem, simprocAttr, h3, h4, h5, h6, h7, h8, h9, h37, h38]
   repeat' (refine And.intro (by first | rfl | omega | (simp; done)) ?_)
   refine hK _ _ (.mk (awl_live' [3, 4, 5, 6, 7, 8, 9] fun ρ hL => ?_))
   try simp only [go_sem, simprocAttr, h3, h4, h5, h6, h7, h8, h9, h37, h38] at hL
   try clear h3 h4 h5 h6 h7 h8 h9 h37 h38
   obtain ⟨h3, h4, h5, h6, h7, h8, h9⟩ := hL
   clear hK K
   refine awl_nil ?_
   refine blk_normal (hR1 _ _ (.mk ?_))
   refine awl_seq ?_
   refine awl_seq ?_
   refine awl_regS _ rfl fun K hK => ?_
   try simp only [go_sem, simprocAttr, h3, h4, h5, h6, h7, h8, h9]
   repeat' (refine And.intro (by first | rfl | omega | (simp; done)) ?_)
   refine hK _ _ (.mk (awl_live' [3, 4, 5, 6, 7, 8, 9, 65] fun ρ hL => ?_))
   try simp only [go_sem, simprocAttr, h3, h4, h5, h6, h7, h8, h9] at hL
   try clear h3 h4 h5 h6 h7 h8 h9
   obtain ⟨h3, h4, h5, h6, h7, h8, h9, h65⟩ := hL
   clear hK K
   refine awl_cond h65 (fun c3 => ?_) (fun c3 => ?_)
   ·
    try simp only [cnd] at c3
    refine awl_seq ?_
    refine awl_regS _ rfl fun K hK => ?_
    try simp only [go_sem, simprocAttr, h3, h4, h5, h6, h7, h8, h9, h65]
    repeat' (refine And.intro (by first | rfl | omega | (simp; done)) ?_)
    refine opS_call_ro rfl (sat_impl_trapped ?_ ?_) ?ha ?hv ?hh ?_
    case ha => simp only [go_sem, simprocAttr, h3, h4, h5, h6, h7, h8, h9, h65]; first | done | rfl
    case hv => first | rfl | (simp only [go_sem]; done)
    case hh => first | rfl | (simp only [go_sem]; done)
    try simp only [go_sem, simprocAttr, h3, h4, h5, h6, h7, h8, h9, h65]
    repeat' (refine And.intro (by first | rfl | omega | (simp; done)) ?_)
    refine hK _ _ (.mk (awl_live' [4] fun ρ hL => ?_))
    try simp only [go_sem, simprocAttr, h3, h4, h5, h6, h7, h8, h9, h65] at hL
    try clear h3 h4 h5 h6 h7 h8 h9 h65
    have h4 := hL
    clear hL
    clear hK K
    refine awl_ret ?_
    refine ret0 (by simp only [go_sem, simprocAttr, h4]; exact rfl) ?_
    try simp only [go_sem, simprocAttr]
    all_goals try clear hR1
    all_goals (rw [fx_mem c1 (by rw [mem_load c2]; exact c3), mem_load c2] <;> rfl)
   ·
    try simp only [cnd] at c3
    refine awl_skip ?_
    refine awl_seq ?_
    refine awl_regS _ rfl fun K hK => ?_
    try simp only [go_sem, simprocAttr, h3, h4, h5, h6, h7, h8, h9, h65]
    repeat' (refine And.intro (by first | rfl | omega | (simp; done)) ?_)
    refine opS_call_ro rfl (sat_impl_Work ?_ ?_ ?_ ?_ ?_) ?ha ?hv ?hh ?_
    case ha => simp only [go_sem, simprocAttr, h3, h4, h5, h6, h7, h8, h9, h65]; first | done | rfl
    case hv => first | rfl | (simp only [go_sem]; done)
    case hh => first | rfl | (simp only [go_sem]; done)
    try simp only [go_sem, simprocAttr, h3, h4, h5, h6, h7, h8, h9, h65]
    repeat' (refine And.intro (by first | rfl | omega | (simp; done)) ?_)
    refine hK _ _ (.mk (awl_live' [4] fun ρ hL => ?_))
    try simp only [go_sem, simprocAttr, h3, h4, h5, h6, h7, h8, h9, h65] at hL
    try clear h3 h4 h5 h6 h7 h8 h9 h65
    have h4 := hL
    clear hL
    clear hK K
    refine awl_ret ?_
    refine ret0 (by simp only [go_sem, simprocAttr, h4]; exact rfl) ?_
    try simp only [go_sem, simprocAttr]
    all_goals try clear hR1
    all_goals (rw [fx_work c1 (by rw [mem_load c2]; exact c3), mem_load c2] <;> rfl)
  ·
   try simp only [cnd] at c2
   refine awl_seq ?_
   refine awl_regS _ rfl fun K hK => ?_
   try simp only [go_sem, simprocAttr, h3, h4, h5, h6, h7, h8, h9, h37, h38]
   repeat' (refine And.intro (by first | rfl | omega | (simp; done)) ?_)
   refine hK _ _ (.mk (awl_live' [3, 4, 5, 6, 7, 8, 9, 52] fun ρ hL => ?_))
   try simp only [go_sem, simprocAttr, h3, h4, h5, h6, h7, h8, h9, h37, h38] at hL
   try clear h3 h4 h5 h6 h7 h8 h9 h37 h38
   obtain ⟨h3, h4, h5, h6, h7, h8, h9, h52⟩ := hL
   clear hK K
   refine awl_cond h52 (fun c4 => ?_) (fun c4 => ?_)
   ·
    try simp only [cnd] at c4
    refine awl_regS _ rfl fun K hK => ?_
    try simp only [go_sem, simprocAttr, h3, h4, h5, h6, h7, h8, h9, h52]
    repeat' (refine And.intro (by first | rfl | omega | (simp; done)) ?_)
    refine opS_call_ro rfl (sat_impl_writeCode s.mem ?_ ?_ ?_ hf.2) ?ha ?hv ?hh ?_
    case ha => simp only [go_sem, simprocAttr, h3, h4, h5, h6, h7, h8, h9, h52]; first | done | rfl
    case hv => first | rfl | (simp only [go_sem]; done)
    case hh => first | rfl | (simp only [go_sem]; done)
    try simp only [go_sem, simprocAttr, h3, h4, h5, h6, h7, h8, h9, h52]
    repeat' (refine And.intro (by first | rfl | omega | (simp; done)) ?_)
    refine hK _ _ (.mk (awl_live' [3, 4, 5, 6, 7, 8, 9] fun ρ hL => ?_))
    try simp only [go_sem, simprocAttr, h3, h4, h5, h6, h7, h8, h9, h52] at hL
    try clear h3 h4 h5 h6 h7 h8 h9 h52
    obtain ⟨h3, h4, h5, h6, h7, h8, h9⟩ := hL
    clear hK K
    refine awl_nil ?_
    refine blk_normal (hR1 _ _ (.mk ?_))
    refine awl_seq ?_
    refine awl_seq ?_
    refine awl_regS _ rfl fun K hK => ?_
    try simp only [go_sem, simprocAttr, h3, h4, h5, h6, h7, h8, h9]
    repeat' (refine And.intro (by first | rfl | omega | (simp; done)) ?_)
    refine hK _ _ (.mk (awl_live' [3, 4, 5, 6, 7, 8, 9, 65] fun ρ hL => ?_))
    try simp only [go_sem, simprocAttr, h3, h4, h5, h6, h7, h8, h9] at hL
    try clear h3 h4 h5 h6 h7 h8 h9
    obtain ⟨h3, h4, h5, h6, h7, h8, h9, h65⟩ := hL
    clear hK K
    refine awl_cond h65 (fun c5 => ?_) (fun c5 => ?_)
    ·
     try simp only [cnd] at c5
     refine awl_seq ?_
     refine awl_regS _ rfl fun K hK => ?_
     try simp only [go_sem, simprocAttr, h3, h4, h5, h6, h7, h8, h9, h65]
     repeat' (refine And.intro (by first | rfl | omega | (simp; done)) ?_)
     refine opS_call_ro rfl (sat_impl_trapped ?_ ?_) ?ha ?hv ?hh ?_
     case ha => simp only [go_sem, simprocAttr, h3, h4, h5, h6, h7, h8, h9, h65]; first | done | rfl
     case hv => first | rfl | (simp only [go_sem]; done)
     case hh => first | rfl | (simp only [go_sem]; done)
     try simp only [go_sem, simprocAttr, h3, h4, h5, h6, h7, h8, h9, h65]
     repeat' (refine And.intro (by first | rfl | omega | (simp; done)) ?_)
     refine hK _ _ (.mk (awl_live' [4] fun ρ hL => ?_))
     try simp only [go_sem, simprocAttr, h3, h4, h5, h6, h7, h8, h9, h65] at hL
     try clear h3 h4 h5 h6 h7 h8 h9 h65
     have h4 := hL
     clear hL
     clear hK K
     refine awl_ret ?_
     refine ret0 (by simp only [go_sem, simprocAttr, h4]; exact rfl) ?_
     try simp only [go_sem, simprocAttr]
     all_goals try clear hR1
     all_goals (rw [fx_mem c1 (by rw [mem_store c2 c4]; exact c5), mem_store c2 c4] <;> rfl)
    ·
     try simp only [cnd] at c5
     refine awl_skip ?_
     refine awl_seq ?_
     refine awl_regS _ rfl fun K hK => ?_
     try simp only [go_sem, simprocAttr, h3, h4, h5, h6, h7, h8, h9, h65]
     repeat' (refine And.intro (by first | rfl | omega | (simp; done)) ?_)
     refine opS_call_ro rfl (sat_impl_Work (fetch l s.pc).1 s.pc (reg s (fetch l s.pc).1.a) (reg s (fetch l s.pc).1.b) noWord) ?ha ?hv ?hh ?_
     case ha => simp only [go_sem, simprocAttr, h3, h4, h5, h6, h7, h8, h9, h65]; first | done | rfl
     case hv => first | rfl | (simp only [go_sem]; done)
     case hh => first | rfl | (simp only [go_sem]; done)
     try simp only [go_sem, simprocAttr, h3, h4, h5, h6, h7, h8, h9, h65]
     repeat' (refine And.intro (by first | rfl | omega | (simp; done)) ?_)
     refine hK _ _ (.mk (awl_live' [4] fun ρ hL => ?_))
     try simp only [go_sem, simprocAttr, h3, h4, h5, h6, h7, h8, h9, h65] at hL
     try clear h3 h4 h5 h6 h7 h8 h9 h65
     have h4 := hL
     clear hL
     clear hK K
     refine awl_ret ?_
     refine ret0 (by simp only [go_sem, simprocAttr, h4]; exact rfl) ?_
     try simp only [go_sem, simprocAttr]
     all_goals try clear hR1
     all_goals (rw [fx_work c1 (by rw [mem_store c2 c4]; exact c5), mem_store c2 c4] <;> rfl)
   ·
    try simp only [cnd] at c4
    refine awl_skip ?_
    refine awl_nil ?_
    refine blk_normal (hR1 _ _ (.mk ?_))
    refine awl_seq ?_
    refine awl_seq ?_
    refine awl_regS _ rfl fun K hK => ?_
    try simp only [go_sem, simprocAttr, h3, h4, h5, h6, h7, h8, h9, h52]
    repeat' (refine And.intro (by first | rfl | omega | (simp; done)) ?_)
    refine hK _ _ (.mk (awl_live' [3, 4, 5, 6, 7, 8, 9, 65] fun ρ hL => ?_))
    try simp only [go_sem, simprocAttr, h3, h4, h5, h6, h7, h8, h9, h52] at hL
    try clear h3 h4 h5 h6 h7 h8 h9 h52
    obtain ⟨h3, h4, h5, h6, h7, h8, h9, h65⟩ := hL
    clear hK K
    refine awl_cond h65 (fun c6 => ?_) (fun c6 => ?_)
    ·
     try simp only [cnd] at c6
     exact absurd c1 c6
    ·
     try simp only [cnd] at c6
     refine awl_skip ?_
     refine awl_seq ?_
     refine awl_regS _ rfl fun K hK => ?_
     try simp only [go_sem, simprocAttr, h3, h4, h5, h6, h7, h8, h9, h65]
     repeat' (refine And.intro (by first | rfl | omega | (simp; done)) ?_)
     refine opS_call_ro rfl (sat_impl_Work (fetch l s.pc).1 s.pc (reg s (fetch l s.pc).1.a) (reg s (fetch l s.pc).1.b) noWord) ?ha ?hv ?hh ?_
     case ha => simp only [go_sem, simprocAttr, h3, h4, h5, h6, h7, h8, h9, h65]; first | done | rfl
     case hv => first | rfl | (simp only [go_sem]; done)
     case hh => first | rfl | (simp only [go_sem]; done)
     try simp only [go_sem, simprocAttr, h3, h4, h5, h6, h7, h8, h9, h65]
     repeat' (refine And.intro (by first | rfl | omega | (simp; done)) ?_)
     refine hK _ _ (.mk (awl_live' [4] fun ρ hL => ?_))
     try simp only [go_sem, simprocAttr, h3, h4, h5, h6, h7, h8, h9, h65] at hL
     try clear h3 h4 h5 h6 h7 h8 h9 h65
     have h4 := hL
     clear hL
     clear hK K
     refine awl_ret ?_
     refine ret0 (by simp only [go_sem, simprocAttr, h4]; exact rfl) ?_
     try simp only [go_sem, simprocAttr]
     all_goals try clear hR1
     all_goals (rw [fx_work c1 (by rw [mem_none c2 c4]), mem_none c2 c4] <;> rfl)
end Go.Proofs.YtgddflnhibhacaaGreat.AM
