/- Sweeps; steps in order; runs. No conditions but those each theorem bears. -/
import Derived.Test.YtgddflnhibhacaaGreatFa
import Derived.Test.YtgddflnhibhacaaGreatSp13
import Derived.Test.YtgddflnhibhacaaGreatCa30
import Derived.Test.YtgddflnhibhacaaGreatCa15
set_option linter.unusedSimpArgs false
set_option linter.unusedVariables false
namespace Go.Proofs.YtgddflnhibhacaaGreat.AM
open Go

set_option maxHeartbeats 8000000 in
set_option maxRecDepth 100000 in
theorem sat_spec_Sweep (m : Mem) (n : Int) (hf : m.fit) : Sat Tryz.prog 49 [.agg m.cells, .int .i64 n] [] (.agg ((sweep m n).own 0 1)) (sweep m n).blks := by
 refine sat_mk [.cell 4 40] 0 26 Tryz.call49 Tryz.func49 Tryz.ntmps49 rfl rfl rfl rfl rfl ?_
 refine awl_live' [0, 1] fun ρ hL => ?_
 try simp only [go_sem, simprocAttr] at hL
 obtain ⟨h0, h1⟩ := hL
 refine awl_seq ?_
 refine awl_regS _ rfl fun K hK => ?_
 try simp only [go_sem, simprocAttr, h0, h1]
 repeat' (refine And.intro (by first | rfl | omega | (simp; done)) ?_)
 refine hK _ _ (.mk (awl_live' [1, 2, 4] fun ρ hL => ?_))
 try simp only [go_sem, simprocAttr, h0, h1] at hL
 try clear h0 h1
 obtain ⟨h1, h2, h4⟩ := hL
 clear hK K
 refine awl_seq ?_
 refine awl_seq ?_
 refine awl_regS _ rfl fun K hK => ?_
 try simp only [go_sem, simprocAttr, h1, h2, h4]
 repeat' (refine And.intro (by first | rfl | omega | (simp; done)) ?_)
 refine opS_call_ro rfl (sat_spec_MemoryOk m) ?ha ?hv ?hh ?_
 case ha => simp only [go_sem, simprocAttr, h1, h2, h4]; first | done | rfl
 case hv => first | rfl | (simp only [go_sem]; done)
 case hh => first | rfl | (simp only [go_sem]; done)
 try simp only [go_sem, simprocAttr, h1, h2, h4]
 repeat' (refine And.intro (by first | rfl | omega | (simp; done)) ?_)
 refine hK _ _ (.mk (awl_live' [1, 2, 4, 8] fun ρ hL => ?_))
 try simp only [go_sem, simprocAttr, h1, h2, h4] at hL
 try clear h1 h2 h4
 obtain ⟨h1, h2, h4, h8⟩ := hL
 clear hK K
 refine awl_cond h8 (fun c1 => ?_) (fun c1 => ?_)
 ·
  try simp only [cnd] at c1
  refine awl_seq ?_
  refine awl_regS _ rfl fun K hK => ?_
  try simp only [go_sem, simprocAttr, h1, h2, h4, h8]
  repeat' (refine And.intro (by first | rfl | omega | (simp; done)) ?_)
  refine hK _ _ (.mk (awl_live' [4] fun ρ hL => ?_))
  try simp only [go_sem, simprocAttr, h1, h2, h4, h8] at hL
  try clear h1 h2 h4 h8
  have h4 := hL
  clear hL
  clear hK K
  refine awl_ret ?_
  refine retN (v := .agg [.nilsl, .nilsl]) [6, 1] [2, 3] [2, 3] rfl (by simp only [go_sem, simprocAttr, h4]; exact rfl) (by first | rfl | (simp only [go_sem, simprocAttr, h4]; first | done | rfl)) (Ref.agg (RefL.cons (Ref.nil 2 ⟨Nat.le_of_ble_eq_true rfl, Nat.le_of_ble_eq_true rfl⟩) (RefL.cons (Ref.nil 3 ⟨Nat.le_of_ble_eq_true rfl, Nat.le_of_ble_eq_true rfl⟩) (RefL.same [])))) rfl (by decide) rfl rfl ?_ ?_
  all_goals try simp only [go_sem, simprocAttr, h4]
  all_goals (rw [sweep_no c1] <;> rfl)
 ·
  try simp only [cnd] at c1
  refine awl_skip ?_
  refine awl_seq ?_
  refine awl_regS _ rfl fun K hK => ?_
  try simp only [go_sem, simprocAttr, h1, h2, h4, h8]
  repeat' (refine And.intro (by first | rfl | omega | (simp; done)) ?_)
  refine opS_call_ro rfl (sat_spec_l8Copy m hf) ?ha ?hv ?hh ?_
  case ha => simp only [go_sem, simprocAttr, h1, h2, h4, h8]; first | done | rfl
  case hv => first | rfl | (simp only [go_sem]; done)
  case hh => first | rfl | (simp only [go_sem]; done)
  try simp only [go_sem, simprocAttr, h1, h2, h4, h8]
  repeat' (refine And.intro (by first | rfl | omega | (simp; done)) ?_)
  refine hK _ _ (.mk (awl_live' [1, 2, 4, 5] fun ρ hL => ?_))
  try simp only [go_sem, simprocAttr, h1, h2, h4, h8] at hL
  try clear h1 h2 h4 h8
  obtain ⟨h1, h2, h4, h5⟩ := hL
  clear hK K
  refine awl_seq ?_
  refine awl_seq ?_
  refine awl_regS _ rfl fun K hK => ?_
  try simp only [go_sem, simprocAttr, h1, h2, h4, h5]
  repeat' (refine And.intro (by first | rfl | omega | (simp; done)) ?_)
  refine opS_call_ro rfl (sat_spec_l1In ?_ ?_ ?_) ?ha ?hv ?hh ?_
  case ha => simp only [go_sem, simprocAttr, h1, h2, h4, h5]; first | done | rfl
  case hv => first | rfl | (simp only [go_sem]; done)
  case hh => first | rfl | (simp only [go_sem]; done)
  try simp only [go_sem, simprocAttr, h1, h2, h4, h5]
  repeat' (refine And.intro (by first | rfl | omega | (simp; done)) ?_)
  refine hK _ _ (.mk (awl_live' [1, 2, 4, 5, 13] fun ρ hL => ?_))
  try simp only [go_sem, simprocAttr, h1, h2, h4, h5] at hL
  try clear h1 h2 h4 h5
  obtain ⟨h1, h2, h4, h5, h13⟩ := hL
  clear hK K
  refine awl_cond h13 (fun c2 => ?_) (fun c2 => ?_)
  ·
   try simp only [cnd] at c2
   have hr := inR_iff.1 c2
   have h24 := (memOk_parts c1).1
   have hn2 : n.toNat < m.words.length := by omega
   refine awl_regD mixed _ rfl fun K hK => ?_
   try simp only [go_sem, simprocAttr, h1, h2, h4, h5, h13, hn2, words_put hn2]
   repeat' (refine And.intro (by first | omega | (exact ⟨[0, 1, 0, 0, 0, 16, 0, 112, 240, 504, 1023, 2047], by kernel_rfl⟩) | kernel_rfl) ?_)
   refine dS_call_ro rfl (sat_spec_Filter m (m.words.getD n.toNat noWord) hf) ?ha ?hv ?hh ?_
   case ha => simp only [go_sem, simprocAttr, h1, h2, h4, h5, h13, hn2, words_put hn2]; first | done | rfl
   case hv => first | rfl | (simp only [go_sem]; done)
   case hh => first | rfl | (simp only [go_sem]; done)
   try simp only [go_sem, simprocAttr, h1, h2, h4, h5, h13, hn2, words_put hn2]
   repeat' (refine And.intro (by first | omega | (exact ⟨[0, 1, 0, 0, 0, 16, 0, 112, 240, 504, 1023, 2047], by kernel_rfl⟩) | kernel_rfl) ?_)
   refine hK _ _ (.mk (awl_live' [4, 5] fun ρ hL => ?_))
   try simp only [go_sem, simprocAttr, h1, h2, h4, h5, h13, hn2, words_put hn2] at hL
   try clear h1 h2 h4 h5 h13
   obtain ⟨h4, h5⟩ := hL
   clear hK K
   refine awl_seq ?_
   refine awl_regS _ rfl fun K hK => ?_
   try simp only [go_sem, simprocAttr, h4, h5]
   repeat' (refine And.intro (by first | rfl | omega | (simp; done)) ?_)
   refine hK _ _ (.mk (awl_live' [4] fun ρ hL => ?_))
   try simp only [go_sem, simprocAttr, h4, h5] at hL
   try clear h4 h5
   have h4 := hL
   clear hL
   clear hK K
   refine awl_ret ?_
   refine retK [2, 3] [2, 3] rfl (by simp only [go_sem, simprocAttr, h4]; exact rfl) (by decide) (by first | rfl | (simp only [go_sem, simprocAttr, h4]; first | done | rfl)) (by first | rfl | (simp only [go_sem, simprocAttr, h4]; first | done | rfl)) ?_ ?_
   all_goals try simp only [go_sem, simprocAttr, h4]
   all_goals ((rw [sweep_in c1 c2] <;> (try simp only [List.length_set])) <;> first | done | rfl)
  ·
   try simp only [cnd] at c2
   refine awl_skip ?_
   refine awl_seq ?_
   refine awl_regS _ rfl fun K hK => ?_
   try simp only [go_sem, simprocAttr, h1, h2, h4, h5, h13]
   repeat' (refine And.intro (by first | rfl | omega | (simp; done)) ?_)
   refine hK _ _ (.mk (awl_live' [4] fun ρ hL => ?_))
   try simp only [go_sem, simprocAttr, h1, h2, h4, h5, h13] at hL
   try clear h1 h2 h4 h5 h13
   have h4 := hL
   clear hL
   clear hK K
   refine awl_ret ?_
   refine retK [2, 3] [2, 3] rfl (by simp only [go_sem, simprocAttr, h4]; exact rfl) (by decide) (by first | rfl | (simp only [go_sem, simprocAttr, h4]; first | done | rfl)) (by first | rfl | (simp only [go_sem, simprocAttr, h4]; first | done | rfl)) ?_ ?_
   all_goals try simp only [go_sem, simprocAttr, h4]
   all_goals (rw [sweep_out c1 c2] <;> rfl)
set_option maxHeartbeats 8000000 in
set_option maxRecDepth 100000 in
theorem sat_impl_Sweep (m : Mem) (n : Int) (hf : m.fit) : Sat Tryz.prog 50 [.agg m.cells, .int .i64 n] [] (.agg ((sweep m n).own 0 1)) (sweep m n).blks := by
 refine sat_mk [.cell 4 40] 0 26 Tryz.call50 Tryz.func50 Tryz.ntmps50 rfl rfl rfl rfl rfl ?_
 refine awl_live' [0, 1] fun ρ hL => ?_
 try simp only [go_sem, simprocAttr] at hL
 obtain ⟨h0, h1⟩ := hL
 refine awl_seq ?_
 refine awl_regS _ rfl fun K hK => ?_
 try simp only [go_sem, simprocAttr, h0, h1]
 repeat' (refine And.intro (by first | rfl | omega | (simp; done)) ?_)
 refine hK _ _ (.mk (awl_live' [1, 2, 4] fun ρ hL => ?_))
 try simp only [go_sem, simprocAttr, h0, h1] at hL
 try clear h0 h1
 obtain ⟨h1, h2, h4⟩ := hL
 clear hK K
 refine awl_seq ?_
 refine awl_seq ?_
 refine awl_regS _ rfl fun K hK => ?_
 try simp only [go_sem, simprocAttr, h1, h2, h4]
 repeat' (refine And.intro (by first | rfl | omega | (simp; done)) ?_)
 refine opS_call_ro rfl (sat_impl_MemoryOk m hf) ?ha ?hv ?hh ?_
 case ha => simp only [go_sem, simprocAttr, h1, h2, h4]; first | done | rfl
 case hv => first | rfl | (simp only [go_sem]; done)
 case hh => first | rfl | (simp only [go_sem]; done)
 try simp only [go_sem, simprocAttr, h1, h2, h4]
 repeat' (refine And.intro (by first | rfl | omega | (simp; done)) ?_)
 refine hK _ _ (.mk (awl_live' [1, 2, 4, 8] fun ρ hL => ?_))
 try simp only [go_sem, simprocAttr, h1, h2, h4] at hL
 try clear h1 h2 h4
 obtain ⟨h1, h2, h4, h8⟩ := hL
 clear hK K
 refine awl_cond h8 (fun c1 => ?_) (fun c1 => ?_)
 ·
  try simp only [cnd] at c1
  refine awl_seq ?_
  refine awl_regS _ rfl fun K hK => ?_
  try simp only [go_sem, simprocAttr, h1, h2, h4, h8]
  repeat' (refine And.intro (by first | rfl | omega | (simp; done)) ?_)
  refine hK _ _ (.mk (awl_live' [4] fun ρ hL => ?_))
  try simp only [go_sem, simprocAttr, h1, h2, h4, h8] at hL
  try clear h1 h2 h4 h8
  have h4 := hL
  clear hL
  clear hK K
  refine awl_ret ?_
  refine retN (v := .agg [.nilsl, .nilsl]) [6, 1] [2, 3] [2, 3] rfl (by simp only [go_sem, simprocAttr, h4]; exact rfl) (by first | rfl | (simp only [go_sem, simprocAttr, h4]; first | done | rfl)) (Ref.agg (RefL.cons (Ref.nil 2 ⟨Nat.le_of_ble_eq_true rfl, Nat.le_of_ble_eq_true rfl⟩) (RefL.cons (Ref.nil 3 ⟨Nat.le_of_ble_eq_true rfl, Nat.le_of_ble_eq_true rfl⟩) (RefL.same [])))) rfl (by decide) rfl rfl ?_ ?_
  all_goals try simp only [go_sem, simprocAttr, h4]
  all_goals (rw [sweep_no c1] <;> rfl)
 ·
  try simp only [cnd] at c1
  refine awl_skip ?_
  refine awl_seq ?_
  refine awl_regS _ rfl fun K hK => ?_
  try simp only [go_sem, simprocAttr, h1, h2, h4, h8]
  repeat' (refine And.intro (by first | rfl | omega | (simp; done)) ?_)
  refine opS_call_ro rfl (sat_impl_cloneMemory m hf) ?ha ?hv ?hh ?_
  case ha => simp only [go_sem, simprocAttr, h1, h2, h4, h8]; first | done | rfl
  case hv => first | rfl | (simp only [go_sem]; done)
  case hh => first | rfl | (simp only [go_sem]; done)
  try simp only [go_sem, simprocAttr, h1, h2, h4, h8]
  repeat' (refine And.intro (by first | rfl | omega | (simp; done)) ?_)
  refine hK _ _ (.mk (awl_live' [1, 2, 4, 5] fun ρ hL => ?_))
  try simp only [go_sem, simprocAttr, h1, h2, h4, h8] at hL
  try clear h1 h2 h4 h8
  obtain ⟨h1, h2, h4, h5⟩ := hL
  clear hK K
  refine awl_seq ?_
  refine awl_seq ?_
  refine awl_regS _ rfl fun K hK => ?_
  try simp only [go_sem, simprocAttr, h1, h2, h4, h5]
  repeat' (refine And.intro (by first | rfl | omega | (simp; done)) ?_)
  refine opS_call_ro rfl (sat_impl_in ?_ ?_ ?_) ?ha ?hv ?hh ?_
  case ha => simp only [go_sem, simprocAttr, h1, h2, h4, h5]; first | done | rfl
  case hv => first | rfl | (simp only [go_sem]; done)
  case hh => first | rfl | (simp only [go_sem]; done)
  try simp only [go_sem, simprocAttr, h1, h2, h4, h5]
  repeat' (refine And.intro (by first | rfl | omega | (simp; done)) ?_)
  refine hK _ _ (.mk (awl_live' [1, 2, 4, 5, 13] fun ρ hL => ?_))
  try simp only [go_sem, simprocAttr, h1, h2, h4, h5] at hL
  try clear h1 h2 h4 h5
  obtain ⟨h1, h2, h4, h5, h13⟩ := hL
  clear hK K
  refine awl_cond h13 (fun c2 => ?_) (fun c2 => ?_)
  ·
   try simp only [cnd] at c2
   have hr := inR_iff.1 c2
   have h24 := (memOk_parts c1).1
   have hn2 : n.toNat < m.words.length := by omega
   refine awl_regD mixed _ rfl fun K hK => ?_
   try simp only [go_sem, simprocAttr, h1, h2, h4, h5, h13, hn2, words_put hn2]
   repeat' (refine And.intro (by first | omega | (exact ⟨[0, 1, 0, 0, 0, 16, 0, 112, 240, 504, 1023, 2047], by kernel_rfl⟩) | kernel_rfl) ?_)
   refine dS_call_ro rfl (sat_impl_Filter m (m.words.getD n.toNat noWord) hf) ?ha ?hv ?hh ?_
   case ha => simp only [go_sem, simprocAttr, h1, h2, h4, h5, h13, hn2, words_put hn2]; first | done | rfl
   case hv => first | rfl | (simp only [go_sem]; done)
   case hh => first | rfl | (simp only [go_sem]; done)
   try simp only [go_sem, simprocAttr, h1, h2, h4, h5, h13, hn2, words_put hn2]
   repeat' (refine And.intro (by first | omega | (exact ⟨[0, 1, 0, 0, 0, 16, 0, 112, 240, 504, 1023, 2047], by kernel_rfl⟩) | kernel_rfl) ?_)
   refine hK _ _ (.mk (awl_live' [4, 5] fun ρ hL => ?_))
   try simp only [go_sem, simprocAttr, h1, h2, h4, h5, h13, hn2, words_put hn2] at hL
   try clear h1 h2 h4 h5 h13
   obtain ⟨h4, h5⟩ := hL
   clear hK K
   refine awl_seq ?_
   refine awl_regS _ rfl fun K hK => ?_
   try simp only [go_sem, simprocAttr, h4, h5]
   repeat' (refine And.intro (by first | rfl | omega | (simp; done)) ?_)
   refine hK _ _ (.mk (awl_live' [4] fun ρ hL => ?_))
   try simp only [go_sem, simprocAttr, h4, h5] at hL
   try clear h4 h5
   have h4 := hL
   clear hL
   clear hK K
   refine awl_ret ?_
   refine retK [2, 3] [2, 3] rfl (by simp only [go_sem, simprocAttr, h4]; exact rfl) (by decide) (by first | rfl | (simp only [go_sem, simprocAttr, h4]; first | done | rfl)) (by first | rfl | (simp only [go_sem, simprocAttr, h4]; first | done | rfl)) ?_ ?_
   all_goals try simp only [go_sem, simprocAttr, h4]
   all_goals ((rw [sweep_in c1 c2] <;> (try simp only [List.length_set])) <;> first | done | rfl)
  ·
   try simp only [cnd] at c2
   refine awl_skip ?_
   refine awl_seq ?_
   refine awl_regS _ rfl fun K hK => ?_
   try simp only [go_sem, simprocAttr, h1, h2, h4, h5, h13]
   repeat' (refine And.intro (by first | rfl | omega | (simp; done)) ?_)
   refine hK _ _ (.mk (awl_live' [4] fun ρ hL => ?_))
   try simp only [go_sem, simprocAttr, h1, h2, h4, h5, h13] at hL
   try clear h1 h2 h4 h5 h13
   have h4 := hL
   clear hL
   clear hK K
   refine awl_ret ?_
   refine retK [2, 3] [2, 3] rfl (by simp only [go_sem, simprocAttr, h4]; exact rfl) (by decide) (by first | rfl | (simp only [go_sem, simprocAttr, h4]; first | done | rfl)) (by first | rfl | (simp only [go_sem, simprocAttr, h4]; first | done | rfl)) ?_ ?_
   all_goals try simp only [go_sem, simprocAttr, h4]
   all_goals (rw [sweep_out c1 c2] <;> rfl)
set_option maxHeartbeats 8000000 in
set_option maxRecDepth 100000 in
theorem sat_spec_InOrder (l : List Ins) (s : Stt) (a : Int) (hl : l.length ≤ 1048576) (hf : s.fit) : Sat Tryz.prog 17 [.sl l.length l.length (rows l), .agg s.cells, .int .i64 a] [] (.tuple [.agg ((inOrder l s a).1.own 0 1 2), .int .i64 (inOrder l s a).2]) (inOrder l s a).1.blks := by
 refine sat_mk [.cell 6 42, .tmp 7] 0 32 Tryz.call17 Tryz.func17 Tryz.ntmps17 rfl rfl rfl rfl rfl ?_
 refine awl_live' [0, 1, 2] fun ρ hL => ?_
 try simp only [go_sem, simprocAttr] at hL
 obtain ⟨h0, h1, h2⟩ := hL
 refine awl_seq ?_
 refine awl_regS _ rfl fun K hK => ?_
 try simp only [go_sem, simprocAttr, h0, h1, h2]
 repeat' (refine And.intro (by first | rfl | omega | (simp; done)) ?_)
 refine hK _ _ (.mk (awl_live' [0, 2, 4, 6] fun ρ hL => ?_))
 try simp only [go_sem, simprocAttr, h0, h1, h2] at hL
 try clear h0 h1 h2
 obtain ⟨h0, h2, h4, h6⟩ := hL
 clear hK K
 refine awl_seq ?_
 refine awl_seq ?_
 refine awl_regS _ rfl fun K hK => ?_
 try simp only [go_sem, simprocAttr, h0, h2, h4, h6]
 repeat' (refine And.intro (by first | rfl | omega | (simp; done)) ?_)
 refine opS_call_ro rfl (sat_spec_StateOk s hf) ?ha ?hv ?hh ?_
 case ha => simp only [go_sem, simprocAttr, h0, h2, h4, h6]; first | done | rfl
 case hv => first | rfl | (simp only [go_sem]; done)
 case hh => first | rfl | (simp only [go_sem]; done)
 try simp only [go_sem, simprocAttr, h0, h2, h4, h6]
 repeat' (refine And.intro (by first | rfl | omega | (simp; done)) ?_)
 refine hK _ _ (.mk (awl_live' [0, 2, 4, 6, 12] fun ρ hL => ?_))
 try simp only [go_sem, simprocAttr, h0, h2, h4, h6] at hL
 try clear h0 h2 h4 h6
 obtain ⟨h0, h2, h4, h6, h12⟩ := hL
 clear hK K
 refine awl_cond h12 (fun c1 => ?_) (fun c1 => ?_)
 ·
  try simp only [cnd] at c1
  refine awl_seq ?_
  refine awl_regS _ rfl fun K hK => ?_
  try simp only [go_sem, simprocAttr, h0, h2, h4, h6, h12]
  repeat' (refine And.intro (by first | rfl | omega | (simp; done)) ?_)
  refine hK _ _ (.mk (awl_live' [6, 7] fun ρ hL => ?_))
  try simp only [go_sem, simprocAttr, h0, h2, h4, h6, h12] at hL
  try clear h0 h2 h4 h6 h12
  obtain ⟨h6, h7⟩ := hL
  clear hK K
  refine awl_ret ?_
  refine retN (v := .tuple [.agg [.nilsl, .int .i64 0, .bool false, .int .i64 0, .int .i64 0, .int .i64 0, .int .i64 0, .nilsl, .nilsl, .int .i64 0], .int .i64 0]) [6, 6, 1] [2, 3, 4] [2, 3, 4] rfl (by simp only [go_sem, simprocAttr, h6, h7]; exact rfl) (by first | rfl | (simp only [go_sem, simprocAttr, h6, h7]; first | done | rfl)) (Ref.tuple (RefL.cons (Ref.agg (RefL.cons (Ref.nil 2 ⟨Nat.le_of_ble_eq_true rfl, Nat.le_of_ble_eq_true rfl⟩) (RefL.cons (Ref.refl _) (RefL.cons (Ref.refl _) (RefL.cons (Ref.refl _) (RefL.cons (Ref.refl _) (RefL.cons (Ref.refl _) (RefL.cons (Ref.refl _) (RefL.cons (Ref.nil 3 ⟨Nat.le_of_ble_eq_true rfl, Nat.le_of_ble_eq_true rfl⟩) (RefL.cons (Ref.nil 4 ⟨Nat.le_of_ble_eq_true rfl, Nat.le_of_ble_eq_true rfl⟩) (RefL.cons (Ref.refl _) (RefL.same [])))))))))))) (RefL.same _))) rfl (by decide) rfl rfl ?_ ?_
  all_goals try simp only [go_sem, simprocAttr, h6, h7]
  all_goals (rw [inOrder_no c1] <;> rfl)
 ·
  try simp only [cnd] at c1
  refine awl_skip ?_
  refine awl_seq ?_
  refine awl_regS _ rfl fun K hK => ?_
  try simp only [go_sem, simprocAttr, h0, h2, h4, h6, h12]
  repeat' (refine And.intro (by first | rfl | omega | (simp; done)) ?_)
  refine opS_call_ro rfl (sat_spec_l9Copy s hf) ?ha ?hv ?hh ?_
  case ha => simp only [go_sem, simprocAttr, h0, h2, h4, h6, h12]; first | done | rfl
  case hv => first | rfl | (simp only [go_sem]; done)
  case hh => first | rfl | (simp only [go_sem]; done)
  try simp only [go_sem, simprocAttr, h0, h2, h4, h6, h12]
  repeat' (refine And.intro (by first | rfl | omega | (simp; done)) ?_)
  refine hK _ _ (.mk (awl_live' [0, 2, 6, 8] fun ρ hL => ?_))
  try simp only [go_sem, simprocAttr, h0, h2, h4, h6, h12] at hL
  try clear h0 h2 h4 h6 h12
  obtain ⟨h0, h2, h6, h8⟩ := hL
  clear hK K
  refine awl_seq ?_
  refine awl_regS _ rfl fun K hK => ?_
  try simp only [go_sem, simprocAttr, h0, h2, h6, h8]
  repeat' (refine And.intro (by first | rfl | omega | (simp; done)) ?_)
  refine hK _ _ (.mk (awl_live' [0, 2, 6, 8, 9] fun ρ hL => ?_))
  try simp only [go_sem, simprocAttr, h0, h2, h6, h8] at hL
  try clear h0 h2 h6 h8
  obtain ⟨h0, h2, h6, h8, h9⟩ := hL
  clear hK K
  refine awl_seq ?_
  have e1_0 := h0
  have e1_2 := h2
  have e1_6 := h6
  have e1_8 := h8
  refine awl_loopH (fun H0 n σ G => ∃ (u : Stt) (k : Nat), n = (min a 600).toNat - k ∧ (k ≤ (min a 600).toNat) ∧ (u.fit) ∧ (ordGo l ((min a 600).toNat - k) u (k : Int) = ordGo l (min a 600).toNat s 0) ∧ liveE [0, 2, 6, 8] σ ρ ∧ σ 9 = .int .i64 (k : Int) ∧ G = [⟨10, s.cells, true, false⟩, ⟨10, [.nilsl, .int .i64 0, .bool false, .int .i64 0, .int .i64 0, .int .i64 0, .int .i64 0, .nilsl, .nilsl, .int .i64 0], true, false⟩, ⟨6, rows u.regs, true, false⟩, ⟨6, rows u.mem.words, true, false⟩, ⟨1, rows u.mem.gone, true, false⟩, ⟨10, u.own 2 3 4, true, false⟩]) (fun H0 σ G => ∃ (u : Stt) (k : Nat), (ordGo l (min a 600).toNat s 0 = (u, (k : Int))) ∧ liveE [6, 8] σ ρ ∧ σ 9 = .int .i64 (k : Int) ∧ G = [⟨10, s.cells, true, false⟩, ⟨10, [.nilsl, .int .i64 0, .bool false, .int .i64 0, .int .i64 0, .int .i64 0, .int .i64 0, .nilsl, .nilsl, .int .i64 0], true, false⟩, ⟨6, rows u.regs, true, false⟩, ⟨6, rows u.mem.words, true, false⟩, ⟨1, rows u.mem.gone, true, false⟩, ⟨10, u.own 2 3 4, true, false⟩]) ((fun (u : Stt) (k : Nat) => (min a 600).toNat - k) s  0) ?init1 (fun n ρ G hI => ?round1) (fun ρ G hJ => ?after1)
  case init1 => exact ⟨s, 0, rfl, (Nat.zero_le _), (hf), (rfl), liveE_refl _ _, (h9), rfl⟩
  case round1 =>
   obtain ⟨u, k, hn, i1_0, i1_1, i1_2, hL, k9, hG⟩ := hI
   subst hG
   try simp only [go_sem, simprocAttr, h0, h2, h6, h8, h9] at hL
   clear h0 h2 h6 h8 h9
   obtain ⟨h0, h2, h6, h8⟩ := hL
   have h9 := k9
   clear k9
   refine awl_seq ?_
   refine awl_seq ?_
   refine awl_regS _ rfl fun K hK => ?_
   try simp only [go_sem, simprocAttr, h0, h2, h6, h8, h9]
   repeat' (refine And.intro (by first | rfl | omega | (simp; done)) ?_)
   refine opS_call_ro rfl (sat_spec_l1Min ?_ ?_) ?ha ?hv ?hh ?_
   case ha => simp only [go_sem, simprocAttr, h0, h2, h6, h8, h9]; first | done | rfl
   case hv => first | rfl | (simp only [go_sem]; done)
   case hh => first | rfl | (simp only [go_sem]; done)
   try simp only [go_sem, simprocAttr, h0, h2, h6, h8, h9]
   repeat' (refine And.intro (by first | rfl | omega | (simp; done)) ?_)
   refine awpS_live [0, 2, 6, 8, 9, 20] fun ρ hL => ?_
   try simp only [go_sem, simprocAttr, h0, h2, h6, h8, h9] at hL
   try clear h0 h2 h6 h8 h9
   obtain ⟨h0, h2, h6, h8, h9, h20⟩ := hL
   refine grp_andN (tc := 20) (tv := 23) (td := 24) (v := ?v1) 3 rfl [0, 2, 6, 8, 9] h20 rfl (fun hb K1 hK1 => ?run) (fun hb => ?skip) (fun ρ hP hL => ?_)
   case skip =>
    exact awpS_skip (want := true) (b := _) (by rw [hb]; rfl) _ [] ρ h20 (fun _ _ => rfl) (by simp) rfl
   case run =>
    simp only [List.take_succ_cons, List.take_zero]
    rw [hb] at h20
    try simp only [go_sem, simprocAttr, h0, h2, h6, h8, h9, h20]
    repeat' (refine And.intro (by first | rfl | omega | (simp; done)) ?_)
    exact hK1 _ (by simp only [go_sem, simprocAttr, h0, h2, h6, h8, h9, h20]) (by simp only [go_sem, simprocAttr, h0, h2, h6, h8, h9, h20]; exact rfl) (by simp only [go_sem, simprocAttr, h0, h2, h6, h8, h9, h20])
   simp only [List.drop_succ_cons, List.drop_zero]
   try simp only [go_sem, simprocAttr, h0, h2, h6, h8, h9, h20] at hL
   try clear h0 h2 h6 h8 h9 h20
   obtain ⟨h0, h2, h6, h8, h9⟩ := hL
   have h24 := hP
   clear hP
   try simp only [go_sem, simprocAttr, h0, h2, h6, h8, h9, h24]
   repeat' (refine And.intro (by first | rfl | omega | (simp; done)) ?_)
   refine hK _ _ (.mk (awl_live' [0, 2, 6, 8, 9, 24] fun ρ hL => ?_))
   try simp only [go_sem, simprocAttr, h0, h2, h6, h8, h9, h24] at hL
   try clear h0 h2 h6 h8 h9 h24
   obtain ⟨h0, h2, h6, h8, h9, h24⟩ := hL
   clear hK K
   refine awl_cond h24 (fun c2 => ?_) (fun c2 => ?_)
   ·
    try simp only [cnd] at c2
    refine awl_skip ?_
    refine awl_block fun R1 hw1 hR1 => ?_
    refine awl_seq ?_
    refine awl_regS _ rfl fun K hK => ?_
    try simp only [go_sem, simprocAttr, h0, h2, h6, h8, h9, h24]
    repeat' (refine And.intro (by first | rfl | omega | (simp; done)) ?_)
    refine opS_call_ro rfl (sat_spec_Step l u hl i1_1) ?ha ?hv ?hh ?_
    case ha => simp only [go_sem, simprocAttr, h0, h2, h6, h8, h9, h24]; first | done | rfl
    case hv => first | rfl | (simp only [go_sem]; done)
    case hh => first | rfl | (simp only [go_sem]; done)
    try simp only [go_sem, simprocAttr, h0, h2, h6, h8, h9, h24]
    repeat' (refine And.intro (by first | rfl | omega | (simp; done)) ?_)
    refine hK _ _ (.mk (awl_live' [0, 2, 6, 8, 9] fun ρ hL => ?_))
    try simp only [go_sem, simprocAttr, h0, h2, h6, h8, h9, h24] at hL
    try clear h0 h2 h6 h8 h9 h24
    obtain ⟨h0, h2, h6, h8, h9⟩ := hL
    clear hK K
    have wk : IntKind.i64.wrap ((k : Int) + 1) = ((k + 1 : Nat) : Int) := by rw [wrap64 (by omega)]; omega
    refine awl_regS _ rfl fun K hK => ?_
    try simp only [go_sem, simprocAttr, h0, h2, h6, h8, h9, wk]
    repeat' (refine And.intro (by first | rfl | omega | (simp; done)) ?_)
    refine hK _ _ (.mk (awl_live' [0, 2, 6, 8, 9] fun ρ hL => ?_))
    try simp only [go_sem, simprocAttr, h0, h2, h6, h8, h9, wk] at hL
    try clear h0 h2 h6 h8 h9
    obtain ⟨h0, h2, h6, h8, h9⟩ := hL
    clear hK K
    refine awl_nil ?_
    refine blk_normal (hR1 _ _ (.mk ?_))
    refine awl_nil ?_
    refine loop_againW (Wk.keep [0, 1, 6, 7, 8, 5] rfl) _ ?meas ⟨(step l u), (k + 1), rfl, (by omega), (by exact step_fit i1_1), (by rw [← i1_2, ord_step (by omega) c2.2]), (by simp only [go_sem, simprocAttr, h0, h2, h6, h8, h9, e1_0, e1_2, e1_6, e1_8]), (by simp only [go_sem, simprocAttr, h0, h2, h6, h8, h9, e1_0, e1_2, e1_6, e1_8]; first | done | rfl), (by simp only [go_sem, simprocAttr, h0, h2, h6, h8, h9, e1_0, e1_2, e1_6, e1_8]; first | done | rfl)⟩
    case meas => subst hn; omega
   ·
    try simp only [cnd] at c2
    refine awl_exit ?_
    refine loop_break ?_
    exact ⟨u, k, (by rw [← i1_2]; exact ord_stop (by rcases c2 with c2 | c2; exact Or.inl (by omega); exact Or.inr c2)), (by simp only [go_sem, simprocAttr, h0, h2, h6, h8, h9, h24, e1_0, e1_2, e1_6, e1_8]), (h9), rfl⟩
  case after1 =>
   obtain ⟨u, k, j1_0, hL, k9, hG⟩ := hJ
   subst hG
   try simp only [go_sem, simprocAttr, h0, h2, h6, h8, h9] at hL
   clear h0 h2 h6 h8 h9
   obtain ⟨h6, h8⟩ := hL
   have h9 := k9
   clear k9
   refine awl_seq ?_
   refine awl_regS _ rfl fun K hK => ?_
   try simp only [go_sem, simprocAttr, h6, h8, h9]
   repeat' (refine And.intro (by first | rfl | omega | (simp; done)) ?_)
   refine hK _ _ (.mk (awl_live' [6, 7] fun ρ hL => ?_))
   try simp only [go_sem, simprocAttr, h6, h8, h9] at hL
   try clear h6 h8 h9
   obtain ⟨h6, h7⟩ := hL
   clear hK K
   refine awl_ret ?_
   refine retK [2, 3, 4] [2, 3, 4] rfl (by simp only [go_sem, simprocAttr, h6, h7]; exact rfl) (by decide) (by first | rfl | (simp only [go_sem, simprocAttr, h6, h7]; first | done | rfl)) (by first | rfl | (simp only [go_sem, simprocAttr, h6, h7]; first | done | rfl)) ?_ ?_
   all_goals try simp only [go_sem, simprocAttr, h6, h7]
   all_goals try clear hR1
   all_goals (rw [inOrder_go c1, j1_0] <;> rfl)
set_option maxHeartbeats 8000000 in
set_option maxRecDepth 100000 in
theorem sat_impl_InOrder (l : List Ins) (s : Stt) (a : Int) (hl : l.length ≤ 1048576) (hf : s.fit) : Sat Tryz.prog 18 [.sl l.length l.length (rows l), .agg s.cells, .int .i64 a] [] (.tuple [.agg ((inOrder l s a).1.own 0 1 2), .int .i64 (inOrder l s a).2]) (inOrder l s a).1.blks := by
 refine sat_mk [.cell 6 42, .tmp 7] 0 32 Tryz.call18 Tryz.func18 Tryz.ntmps18 rfl rfl rfl rfl rfl ?_
 refine awl_live' [0, 1, 2] fun ρ hL => ?_
 try simp only [go_sem, simprocAttr] at hL
 obtain ⟨h0, h1, h2⟩ := hL
 refine awl_seq ?_
 refine awl_regS _ rfl fun K hK => ?_
 try simp only [go_sem, simprocAttr, h0, h1, h2]
 repeat' (refine And.intro (by first | rfl | omega | (simp; done)) ?_)
 refine hK _ _ (.mk (awl_live' [0, 2, 4, 6] fun ρ hL => ?_))
 try simp only [go_sem, simprocAttr, h0, h1, h2] at hL
 try clear h0 h1 h2
 obtain ⟨h0, h2, h4, h6⟩ := hL
 clear hK K
 refine awl_seq ?_
 refine awl_seq ?_
 refine awl_regS _ rfl fun K hK => ?_
 try simp only [go_sem, simprocAttr, h0, h2, h4, h6]
 repeat' (refine And.intro (by first | rfl | omega | (simp; done)) ?_)
 refine opS_call_ro rfl (sat_impl_StateOk s hf) ?ha ?hv ?hh ?_
 case ha => simp only [go_sem, simprocAttr, h0, h2, h4, h6]; first | done | rfl
 case hv => first | rfl | (simp only [go_sem]; done)
 case hh => first | rfl | (simp only [go_sem]; done)
 try simp only [go_sem, simprocAttr, h0, h2, h4, h6]
 repeat' (refine And.intro (by first | rfl | omega | (simp; done)) ?_)
 refine hK _ _ (.mk (awl_live' [0, 2, 4, 6, 12] fun ρ hL => ?_))
 try simp only [go_sem, simprocAttr, h0, h2, h4, h6] at hL
 try clear h0 h2 h4 h6
 obtain ⟨h0, h2, h4, h6, h12⟩ := hL
 clear hK K
 refine awl_cond h12 (fun c1 => ?_) (fun c1 => ?_)
 ·
  try simp only [cnd] at c1
  refine awl_seq ?_
  refine awl_regS _ rfl fun K hK => ?_
  try simp only [go_sem, simprocAttr, h0, h2, h4, h6, h12]
  repeat' (refine And.intro (by first | rfl | omega | (simp; done)) ?_)
  refine hK _ _ (.mk (awl_live' [6, 7] fun ρ hL => ?_))
  try simp only [go_sem, simprocAttr, h0, h2, h4, h6, h12] at hL
  try clear h0 h2 h4 h6 h12
  obtain ⟨h6, h7⟩ := hL
  clear hK K
  refine awl_ret ?_
  refine retN (v := .tuple [.agg [.nilsl, .int .i64 0, .bool false, .int .i64 0, .int .i64 0, .int .i64 0, .int .i64 0, .nilsl, .nilsl, .int .i64 0], .int .i64 0]) [6, 6, 1] [2, 3, 4] [2, 3, 4] rfl (by simp only [go_sem, simprocAttr, h6, h7]; exact rfl) (by first | rfl | (simp only [go_sem, simprocAttr, h6, h7]; first | done | rfl)) (Ref.tuple (RefL.cons (Ref.agg (RefL.cons (Ref.nil 2 ⟨Nat.le_of_ble_eq_true rfl, Nat.le_of_ble_eq_true rfl⟩) (RefL.cons (Ref.refl _) (RefL.cons (Ref.refl _) (RefL.cons (Ref.refl _) (RefL.cons (Ref.refl _) (RefL.cons (Ref.refl _) (RefL.cons (Ref.refl _) (RefL.cons (Ref.nil 3 ⟨Nat.le_of_ble_eq_true rfl, Nat.le_of_ble_eq_true rfl⟩) (RefL.cons (Ref.nil 4 ⟨Nat.le_of_ble_eq_true rfl, Nat.le_of_ble_eq_true rfl⟩) (RefL.cons (Ref.refl _) (RefL.same [])))))))))))) (RefL.same _))) rfl (by decide) rfl rfl ?_ ?_
  all_goals try simp only [go_sem, simprocAttr, h6, h7]
  all_goals (rw [inOrder_no c1] <;> rfl)
 ·
  try simp only [cnd] at c1
  refine awl_skip ?_
  refine awl_seq ?_
  refine awl_regS _ rfl fun K hK => ?_
  try simp only [go_sem, simprocAttr, h0, h2, h4, h6, h12]
  repeat' (refine And.intro (by first | rfl | omega | (simp; done)) ?_)
  refine opS_call_ro rfl (sat_impl_cloneState s hf) ?ha ?hv ?hh ?_
  case ha => simp only [go_sem, simprocAttr, h0, h2, h4, h6, h12]; first | done | rfl
  case hv => first | rfl | (simp only [go_sem]; done)
  case hh => first | rfl | (simp only [go_sem]; done)
  try simp only [go_sem, simprocAttr, h0, h2, h4, h6, h12]
  repeat' (refine And.intro (by first | rfl | omega | (simp; done)) ?_)
  refine hK _ _ (.mk (awl_live' [0, 2, 6, 8] fun ρ hL => ?_))
  try simp only [go_sem, simprocAttr, h0, h2, h4, h6, h12] at hL
  try clear h0 h2 h4 h6 h12
  obtain ⟨h0, h2, h6, h8⟩ := hL
  clear hK K
  refine awl_seq ?_
  refine awl_regS _ rfl fun K hK => ?_
  try simp only [go_sem, simprocAttr, h0, h2, h6, h8]
  repeat' (refine And.intro (by first | rfl | omega | (simp; done)) ?_)
  refine hK _ _ (.mk (awl_live' [0, 2, 6, 8, 9] fun ρ hL => ?_))
  try simp only [go_sem, simprocAttr, h0, h2, h6, h8] at hL
  try clear h0 h2 h6 h8
  obtain ⟨h0, h2, h6, h8, h9⟩ := hL
  clear hK K
  refine awl_seq ?_
  have e1_0 := h0
  have e1_2 := h2
  have e1_6 := h6
  have e1_8 := h8
  refine awl_loopH (fun H0 n σ G => ∃ (u : Stt) (k : Nat), n = (min a 600).toNat - k ∧ (k ≤ (min a 600).toNat) ∧ (u.fit) ∧ (ordGo l ((min a 600).toNat - k) u (k : Int) = ordGo l (min a 600).toNat s 0) ∧ liveE [0, 2, 6, 8] σ ρ ∧ σ 9 = .int .i64 (k : Int) ∧ G = [⟨10, s.cells, true, false⟩, ⟨10, [.nilsl, .int .i64 0, .bool false, .int .i64 0, .int .i64 0, .int .i64 0, .int .i64 0, .nilsl, .nilsl, .int .i64 0], true, false⟩, ⟨6, rows u.regs, true, false⟩, ⟨6, rows u.mem.words, true, false⟩, ⟨1, rows u.mem.gone, true, false⟩, ⟨10, u.own 2 3 4, true, false⟩]) (fun H0 σ G => ∃ (u : Stt) (k : Nat), (ordGo l (min a 600).toNat s 0 = (u, (k : Int))) ∧ liveE [6, 8] σ ρ ∧ σ 9 = .int .i64 (k : Int) ∧ G = [⟨10, s.cells, true, false⟩, ⟨10, [.nilsl, .int .i64 0, .bool false, .int .i64 0, .int .i64 0, .int .i64 0, .int .i64 0, .nilsl, .nilsl, .int .i64 0], true, false⟩, ⟨6, rows u.regs, true, false⟩, ⟨6, rows u.mem.words, true, false⟩, ⟨1, rows u.mem.gone, true, false⟩, ⟨10, u.own 2 3 4, true, false⟩]) ((fun (u : Stt) (k : Nat) => (min a 600).toNat - k) s  0) ?init1 (fun n ρ G hI => ?round1) (fun ρ G hJ => ?after1)
  case init1 => exact ⟨s, 0, rfl, (Nat.zero_le _), (hf), (rfl), liveE_refl _ _, (h9), rfl⟩
  case round1 =>
   obtain ⟨u, k, hn, i1_0, i1_1, i1_2, hL, k9, hG⟩ := hI
   subst hG
   try simp only [go_sem, simprocAttr, h0, h2, h6, h8, h9] at hL
   clear h0 h2 h6 h8 h9
   obtain ⟨h0, h2, h6, h8⟩ := hL
   have h9 := k9
   clear k9
   refine awl_seq ?_
   refine awl_seq ?_
   refine awl_regS _ rfl fun K hK => ?_
   try simp only [go_sem, simprocAttr, h0, h2, h6, h8, h9]
   repeat' (refine And.intro (by first | rfl | omega | (simp; done)) ?_)
   refine awpS_live [0, 2, 6, 8, 9, 20] fun ρ hL => ?_
   try simp only [go_sem, simprocAttr, h0, h2, h6, h8, h9] at hL
   try clear h0 h2 h6 h8 h9
   obtain ⟨h0, h2, h6, h8, h9, h20⟩ := hL
   refine grp_andN (tc := 20) (tv := 23) (td := 24) (v := ?v1) 3 rfl [0, 2, 6, 8, 9] h20 rfl (fun hb K1 hK1 => ?run) (fun hb => ?skip) (fun ρ hP hL => ?_)
   case skip =>
    exact awpS_skip (want := true) (b := _) (by rw [hb]; rfl) _ [] ρ h20 (fun _ _ => rfl) (by simp) rfl
   case run =>
    simp only [List.take_succ_cons, List.take_zero]
    rw [hb] at h20
    try simp only [go_sem, simprocAttr, h0, h2, h6, h8, h9, h20]
    repeat' (refine And.intro (by first | rfl | omega | (simp; done)) ?_)
    exact hK1 _ (by simp only [go_sem, simprocAttr, h0, h2, h6, h8, h9, h20]) (by simp only [go_sem, simprocAttr, h0, h2, h6, h8, h9, h20]; exact rfl) (by simp only [go_sem, simprocAttr, h0, h2, h6, h8, h9, h20])
   simp only [List.drop_succ_cons, List.drop_zero]
   try simp only [go_sem, simprocAttr, h0, h2, h6, h8, h9, h20] at hL
   try clear h0 h2 h6 h8 h9 h20
   obtain ⟨h0, h2, h6, h8, h9⟩ := hL
   have h24 := hP
   clear hP
   try simp only [go_sem, simprocAttr, h0, h2, h6, h8, h9, h24]
   repeat' (refine And.intro (by first | rfl | omega | (simp; done)) ?_)
   refine hK _ _ (.mk (awl_live' [0, 2, 6, 8, 9, 24] fun ρ hL => ?_))
   try simp only [go_sem, simprocAttr, h0, h2, h6, h8, h9, h24] at hL
   try clear h0 h2 h6 h8 h9 h24
   obtain ⟨h0, h2, h6, h8, h9, h24⟩ := hL
   clear hK K
   refine awl_cond h24 (fun c2 => ?_) (fun c2 => ?_)
   ·
    try simp only [cnd] at c2
    refine awl_skip ?_
    refine awl_block fun R1 hw1 hR1 => ?_
    refine awl_seq ?_
    refine awl_regS _ rfl fun K hK => ?_
    try simp only [go_sem, simprocAttr, h0, h2, h6, h8, h9, h24]
    repeat' (refine And.intro (by first | rfl | omega | (simp; done)) ?_)
    refine opS_call_ro rfl (sat_impl_Step l u hl i1_1) ?ha ?hv ?hh ?_
    case ha => simp only [go_sem, simprocAttr, h0, h2, h6, h8, h9, h24]; first | done | rfl
    case hv => first | rfl | (simp only [go_sem]; done)
    case hh => first | rfl | (simp only [go_sem]; done)
    try simp only [go_sem, simprocAttr, h0, h2, h6, h8, h9, h24]
    repeat' (refine And.intro (by first | rfl | omega | (simp; done)) ?_)
    refine hK _ _ (.mk (awl_live' [0, 2, 6, 8, 9] fun ρ hL => ?_))
    try simp only [go_sem, simprocAttr, h0, h2, h6, h8, h9, h24] at hL
    try clear h0 h2 h6 h8 h9 h24
    obtain ⟨h0, h2, h6, h8, h9⟩ := hL
    clear hK K
    have wk : IntKind.i64.wrap ((k : Int) + 1) = ((k + 1 : Nat) : Int) := by rw [wrap64 (by omega)]; omega
    refine awl_regS _ rfl fun K hK => ?_
    try simp only [go_sem, simprocAttr, h0, h2, h6, h8, h9, wk]
    repeat' (refine And.intro (by first | rfl | omega | (simp; done)) ?_)
    refine hK _ _ (.mk (awl_live' [0, 2, 6, 8, 9] fun ρ hL => ?_))
    try simp only [go_sem, simprocAttr, h0, h2, h6, h8, h9, wk] at hL
    try clear h0 h2 h6 h8 h9
    obtain ⟨h0, h2, h6, h8, h9⟩ := hL
    clear hK K
    refine awl_nil ?_
    refine blk_normal (hR1 _ _ (.mk ?_))
    refine awl_nil ?_
    refine loop_againW (Wk.keep [0, 1, 6, 7, 8, 5] rfl) _ ?meas ⟨(step l u), (k + 1), rfl, (by omega), (by exact step_fit i1_1), (by rw [← i1_2, ord_step (by omega) c2.2]), (by simp only [go_sem, simprocAttr, h0, h2, h6, h8, h9, e1_0, e1_2, e1_6, e1_8]), (by simp only [go_sem, simprocAttr, h0, h2, h6, h8, h9, e1_0, e1_2, e1_6, e1_8]; first | done | rfl), (by simp only [go_sem, simprocAttr, h0, h2, h6, h8, h9, e1_0, e1_2, e1_6, e1_8]; first | done | rfl)⟩
    case meas => subst hn; omega
   ·
    try simp only [cnd] at c2
    refine awl_exit ?_
    refine loop_break ?_
    exact ⟨u, k, (by rw [← i1_2]; exact ord_stop (by rcases c2 with c2 | c2; exact Or.inl (by omega); exact Or.inr c2)), (by simp only [go_sem, simprocAttr, h0, h2, h6, h8, h9, h24, e1_0, e1_2, e1_6, e1_8]), (h9), rfl⟩
  case after1 =>
   obtain ⟨u, k, j1_0, hL, k9, hG⟩ := hJ
   subst hG
   try simp only [go_sem, simprocAttr, h0, h2, h6, h8, h9] at hL
   clear h0 h2 h6 h8 h9
   obtain ⟨h6, h8⟩ := hL
   have h9 := k9
   clear k9
   refine awl_seq ?_
   refine awl_regS _ rfl fun K hK => ?_
   try simp only [go_sem, simprocAttr, h6, h8, h9]
   repeat' (refine And.intro (by first | rfl | omega | (simp; done)) ?_)
   refine hK _ _ (.mk (awl_live' [6, 7] fun ρ hL => ?_))
   try simp only [go_sem, simprocAttr, h6, h8, h9] at hL
   try clear h6 h8 h9
   obtain ⟨h6, h7⟩ := hL
   clear hK K
   refine awl_ret ?_
   refine retK [2, 3, 4] [2, 3, 4] rfl (by simp only [go_sem, simprocAttr, h6, h7]; exact rfl) (by decide) (by first | rfl | (simp only [go_sem, simprocAttr, h6, h7]; first | done | rfl)) (by first | rfl | (simp only [go_sem, simprocAttr, h6, h7]; first | done | rfl)) ?_ ?_
   all_goals try simp only [go_sem, simprocAttr, h6, h7]
   all_goals try clear hR1
   all_goals (rw [inOrder_go c1, j1_0] <;> rfl)
set_option maxHeartbeats 8000000 in
set_option maxRecDepth 100000 in
theorem sat_spec_Run (l : List Ins) (s : Stt) (ns : List Int) (hl : l.length ≤ 1048576) (hf : s.fit) (hn_ : ns.length ≤ 1048576) : Sat Tryz.prog 19 [.sl l.length l.length (rows l), .agg s.cells, .sl ns.length ns.length (ints ns)] [] (.agg ((run l s ns).own 0 1 2)) (run l s ns).blks := by
 refine sat_mk [.cell 6 42] 0 43 Tryz.call19 Tryz.func19 Tryz.ntmps19 rfl rfl rfl rfl rfl ?_
 refine awl_live' [0, 1, 2] fun ρ hL => ?_
 try simp only [go_sem, simprocAttr] at hL
 obtain ⟨h0, h1, h2⟩ := hL
 refine awl_seq ?_
 refine awl_regS _ rfl fun K hK => ?_
 try simp only [go_sem, simprocAttr, h0, h1, h2]
 repeat' (refine And.intro (by first | rfl | omega | (simp; done)) ?_)
 refine hK _ _ (.mk (awl_live' [0, 2, 4, 6] fun ρ hL => ?_))
 try simp only [go_sem, simprocAttr, h0, h1, h2] at hL
 try clear h0 h1 h2
 obtain ⟨h0, h2, h4, h6⟩ := hL
 clear hK K
 refine awl_seq ?_
 refine awl_seq ?_
 refine awl_regS _ rfl fun K hK => ?_
 try simp only [go_sem, simprocAttr, h0, h2, h4, h6]
 repeat' (refine And.intro (by first | rfl | omega | (simp; done)) ?_)
 refine opS_call_ro rfl (sat_spec_StateOk s hf) ?ha ?hv ?hh ?_
 case ha => simp only [go_sem, simprocAttr, h0, h2, h4, h6]; first | done | rfl
 case hv => first | rfl | (simp only [go_sem]; done)
 case hh => first | rfl | (simp only [go_sem]; done)
 try simp only [go_sem, simprocAttr, h0, h2, h4, h6]
 repeat' (refine And.intro (by first | rfl | omega | (simp; done)) ?_)
 refine hK _ _ (.mk (awl_live' [0, 2, 4, 6, 11] fun ρ hL => ?_))
 try simp only [go_sem, simprocAttr, h0, h2, h4, h6] at hL
 try clear h0 h2 h4 h6
 obtain ⟨h0, h2, h4, h6, h11⟩ := hL
 clear hK K
 refine awl_cond h11 (fun c1 => ?_) (fun c1 => ?_)
 ·
  try simp only [cnd] at c1
  refine awl_seq ?_
  refine awl_regS _ rfl fun K hK => ?_
  try simp only [go_sem, simprocAttr, h0, h2, h4, h6, h11]
  repeat' (refine And.intro (by first | rfl | omega | (simp; done)) ?_)
  refine hK _ _ (.mk (awl_live' [6] fun ρ hL => ?_))
  try simp only [go_sem, simprocAttr, h0, h2, h4, h6, h11] at hL
  try clear h0 h2 h4 h6 h11
  have h6 := hL
  clear hL
  clear hK K
  refine awl_ret ?_
  refine retN (v := .agg [.nilsl, .int .i64 0, .bool false, .int .i64 0, .int .i64 0, .int .i64 0, .int .i64 0, .nilsl, .nilsl, .int .i64 0]) [6, 6, 1] [2, 3, 4] [2, 3, 4] rfl (by simp only [go_sem, simprocAttr, h6]; exact rfl) (by first | rfl | (simp only [go_sem, simprocAttr, h6]; first | done | rfl)) (Ref.agg (RefL.cons (Ref.nil 2 ⟨Nat.le_of_ble_eq_true rfl, Nat.le_of_ble_eq_true rfl⟩) (RefL.cons (Ref.refl _) (RefL.cons (Ref.refl _) (RefL.cons (Ref.refl _) (RefL.cons (Ref.refl _) (RefL.cons (Ref.refl _) (RefL.cons (Ref.refl _) (RefL.cons (Ref.nil 3 ⟨Nat.le_of_ble_eq_true rfl, Nat.le_of_ble_eq_true rfl⟩) (RefL.cons (Ref.nil 4 ⟨Nat.le_of_ble_eq_true rfl, Nat.le_of_ble_eq_true rfl⟩) (RefL.cons (Ref.refl _) (RefL.same [])))))))))))) rfl (by decide) rfl rfl ?_ ?_
  all_goals try simp only [go_sem, simprocAttr, h6]
  all_goals (rw [run_no c1] <;> rfl)
 ·
  try simp only [cnd] at c1
  refine awl_skip ?_
  refine awl_seq ?_
  refine awl_regS _ rfl fun K hK => ?_
  try simp only [go_sem, simprocAttr, h0, h2, h4, h6, h11]
  repeat' (refine And.intro (by first | rfl | omega | (simp; done)) ?_)
  refine opS_call_ro rfl (sat_spec_l9Copy s hf) ?ha ?hv ?hh ?_
  case ha => simp only [go_sem, simprocAttr, h0, h2, h4, h6, h11]; first | done | rfl
  case hv => first | rfl | (simp only [go_sem]; done)
  case hh => first | rfl | (simp only [go_sem]; done)
  try simp only [go_sem, simprocAttr, h0, h2, h4, h6, h11]
  repeat' (refine And.intro (by first | rfl | omega | (simp; done)) ?_)
  refine hK _ _ (.mk (awl_live' [0, 2, 6, 7] fun ρ hL => ?_))
  try simp only [go_sem, simprocAttr, h0, h2, h4, h6, h11] at hL
  try clear h0 h2 h4 h6 h11
  obtain ⟨h0, h2, h6, h7⟩ := hL
  clear hK K
  refine awl_seq ?_
  refine awl_seq ?_
  refine awl_regS _ rfl fun K hK => ?_
  try simp only [go_sem, simprocAttr, h0, h2, h6, h7]
  repeat' (refine And.intro (by first | rfl | omega | (simp; done)) ?_)
  refine hK _ _ (.mk (awl_live' [0, 2, 6, 7, 8] fun ρ hL => ?_))
  try simp only [go_sem, simprocAttr, h0, h2, h6, h7] at hL
  try clear h0 h2 h6 h7
  obtain ⟨h0, h2, h6, h7, h8⟩ := hL
  clear hK K
  have e1_0 := h0
  have e1_2 := h2
  have e1_6 := h6
  have e1_7 := h7
  refine awl_loopH (fun H0 n σ G => ∃ (u : Stt) (i : Nat), n = ns.length - i ∧ (i ≤ ns.length) ∧ (ns.length ≤ 600 ∨ i = 0) ∧ (u.fit) ∧ ((ns.take i).foldl (runOne l) s = u) ∧ liveE [0, 2, 6, 7] σ ρ ∧ σ 8 = .int .i64 (i : Int) ∧ G = [⟨10, s.cells, true, false⟩, ⟨10, [.nilsl, .int .i64 0, .bool false, .int .i64 0, .int .i64 0, .int .i64 0, .int .i64 0, .nilsl, .nilsl, .int .i64 0], true, false⟩, ⟨6, rows u.regs, true, false⟩, ⟨6, rows u.mem.words, true, false⟩, ⟨1, rows u.mem.gone, true, false⟩, ⟨10, u.own 2 3 4, true, false⟩]) (fun H0 σ G => ∃ (u : Stt), (run l s ns = u) ∧ liveE [6, 7] σ ρ ∧ G = [⟨10, s.cells, true, false⟩, ⟨10, [.nilsl, .int .i64 0, .bool false, .int .i64 0, .int .i64 0, .int .i64 0, .int .i64 0, .nilsl, .nilsl, .int .i64 0], true, false⟩, ⟨6, rows u.regs, true, false⟩, ⟨6, rows u.mem.words, true, false⟩, ⟨1, rows u.mem.gone, true, false⟩, ⟨10, u.own 2 3 4, true, false⟩]) ((fun (u : Stt) (i : Nat) => ns.length - i) s  0) ?init1 (fun n ρ G hI => ?round1) (fun ρ G hJ => ?after1)
  case init1 => exact ⟨s, 0, rfl, (Nat.zero_le _), (Or.inr rfl), (hf), (rfl), liveE_refl _ _, (h8), rfl⟩
  case round1 =>
   obtain ⟨u, i, hn, i1_0, i1_1, i1_2, i1_3, hL, k8, hG⟩ := hI
   subst hG
   try simp only [go_sem, simprocAttr, h0, h2, h6, h7, h8] at hL
   clear h0 h2 h6 h7 h8
   obtain ⟨h0, h2, h6, h7⟩ := hL
   have h8 := k8
   clear k8
   refine awl_seq ?_
   refine awl_seq ?_
   refine awl_regS _ rfl fun K hK => ?_
   try simp only [go_sem, simprocAttr, h0, h2, h6, h7, h8]
   repeat' (refine And.intro (by first | rfl | omega | (simp; done)) ?_)
   refine awpS_live [0, 2, 6, 7, 8, 19] fun ρ hL => ?_
   try simp only [go_sem, simprocAttr, h0, h2, h6, h7, h8] at hL
   try clear h0 h2 h6 h7 h8
   obtain ⟨h0, h2, h6, h7, h8, h19⟩ := hL
   refine grp_andN (tc := 19) (tv := 22) (td := 23) (v := ?v1) 3 rfl [0, 2, 6, 7, 8] h19 rfl (fun hb K1 hK1 => ?run) (fun hb => ?skip) (fun ρ hP hL => ?_)
   case skip =>
    exact awpS_skip (want := true) (b := _) (by rw [hb]; rfl) _ [] ρ h19 (fun _ _ => rfl) (by simp) rfl
   case run =>
    simp only [List.take_succ_cons, List.take_zero]
    rw [hb] at h19
    try simp only [go_sem, simprocAttr, h0, h2, h6, h7, h8, h19]
    repeat' (refine And.intro (by first | rfl | omega | (simp; done)) ?_)
    exact hK1 _ (by simp only [go_sem, simprocAttr, h0, h2, h6, h7, h8, h19]) (by simp only [go_sem, simprocAttr, h0, h2, h6, h7, h8, h19]; exact rfl) (by simp only [go_sem, simprocAttr, h0, h2, h6, h7, h8, h19])
   simp only [List.drop_succ_cons, List.drop_zero]
   try simp only [go_sem, simprocAttr, h0, h2, h6, h7, h8, h19] at hL
   try clear h0 h2 h6 h7 h8 h19
   obtain ⟨h0, h2, h6, h7, h8⟩ := hL
   have h23 := hP
   clear hP
   try simp only [go_sem, simprocAttr, h0, h2, h6, h7, h8, h23]
   repeat' (refine And.intro (by first | rfl | omega | (simp; done)) ?_)
   refine hK _ _ (.mk (awl_live' [0, 2, 6, 7, 8, 23] fun ρ hL => ?_))
   try simp only [go_sem, simprocAttr, h0, h2, h6, h7, h8, h23] at hL
   try clear h0 h2 h6 h7 h8 h23
   obtain ⟨h0, h2, h6, h7, h8, h23⟩ := hL
   clear hK K
   refine awl_cond h23 (fun c2 => ?_) (fun c2 => ?_)
   ·
    try simp only [cnd] at c2
    refine awl_skip ?_
    refine awl_seq ?_
    refine awl_block fun R1 hw1 hR1 => ?_
    refine awl_seq ?_
    have hi9 : i < ns.length := by omega
    refine awl_regS _ rfl fun K hK => ?_
    try simp only [go_sem, simprocAttr, h0, h2, h6, h7, h8, h23, hi9]
    repeat' (refine And.intro (by first | rfl | omega | (simp; done)) ?_)
    refine hK _ _ (.mk (awl_live' [0, 2, 6, 7, 8, 30] fun ρ hL => ?_))
    try simp only [go_sem, simprocAttr, h0, h2, h6, h7, h8, h23, hi9] at hL
    try clear h0 h2 h6 h7 h8 h23
    obtain ⟨h0, h2, h6, h7, h8, h30⟩ := hL
    clear hK K
    refine awl_cond h30 (fun c3 => ?_) (fun c3 => ?_)
    ·
     try simp only [cnd] at c3
     refine awl_regS _ rfl fun K hK => ?_
     try simp only [go_sem, simprocAttr, h0, h2, h6, h7, h8, h30]
     repeat' (refine And.intro (by first | rfl | omega | (simp; done)) ?_)
     refine opS_call_ro rfl (sat_spec_Step l u hl i1_2) ?ha ?hv ?hh ?_
     case ha => simp only [go_sem, simprocAttr, h0, h2, h6, h7, h8, h30]; first | done | rfl
     case hv => first | rfl | (simp only [go_sem]; done)
     case hh => first | rfl | (simp only [go_sem]; done)
     try simp only [go_sem, simprocAttr, h0, h2, h6, h7, h8, h30]
     repeat' (refine And.intro (by first | rfl | omega | (simp; done)) ?_)
     refine hK _ _ (.mk (awl_live' [0, 2, 6, 7, 8] fun ρ hL => ?_))
     try simp only [go_sem, simprocAttr, h0, h2, h6, h7, h8, h30] at hL
     try clear h0 h2 h6 h7 h8 h30
     obtain ⟨h0, h2, h6, h7, h8⟩ := hL
     clear hK K
     refine awl_nil ?_
     refine blk_normal (hR1 _ _ (.mk ?_))
     have wi : IntKind.i64.wrap ((i : Int) + 1) = ((i + 1 : Nat) : Int) := by rw [wrap64 (by omega)]; omega
     refine awl_regS _ rfl fun K hK => ?_
     try simp only [go_sem, simprocAttr, h0, h2, h6, h7, h8, wi]
     repeat' (refine And.intro (by first | rfl | omega | (simp; done)) ?_)
     refine hK _ _ (.mk (awl_live' [0, 2, 6, 7, 8] fun ρ hL => ?_))
     try simp only [go_sem, simprocAttr, h0, h2, h6, h7, h8, wi] at hL
     try clear h0 h2 h6 h7 h8
     obtain ⟨h0, h2, h6, h7, h8⟩ := hL
     clear hK K
     refine awl_nil ?_
     refine loop_againW (Wk.keep [0, 1, 6, 7, 8, 5] rfl) _ ?meas ⟨(step l u), (i + 1), rfl, (by omega), (by exact Or.inl (by omega)), (by exact step_fit i1_2), (by rw [foldl_take hi9 i1_3, runOne_step c3]), (by simp only [go_sem, simprocAttr, h0, h2, h6, h7, h8, e1_0, e1_2, e1_6, e1_7]), (by simp only [go_sem, simprocAttr, h0, h2, h6, h7, h8, e1_0, e1_2, e1_6, e1_7]; first | done | rfl), (by simp only [go_sem, simprocAttr, h0, h2, h6, h7, h8, e1_0, e1_2, e1_6, e1_7]; first | done | rfl)⟩
     case meas => subst hn; omega
    ·
     try simp only [cnd] at c3
     refine awl_regD mixed _ rfl fun K hK => ?_
     try simp only [go_sem, simprocAttr, h0, h2, h6, h7, h8, h30, hi9]
     repeat' (refine And.intro (by first | omega | (exact ⟨[0, 1, 0, 0, 12, 28, 63, 127, 255], by kernel_rfl⟩) | kernel_rfl) ?_)
     refine dS_call_ro rfl (sat_spec_Sweep u.mem (ns.getD i 0) i1_2.2) ?ha ?hv ?hh ?_
     case ha => simp only [go_sem, simprocAttr, h0, h2, h6, h7, h8, h30, hi9]; first | done | rfl
     case hv => first | rfl | (simp only [go_sem]; done)
     case hh => first | rfl | (simp only [go_sem]; done)
     try simp only [go_sem, simprocAttr, h0, h2, h6, h7, h8, h30, hi9]
     repeat' (refine And.intro (by first | omega | (exact ⟨[0, 1, 0, 0, 12, 28, 63, 127, 255], by kernel_rfl⟩) | kernel_rfl) ?_)
     refine hK _ _ (.mk (awl_live' [0, 2, 6, 7, 8] fun ρ hL => ?_))
     try simp only [go_sem, simprocAttr, h0, h2, h6, h7, h8, h30, hi9] at hL
     try clear h0 h2 h6 h7 h8 h30
     obtain ⟨h0, h2, h6, h7, h8⟩ := hL
     clear hK K
     refine awl_nil ?_
     refine blk_normal (hR1 _ _ (.mk ?_))
     have wi : IntKind.i64.wrap ((i : Int) + 1) = ((i + 1 : Nat) : Int) := by rw [wrap64 (by omega)]; omega
     refine awl_regS _ rfl fun K hK => ?_
     try simp only [go_sem, simprocAttr, h0, h2, h6, h7, h8, wi]
     repeat' (refine And.intro (by first | rfl | omega | (simp; done)) ?_)
     refine hK _ _ (.mk (awl_live' [0, 2, 6, 7, 8] fun ρ hL => ?_))
     try simp only [go_sem, simprocAttr, h0, h2, h6, h7, h8, wi] at hL
     try clear h0 h2 h6 h7 h8
     obtain ⟨h0, h2, h6, h7, h8⟩ := hL
     clear hK K
     refine awl_nil ?_
     refine loop_againW (Wk.keep [0, 1, 2, 6, 7, 5] rfl) _ ?meas ⟨(withMem u (sweep u.mem (ns.getD i 0))), (i + 1), rfl, (by omega), (by exact Or.inl (by omega)), (by exact ⟨i1_2.1, sweep_fit i1_2.2⟩), (by rw [foldl_take hi9 i1_3, runOne_sweep c3]), (by simp only [go_sem, simprocAttr, h0, h2, h6, h7, h8, e1_0, e1_2, e1_6, e1_7]), (by simp only [go_sem, simprocAttr, h0, h2, h6, h7, h8, e1_0, e1_2, e1_6, e1_7]; first | done | rfl), (by simp only [go_sem, simprocAttr, h0, h2, h6, h7, h8, e1_0, e1_2, e1_6, e1_7]; first | done | rfl)⟩
     case meas => subst hn; omega
   ·
    try simp only [cnd] at c2
    refine awl_exit ?_
    refine loop_break ?_
    exact ⟨u, (by by_cases hq : 600 < ns.length; rw [run_long c1 hq, ← i1_3, show i = 0 by omega]; rfl; rw [run_go c1 hq, ← i1_3, List.take_of_length_le (by omega)]), (by simp only [go_sem, simprocAttr, h0, h2, h6, h7, h8, h23, e1_0, e1_2, e1_6, e1_7]), rfl⟩
  case after1 =>
   obtain ⟨u, j1_0, hL, hG⟩ := hJ
   subst hG
   try simp only [go_sem, simprocAttr, h0, h2, h6, h7, h8] at hL
   clear h0 h2 h6 h7 h8
   obtain ⟨h6, h7⟩ := hL
   refine awl_seq ?_
   refine awl_regS _ rfl fun K hK => ?_
   try simp only [go_sem, simprocAttr, h6, h7]
   repeat' (refine And.intro (by first | rfl | omega | (simp; done)) ?_)
   refine hK _ _ (.mk (awl_live' [6] fun ρ hL => ?_))
   try simp only [go_sem, simprocAttr, h6, h7] at hL
   try clear h6 h7
   have h6 := hL
   clear hL
   clear hK K
   refine awl_ret ?_
   refine retK [2, 3, 4] [2, 3, 4] rfl (by simp only [go_sem, simprocAttr, h6]; exact rfl) (by decide) (by first | rfl | (simp only [go_sem, simprocAttr, h6]; first | done | rfl)) (by first | rfl | (simp only [go_sem, simprocAttr, h6]; first | done | rfl)) ?_ ?_
   all_goals try simp only [go_sem, simprocAttr, h6]
   all_goals try clear hR1
   all_goals (rw [j1_0] <;> rfl)
set_option maxHeartbeats 8000000 in
set_option maxRecDepth 100000 in
theorem sat_impl_Run (l : List Ins) (s : Stt) (ns : List Int) (hl : l.length ≤ 1048576) (hf : s.fit) (hn_ : ns.length ≤ 1048576) : Sat Tryz.prog 21 [.sl l.length l.length (rows l), .agg s.cells, .sl ns.length ns.length (ints ns)] [] (.agg ((run l s ns).own 0 1 2)) (run l s ns).blks := by
 refine sat_mk [.cell 6 42] 0 38 Tryz.call21 Tryz.func21 Tryz.ntmps21 rfl rfl rfl rfl rfl ?_
 refine awl_live' [0, 1, 2] fun ρ hL => ?_
 try simp only [go_sem, simprocAttr] at hL
 obtain ⟨h0, h1, h2⟩ := hL
 refine awl_seq ?_
 refine awl_regS _ rfl fun K hK => ?_
 try simp only [go_sem, simprocAttr, h0, h1, h2]
 repeat' (refine And.intro (by first | rfl | omega | (simp; done)) ?_)
 refine hK _ _ (.mk (awl_live' [0, 2, 4, 6] fun ρ hL => ?_))
 try simp only [go_sem, simprocAttr, h0, h1, h2] at hL
 try clear h0 h1 h2
 obtain ⟨h0, h2, h4, h6⟩ := hL
 clear hK K
 refine awl_seq ?_
 refine awl_seq ?_
 refine awl_regS _ rfl fun K hK => ?_
 try simp only [go_sem, simprocAttr, h0, h2, h4, h6]
 repeat' (refine And.intro (by first | rfl | omega | (simp; done)) ?_)
 refine opS_call_ro rfl (sat_impl_StateOk s hf) ?ha ?hv ?hh ?_
 case ha => simp only [go_sem, simprocAttr, h0, h2, h4, h6]; first | done | rfl
 case hv => first | rfl | (simp only [go_sem]; done)
 case hh => first | rfl | (simp only [go_sem]; done)
 try simp only [go_sem, simprocAttr, h0, h2, h4, h6]
 repeat' (refine And.intro (by first | rfl | omega | (simp; done)) ?_)
 refine hK _ _ (.mk (awl_live' [0, 2, 4, 6, 12] fun ρ hL => ?_))
 try simp only [go_sem, simprocAttr, h0, h2, h4, h6] at hL
 try clear h0 h2 h4 h6
 obtain ⟨h0, h2, h4, h6, h12⟩ := hL
 clear hK K
 refine awl_cond h12 (fun c1 => ?_) (fun c1 => ?_)
 ·
  try simp only [cnd] at c1
  refine awl_seq ?_
  refine awl_regS _ rfl fun K hK => ?_
  try simp only [go_sem, simprocAttr, h0, h2, h4, h6, h12]
  repeat' (refine And.intro (by first | rfl | omega | (simp; done)) ?_)
  refine hK _ _ (.mk (awl_live' [6] fun ρ hL => ?_))
  try simp only [go_sem, simprocAttr, h0, h2, h4, h6, h12] at hL
  try clear h0 h2 h4 h6 h12
  have h6 := hL
  clear hL
  clear hK K
  refine awl_ret ?_
  refine retN (v := .agg [.nilsl, .int .i64 0, .bool false, .int .i64 0, .int .i64 0, .int .i64 0, .int .i64 0, .nilsl, .nilsl, .int .i64 0]) [6, 6, 1] [2, 3, 4] [2, 3, 4] rfl (by simp only [go_sem, simprocAttr, h6]; exact rfl) (by first | rfl | (simp only [go_sem, simprocAttr, h6]; first | done | rfl)) (Ref.agg (RefL.cons (Ref.nil 2 ⟨Nat.le_of_ble_eq_true rfl, Nat.le_of_ble_eq_true rfl⟩) (RefL.cons (Ref.refl _) (RefL.cons (Ref.refl _) (RefL.cons (Ref.refl _) (RefL.cons (Ref.refl _) (RefL.cons (Ref.refl _) (RefL.cons (Ref.refl _) (RefL.cons (Ref.nil 3 ⟨Nat.le_of_ble_eq_true rfl, Nat.le_of_ble_eq_true rfl⟩) (RefL.cons (Ref.nil 4 ⟨Nat.le_of_ble_eq_true rfl, Nat.le_of_ble_eq_true rfl⟩) (RefL.cons (Ref.refl _) (RefL.same [])))))))))))) rfl (by decide) rfl rfl ?_ ?_
  all_goals try simp only [go_sem, simprocAttr, h6]
  all_goals (rw [run_no c1] <;> rfl)
 ·
  try simp only [cnd] at c1
  refine awl_skip ?_
  refine awl_seq ?_
  refine awl_regS _ rfl fun K hK => ?_
  try simp only [go_sem, simprocAttr, h0, h2, h4, h6, h12]
  repeat' (refine And.intro (by first | rfl | omega | (simp; done)) ?_)
  refine opS_call_ro rfl (sat_impl_cloneState s hf) ?ha ?hv ?hh ?_
  case ha => simp only [go_sem, simprocAttr, h0, h2, h4, h6, h12]; first | done | rfl
  case hv => first | rfl | (simp only [go_sem]; done)
  case hh => first | rfl | (simp only [go_sem]; done)
  try simp only [go_sem, simprocAttr, h0, h2, h4, h6, h12]
  repeat' (refine And.intro (by first | rfl | omega | (simp; done)) ?_)
  refine hK _ _ (.mk (awl_live' [0, 2, 6, 7] fun ρ hL => ?_))
  try simp only [go_sem, simprocAttr, h0, h2, h4, h6, h12] at hL
  try clear h0 h2 h4 h6 h12
  obtain ⟨h0, h2, h6, h7⟩ := hL
  clear hK K
  refine awl_seq ?_
  refine awl_seq ?_
  refine awl_regS _ rfl fun K hK => ?_
  try simp only [go_sem, simprocAttr, h0, h2, h6, h7]
  repeat' (refine And.intro (by first | rfl | omega | (simp; done)) ?_)
  refine hK _ _ (.mk (awl_live' [0, 2, 6, 7, 18] fun ρ hL => ?_))
  try simp only [go_sem, simprocAttr, h0, h2, h6, h7] at hL
  try clear h0 h2 h6 h7
  obtain ⟨h0, h2, h6, h7, h18⟩ := hL
  clear hK K
  refine awl_cond h18 (fun c2 => ?_) (fun c2 => ?_)
  ·
   try simp only [cnd] at c2
   refine awl_seq ?_
   refine awl_regS _ rfl fun K hK => ?_
   try simp only [go_sem, simprocAttr, h0, h2, h6, h7, h18]
   repeat' (refine And.intro (by first | rfl | omega | (simp; done)) ?_)
   refine hK _ _ (.mk (awl_live' [6] fun ρ hL => ?_))
   try simp only [go_sem, simprocAttr, h0, h2, h6, h7, h18] at hL
   try clear h0 h2 h6 h7 h18
   have h6 := hL
   clear hL
   clear hK K
   refine awl_ret ?_
   refine retK [2, 3, 4] [2, 3, 4] rfl (by simp only [go_sem, simprocAttr, h6]; exact rfl) (by decide) (by first | rfl | (simp only [go_sem, simprocAttr, h6]; first | done | rfl)) (by first | rfl | (simp only [go_sem, simprocAttr, h6]; first | done | rfl)) ?_ ?_
   all_goals try simp only [go_sem, simprocAttr, h6]
   all_goals (rw [run_long c1 (by omega)] <;> rfl)
  ·
   try simp only [cnd] at c2
   refine awl_skip ?_
   refine awl_seq ?_
   refine awl_seq ?_
   refine awl_regS _ rfl fun K hK => ?_
   try simp only [go_sem, simprocAttr, h0, h2, h6, h7, h18]
   repeat' (refine And.intro (by first | rfl | omega | (simp; done)) ?_)
   refine hK _ _ (.mk (awl_live' [0, 6, 7, 20, 21, 22] fun ρ hL => ?_))
   try simp only [go_sem, simprocAttr, h0, h2, h6, h7, h18] at hL
   try clear h0 h2 h6 h7 h18
   obtain ⟨h0, h6, h7, h20, h21, h22⟩ := hL
   clear hK K
   have e1_0 := h0
   have e1_6 := h6
   have e1_7 := h7
   have e1_20 := h20
   have e1_21 := h21
   refine awl_loopH (fun H0 n σ G => ∃ (u : Stt) (i : Nat), n = ns.length - i ∧ (i ≤ ns.length) ∧ (u.fit) ∧ ((ns.take i).foldl (runOne l) s = u) ∧ liveE [0, 6, 7, 20, 21] σ ρ ∧ σ 22 = .int .i64 (i : Int) ∧ G = [⟨10, s.cells, true, false⟩, ⟨10, [.nilsl, .int .i64 0, .bool false, .int .i64 0, .int .i64 0, .int .i64 0, .int .i64 0, .nilsl, .nilsl, .int .i64 0], true, false⟩, ⟨6, rows u.regs, true, false⟩, ⟨6, rows u.mem.words, true, false⟩, ⟨1, rows u.mem.gone, true, false⟩, ⟨10, u.own 2 3 4, true, false⟩]) (fun H0 σ G => ∃ (u : Stt), (run l s ns = u) ∧ liveE [6, 7] σ ρ ∧ G = [⟨10, s.cells, true, false⟩, ⟨10, [.nilsl, .int .i64 0, .bool false, .int .i64 0, .int .i64 0, .int .i64 0, .int .i64 0, .nilsl, .nilsl, .int .i64 0], true, false⟩, ⟨6, rows u.regs, true, false⟩, ⟨6, rows u.mem.words, true, false⟩, ⟨1, rows u.mem.gone, true, false⟩, ⟨10, u.own 2 3 4, true, false⟩]) ((fun (u : Stt) (i : Nat) => ns.length - i) s  0) ?init1 (fun n ρ G hI => ?round1) (fun ρ G hJ => ?after1)
   case init1 => exact ⟨s, 0, rfl, (Nat.zero_le _), (hf), (rfl), liveE_refl _ _, (h22), rfl⟩
   case round1 =>
    obtain ⟨u, i, hn, i1_0, i1_1, i1_2, hL, k22, hG⟩ := hI
    subst hG
    try simp only [go_sem, simprocAttr, h0, h6, h7, h20, h21, h22] at hL
    clear h0 h6 h7 h20 h21 h22
    obtain ⟨h0, h6, h7, h20, h21⟩ := hL
    have h22 := k22
    clear k22
    refine awl_seq ?_
    refine awl_regS _ rfl fun K hK => ?_
    try simp only [go_sem, simprocAttr, h0, h6, h7, h20, h21, h22]
    repeat' (refine And.intro (by first | rfl | omega | (simp; done)) ?_)
    refine hK _ _ (.mk (awl_live' [0, 6, 7, 20, 21, 22, 23] fun ρ hL => ?_))
    try simp only [go_sem, simprocAttr, h0, h6, h7, h20, h21, h22] at hL
    try clear h0 h6 h7 h20 h21 h22
    obtain ⟨h0, h6, h7, h20, h21, h22, h23⟩ := hL
    clear hK K
    refine awl_seq ?_
    refine awl_cond h23 (fun c3 => ?_) (fun c3 => ?_)
    ·
     try simp only [cnd] at c3
     have hi1 : i < ns.length := by omega
     refine awl_skip ?_
     refine awl_seq ?_
     refine awl_block fun R1 hw1 hR1 => ?_
     refine awl_seq ?_
     refine awl_regS _ rfl fun K hK => ?_
     try simp only [go_sem, simprocAttr, h0, h6, h7, h20, h21, h22, h23, hi1]
     repeat' (refine And.intro (by first | rfl | omega | (simp; done)) ?_)
     refine hK _ _ (.mk (awl_live' [0, 6, 7, 9, 20, 21, 22] fun ρ hL => ?_))
     try simp only [go_sem, simprocAttr, h0, h6, h7, h20, h21, h22, h23, hi1] at hL
     try clear h0 h6 h7 h20 h21 h22 h23
     obtain ⟨h0, h6, h7, h9, h20, h21, h22⟩ := hL
     clear hK K
     refine awl_seq ?_
     refine awl_regS _ rfl fun K hK => ?_
     try simp only [go_sem, simprocAttr, h0, h6, h7, h9, h20, h21, h22, hi1]
     repeat' (refine And.intro (by first | rfl | omega | (simp; done)) ?_)
     refine hK _ _ (.mk (awl_live' [0, 6, 7, 9, 20, 21, 22, 27] fun ρ hL => ?_))
     try simp only [go_sem, simprocAttr, h0, h6, h7, h9, h20, h21, h22, hi1] at hL
     try clear h0 h6 h7 h9 h20 h21 h22
     obtain ⟨h0, h6, h7, h9, h20, h21, h22, h27⟩ := hL
     clear hK K
     refine awl_cond h27 (fun c4 => ?_) (fun c4 => ?_)
     ·
      try simp only [cnd] at c4
      refine awl_regS _ rfl fun K hK => ?_
      try simp only [go_sem, simprocAttr, h0, h6, h7, h9, h20, h21, h22, h27, hi1]
      repeat' (refine And.intro (by first | rfl | omega | (simp; done)) ?_)
      refine opS_call_ro rfl (sat_impl_Sweep u.mem (ns.getD i 0) i1_1.2) ?ha ?hv ?hh ?_
      case ha => simp only [go_sem, simprocAttr, h0, h6, h7, h9, h20, h21, h22, h27, hi1]; first | done | rfl
      case hv => first | rfl | (simp only [go_sem]; done)
      case hh => first | rfl | (simp only [go_sem]; done)
      try simp only [go_sem, simprocAttr, h0, h6, h7, h9, h20, h21, h22, h27, hi1]
      repeat' (refine And.intro (by first | rfl | omega | (simp; done)) ?_)
      refine hK _ _ (.mk (awl_live' [0, 6, 7, 20, 21, 22] fun ρ hL => ?_))
      try simp only [go_sem, simprocAttr, h0, h6, h7, h9, h20, h21, h22, h27, hi1] at hL
      try clear h0 h6 h7 h9 h20 h21 h22 h27
      obtain ⟨h0, h6, h7, h20, h21, h22⟩ := hL
      clear hK K
      refine awl_nil ?_
      refine blk_normal (hR1 _ _ (.mk ?_))
      have w1 : IntKind.i64.wrap ((i : Int) + 1) = ((i + 1 : Nat) : Int) := by rw [wrap64 (by omega)]; omega
      refine awl_regS _ rfl fun K hK => ?_
      try simp only [go_sem, simprocAttr, h0, h6, h7, h20, h21, h22, hi1, w1]
      repeat' (refine And.intro (by first | rfl | omega | (simp; done)) ?_)
      refine hK _ _ (.mk (awl_live' [0, 6, 7, 20, 21, 22] fun ρ hL => ?_))
      try simp only [go_sem, simprocAttr, h0, h6, h7, h20, h21, h22, hi1, w1] at hL
      try clear h0 h6 h7 h20 h21 h22
      obtain ⟨h0, h6, h7, h20, h21, h22⟩ := hL
      clear hK K
      refine awl_nil ?_
      refine loop_againW (Wk.keep [0, 1, 2, 6, 7, 5] rfl) _ ?meas ⟨(withMem u (sweep u.mem (ns.getD i 0))), (i + 1), rfl, (by omega), (by exact ⟨i1_1.1, sweep_fit i1_1.2⟩), (by rw [foldl_take hi1 i1_2, runOne_sweep (by omega)]), (by simp only [go_sem, simprocAttr, h0, h6, h7, h20, h21, h22, hi1, e1_0, e1_6, e1_7, e1_20, e1_21]), (by simp only [go_sem, simprocAttr, h0, h6, h7, h20, h21, h22, hi1, e1_0, e1_6, e1_7, e1_20, e1_21]; first | done | rfl), (by simp only [go_sem, simprocAttr, h0, h6, h7, h20, h21, h22, hi1, e1_0, e1_6, e1_7, e1_20, e1_21]; first | done | rfl)⟩
      case meas => subst hn; omega
     ·
      try simp only [cnd] at c4
      refine awl_regS _ rfl fun K hK => ?_
      try simp only [go_sem, simprocAttr, h0, h6, h7, h9, h20, h21, h22, h27, hi1]
      repeat' (refine And.intro (by first | rfl | omega | (simp; done)) ?_)
      refine opS_call_ro rfl (sat_impl_Step l u hl i1_1) ?ha ?hv ?hh ?_
      case ha => simp only [go_sem, simprocAttr, h0, h6, h7, h9, h20, h21, h22, h27, hi1]; first | done | rfl
      case hv => first | rfl | (simp only [go_sem]; done)
      case hh => first | rfl | (simp only [go_sem]; done)
      try simp only [go_sem, simprocAttr, h0, h6, h7, h9, h20, h21, h22, h27, hi1]
      repeat' (refine And.intro (by first | rfl | omega | (simp; done)) ?_)
      refine hK _ _ (.mk (awl_live' [0, 6, 7, 20, 21, 22] fun ρ hL => ?_))
      try simp only [go_sem, simprocAttr, h0, h6, h7, h9, h20, h21, h22, h27, hi1] at hL
      try clear h0 h6 h7 h9 h20 h21 h22 h27
      obtain ⟨h0, h6, h7, h20, h21, h22⟩ := hL
      clear hK K
      refine awl_nil ?_
      refine blk_normal (hR1 _ _ (.mk ?_))
      have w1 : IntKind.i64.wrap ((i : Int) + 1) = ((i + 1 : Nat) : Int) := by rw [wrap64 (by omega)]; omega
      refine awl_regS _ rfl fun K hK => ?_
      try simp only [go_sem, simprocAttr, h0, h6, h7, h20, h21, h22, hi1, w1]
      repeat' (refine And.intro (by first | rfl | omega | (simp; done)) ?_)
      refine hK _ _ (.mk (awl_live' [0, 6, 7, 20, 21, 22] fun ρ hL => ?_))
      try simp only [go_sem, simprocAttr, h0, h6, h7, h20, h21, h22, hi1, w1] at hL
      try clear h0 h6 h7 h20 h21 h22
      obtain ⟨h0, h6, h7, h20, h21, h22⟩ := hL
      clear hK K
      refine awl_nil ?_
      refine loop_againW (Wk.keep [0, 1, 6, 7, 8, 5] rfl) _ ?meas ⟨(step l u), (i + 1), rfl, (by omega), (by exact step_fit i1_1), (by rw [foldl_take hi1 i1_2, runOne_step (by omega)]), (by simp only [go_sem, simprocAttr, h0, h6, h7, h20, h21, h22, hi1, e1_0, e1_6, e1_7, e1_20, e1_21]), (by simp only [go_sem, simprocAttr, h0, h6, h7, h20, h21, h22, hi1, e1_0, e1_6, e1_7, e1_20, e1_21]; first | done | rfl), (by simp only [go_sem, simprocAttr, h0, h6, h7, h20, h21, h22, hi1, e1_0, e1_6, e1_7, e1_20, e1_21]; first | done | rfl)⟩
      case meas => subst hn; omega
    ·
     try simp only [cnd] at c3
     refine awl_exit ?_
     refine loop_break ?_
     exact ⟨u, (by rw [run_go c1 (by omega), ← i1_2, List.take_of_length_le (by omega)]), (by simp only [go_sem, simprocAttr, h0, h6, h7, h20, h21, h22, h23, e1_0, e1_6, e1_7, e1_20, e1_21]), rfl⟩
   case after1 =>
    obtain ⟨u, j1_0, hL, hG⟩ := hJ
    subst hG
    try simp only [go_sem, simprocAttr, h0, h6, h7, h20, h21, h22] at hL
    clear h0 h6 h7 h20 h21 h22
    obtain ⟨h6, h7⟩ := hL
    refine awl_seq ?_
    refine awl_regS _ rfl fun K hK => ?_
    try simp only [go_sem, simprocAttr, h6, h7]
    repeat' (refine And.intro (by first | rfl | omega | (simp; done)) ?_)
    refine hK _ _ (.mk (awl_live' [6] fun ρ hL => ?_))
    try simp only [go_sem, simprocAttr, h6, h7] at hL
    try clear h6 h7
    have h6 := hL
    clear hL
    clear hK K
    refine awl_ret ?_
    refine retK [2, 3, 4] [2, 3, 4] rfl (by simp only [go_sem, simprocAttr, h6]; exact rfl) (by decide) (by first | rfl | (simp only [go_sem, simprocAttr, h6]; first | done | rfl)) (by first | rfl | (simp only [go_sem, simprocAttr, h6]; first | done | rfl)) ?_ ?_
    all_goals try simp only [go_sem, simprocAttr, h6]
    all_goals try clear hR1
    all_goals (rw [j1_0] <;> rfl)
end Go.Proofs.YtgddflnhibhacaaGreat.AM
