/- Fetching; what traps. No conditions but those each theorem bears. -/
import Derived.Test.YtopjagninmjkbaaGreatFa
import Derived.Test.YtopjagninmjkbaaGreatSp8
import Derived.Test.YtopjagninmjkbaaGreatCa5b
import Derived.Test.YtopjagninmjkbaaGreatCa10
set_option linter.unusedSimpArgs false
set_option linter.unusedVariables false
namespace Go.Proofs.YtopjagninmjkbaaGreat.AM
open Go

set_option maxHeartbeats 8000000 in
set_option maxRecDepth 100000 in
theorem sat_spec_Fetch (l : List Ins) (w : Word) (hl : l.length ≤ 1048576) : Sat Tryz.prog 23 [.sl l.length l.length (rows l), .agg w.cells] [] (.tuple [.agg (Ins.cells (fetch l w).1), .int .i64 (fetch l w).2]) [] := by
 refine sat_mk [.cell 4 68, .tmp 5] 0 37 Tryz.call23 Tryz.func23 Tryz.ntmps23 rfl rfl rfl rfl rfl ?_
 refine awl_live' [0, 1] fun ρ hL => ?_
 try simp only [go_sem, simprocAttr] at hL
 obtain ⟨h0, h1⟩ := hL
 refine awl_seq ?_
 refine awl_regS _ rfl fun K hK => ?_
 try simp only [go_sem, simprocAttr, h0, h1]
 repeat' (refine And.intro (by first | rfl | omega | (simp; done)) ?_)
 refine hK _ _ (.mk (awl_live' [0, 3, 4] fun ρ hL => ?_))
 try simp only [go_sem, simprocAttr, h0, h1] at hL
 try clear h0 h1
 obtain ⟨h0, h3, h4⟩ := hL
 clear hK K
 refine awl_seq ?_
 refine awl_regS _ rfl fun K hK => ?_
 try simp only [go_sem, simprocAttr, h0, h3, h4]
 repeat' (refine And.intro (by first | rfl | omega | (simp; done)) ?_)
 refine opS_call_ro rfl (sat_spec_Try ?_ ?_ ?_) ?ha ?hv ?hh ?_
 case ha => simp only [go_sem, simprocAttr, h0, h3, h4]; first | done | rfl
 case hv => first | rfl | (simp only [go_sem]; done)
 case hh => first | rfl | (simp only [go_sem]; done)
 try simp only [go_sem, simprocAttr, h0, h3, h4]
 repeat' (refine And.intro (by first | rfl | omega | (simp; done)) ?_)
 refine hK _ _ (.mk (awl_live' [0, 3, 4, 6] fun ρ hL => ?_))
 try simp only [go_sem, simprocAttr, h0, h3, h4] at hL
 try clear h0 h3 h4
 obtain ⟨h0, h3, h4, h6⟩ := hL
 clear hK K
 refine awl_seq ?_
 refine awl_seq ?_
 refine awl_regS _ rfl fun K hK => ?_
 try simp only [go_sem, simprocAttr, h0, h3, h4, h6]
 repeat' (refine And.intro (by first | rfl | omega | (simp; done)) ?_)
 refine hK _ _ (.mk (awl_live' [0, 3, 4, 6, 12] fun ρ hL => ?_))
 try simp only [go_sem, simprocAttr, h0, h3, h4, h6] at hL
 try clear h0 h3 h4 h6
 obtain ⟨h0, h3, h4, h6, h12⟩ := hL
 clear hK K
 refine awl_cond h12 (fun c1 => ?_) (fun c1 => ?_)
 ·
  try simp only [cnd] at c1
  refine awl_seq ?_
  refine awl_regS _ rfl fun K hK => ?_
  try simp only [go_sem, simprocAttr, h0, h3, h4, h6, h12]
  repeat' (refine And.intro (by first | rfl | omega | (simp; done)) ?_)
  refine hK _ _ (.mk (awl_live' [4, 5] fun ρ hL => ?_))
  try simp only [go_sem, simprocAttr, h0, h3, h4, h6, h12] at hL
  try clear h0 h3 h4 h6 h12
  obtain ⟨h4, h5⟩ := hL
  clear hK K
  refine awl_ret ?_
  refine ret0 (by simp only [go_sem, simprocAttr, h4, h5]; exact rfl) ?_
  try simp only [go_sem, simprocAttr]
  all_goals (rw [fetch, if_pos c1] <;> rfl)
 ·
  try simp only [cnd] at c1
  refine awl_skip ?_
  refine awl_seq ?_
  refine awl_seq ?_
  have w0 : IntKind.i64.wrap ((l.length : Int) - 1) = (l.length : Int) - 1 := wrap64 (by omega)
  refine awl_regS _ rfl fun K hK => ?_
  try simp only [go_sem, simprocAttr, h0, h3, h4, h6, h12, w0]
  repeat' (refine And.intro (by first | rfl | omega | (simp; done)) ?_)
  refine opS_call_ro rfl (sat_spec_l1In ?_ ?_ ?_) ?ha ?hv ?hh ?_
  case ha => simp only [go_sem, simprocAttr, h0, h3, h4, h6, h12, w0]; first | done | rfl
  case hv => first | rfl | (simp only [go_sem]; done)
  case hh => first | rfl | (simp only [go_sem]; done)
  try simp only [go_sem, simprocAttr, h0, h3, h4, h6, h12, w0]
  repeat' (refine And.intro (by first | rfl | omega | (simp; done)) ?_)
  refine awpS_live [0, 3, 4, 22] fun ρ hL => ?_
  try simp only [go_sem, simprocAttr, h0, h3, h4, h6, h12, w0] at hL
  try clear h0 h3 h4 h6 h12
  obtain ⟨h0, h3, h4, h22⟩ := hL
  refine grp_orN (tc := 22) (tv := 29) (td := 30) (v := ?v1) 7 rfl [0, 3, 4] h22 rfl (fun hb K1 hK1 => ?run) (fun hb => ?skip) (fun ρ hP hL => ?_)
  case skip =>
   exact awpS_skip (want := false) (b := _) (by rw [hb]; rfl) _ [] ρ h22 (fun _ _ => rfl) (by simp) rfl
  case run =>
   simp only [List.take_succ_cons, List.take_zero]
   rw [hb] at h22
   have hw := inR_iff.1 (show inR w.n 0 ((l.length : Int) - 1) = true by revert hb; cases inR w.n 0 ((l.length : Int) - 1) <;> simp)
   have hn2 : w.n.toNat < l.length := by omega
   try simp only [go_sem, simprocAttr, h0, h3, h4, h22, hn2, w0]
   repeat' (refine And.intro (by first | rfl | omega | (simp; done)) ?_)
   refine opS_call_ro rfl (sat_spec_InsOk ?_) ?ha ?hv ?hh ?_
   case ha => simp only [go_sem, simprocAttr, h0, h3, h4, h22, hn2, w0]; first | done | rfl
   case hv => first | rfl | (simp only [go_sem]; done)
   case hh => first | rfl | (simp only [go_sem]; done)
   try simp only [go_sem, simprocAttr, h0, h3, h4, h22, hn2, w0]
   repeat' (refine And.intro (by first | rfl | omega | (simp; done)) ?_)
   exact hK1 _ (by simp only [go_sem, simprocAttr, h0, h3, h4, h22, hn2, w0]) (by simp only [go_sem, simprocAttr, h0, h3, h4, h22, hn2, w0]; exact rfl) (by simp only [go_sem, simprocAttr, h0, h3, h4, h22, hn2, w0])
  simp only [List.drop_succ_cons, List.drop_zero]
  try simp only [go_sem, simprocAttr, h0, h3, h4, h22, w0] at hL
  try clear h0 h3 h4 h22
  obtain ⟨h0, h3, h4⟩ := hL
  have h30 := hP
  clear hP
  try simp only [go_sem, simprocAttr, h0, h3, h4, h30, w0]
  repeat' (refine And.intro (by first | rfl | omega | (simp; done)) ?_)
  refine hK _ _ (.mk (awl_live' [0, 3, 4, 30] fun ρ hL => ?_))
  try simp only [go_sem, simprocAttr, h0, h3, h4, h30, w0] at hL
  try clear h0 h3 h4 h30
  obtain ⟨h0, h3, h4, h30⟩ := hL
  clear hK K
  refine awl_cond h30 (fun c2 => ?_) (fun c2 => ?_)
  ·
   try simp only [cnd] at c2
   refine awl_seq ?_
   refine awl_regS _ rfl fun K hK => ?_
   try simp only [go_sem, simprocAttr, h0, h3, h4, h30]
   repeat' (refine And.intro (by first | rfl | omega | (simp; done)) ?_)
   refine hK _ _ (.mk (awl_live' [4, 5] fun ρ hL => ?_))
   try simp only [go_sem, simprocAttr, h0, h3, h4, h30] at hL
   try clear h0 h3 h4 h30
   obtain ⟨h4, h5⟩ := hL
   clear hK K
   refine awl_ret ?_
   refine ret0 (by simp only [go_sem, simprocAttr, h4, h5]; exact rfl) ?_
   try simp only [go_sem, simprocAttr]
   all_goals (rw [fetch, if_neg (fun h => h c1), if_neg (by rintro ⟨a, b⟩; rw [a, b] at c2; simp at c2)] <;> rfl)
  ·
   try simp only [cnd] at c2
   refine awl_skip ?_
   refine awl_seq ?_
   have hw := inR_iff.1 c2.1
   have hn2 : w.n.toNat < l.length := by omega
   refine awl_regS _ rfl fun K hK => ?_
   try simp only [go_sem, simprocAttr, h0, h3, h4, h30, hn2]
   repeat' (refine And.intro (by first | rfl | omega | (simp; done)) ?_)
   refine hK _ _ (.mk (awl_live' [4, 5] fun ρ hL => ?_))
   try simp only [go_sem, simprocAttr, h0, h3, h4, h30, hn2] at hL
   try clear h0 h3 h4 h30
   obtain ⟨h4, h5⟩ := hL
   clear hK K
   refine awl_ret ?_
   refine ret0 (by simp only [go_sem, simprocAttr, h4, h5]; exact rfl) ?_
   try simp only [go_sem, simprocAttr]
   all_goals (rw [fetch, if_neg (fun h => h c1), if_pos c2] <;> rfl)
set_option maxHeartbeats 8000000 in
set_option maxRecDepth 100000 in
theorem sat_impl_Fetch (l : List Ins) (w : Word) (hl : l.length ≤ 1048576) : Sat Tryz.prog 33 [.sl l.length l.length (rows l), .agg w.cells] [] (.tuple [.agg (Ins.cells (fetch l w).1), .int .i64 (fetch l w).2]) [] := by
 refine sat_mk [.cell 4 68, .tmp 5] 0 39 Tryz.call33 Tryz.func33 Tryz.ntmps33 rfl rfl rfl rfl rfl ?_
 refine awl_live' [0, 1] fun ρ hL => ?_
 try simp only [go_sem, simprocAttr] at hL
 obtain ⟨h0, h1⟩ := hL
 refine awl_seq ?_
 refine awl_regS _ rfl fun K hK => ?_
 try simp only [go_sem, simprocAttr, h0, h1]
 repeat' (refine And.intro (by first | rfl | omega | (simp; done)) ?_)
 refine hK _ _ (.mk (awl_live' [0, 3, 4] fun ρ hL => ?_))
 try simp only [go_sem, simprocAttr, h0, h1] at hL
 try clear h0 h1
 obtain ⟨h0, h3, h4⟩ := hL
 clear hK K
 refine awl_seq ?_
 refine awl_regS _ rfl fun K hK => ?_
 try simp only [go_sem, simprocAttr, h0, h3, h4]
 repeat' (refine And.intro (by first | rfl | omega | (simp; done)) ?_)
 refine opS_call_ro rfl (sat_impl_Try ?_ ?_ ?_ ?hp0) ?ha ?hv ?hh ?_
 case ha => simp only [go_sem, simprocAttr, h0, h3, h4]; first | done | rfl
 case hp0 => first | assumption | omega | (simp; done)
 case hv => first | rfl | (simp only [go_sem]; done)
 case hh => first | rfl | (simp only [go_sem]; done)
 try simp only [go_sem, simprocAttr, h0, h3, h4]
 repeat' (refine And.intro (by first | rfl | omega | (simp; done)) ?_)
 refine hK _ _ (.mk (awl_live' [0, 3, 4, 6] fun ρ hL => ?_))
 try simp only [go_sem, simprocAttr, h0, h3, h4] at hL
 try clear h0 h3 h4
 obtain ⟨h0, h3, h4, h6⟩ := hL
 clear hK K
 refine awl_seq ?_
 refine awl_block fun R1 hw1 hR1 => ?_
 refine awl_seq ?_
 refine awl_regS _ rfl fun K hK => ?_
 try simp only [go_sem, simprocAttr, h0, h3, h4, h6]
 repeat' (refine And.intro (by first | rfl | omega | (simp; done)) ?_)
 refine hK _ _ (.mk (awl_live' [0, 3, 4, 6, 11] fun ρ hL => ?_))
 try simp only [go_sem, simprocAttr, h0, h3, h4, h6] at hL
 try clear h0 h3 h4 h6
 obtain ⟨h0, h3, h4, h6, h11⟩ := hL
 clear hK K
 refine awl_cond h11 (fun c1 => ?_) (fun c1 => ?_)
 ·
  try simp only [cnd] at c1
  refine awl_seq ?_
  refine awl_regS _ rfl fun K hK => ?_
  try simp only [go_sem, simprocAttr, h0, h3, h4, h6, h11]
  repeat' (refine And.intro (by first | rfl | omega | (simp; done)) ?_)
  refine hK _ _ (.mk (awl_live' [4, 5] fun ρ hL => ?_))
  try simp only [go_sem, simprocAttr, h0, h3, h4, h6, h11] at hL
  try clear h0 h3 h4 h6 h11
  obtain ⟨h4, h5⟩ := hL
  clear hK K
  refine awl_ret ?_
  refine blk_ret ?_
  refine ret0 (by simp only [go_sem, simprocAttr, h4, h5]; exact rfl) ?_
  try simp only [go_sem, simprocAttr]
  all_goals try clear hR1
  all_goals (rw [fetch, if_pos c1] <;> rfl)
 ·
  try simp only [cnd] at c1
  refine awl_seq ?_
  have w0 : IntKind.i64.wrap ((l.length : Int) - 1) = (l.length : Int) - 1 := wrap64 (by omega)
  refine awl_regS _ rfl fun K hK => ?_
  try simp only [go_sem, simprocAttr, h0, h3, h4, h6, h11, w0]
  repeat' (refine And.intro (by first | rfl | omega | (simp; done)) ?_)
  refine opS_call_ro rfl (sat_impl_in ?_ ?_ ?_) ?ha ?hv ?hh ?_
  case ha => simp only [go_sem, simprocAttr, h0, h3, h4, h6, h11, w0]; first | done | rfl
  case hv => first | rfl | (simp only [go_sem]; done)
  case hh => first | rfl | (simp only [go_sem]; done)
  try simp only [go_sem, simprocAttr, h0, h3, h4, h6, h11, w0]
  repeat' (refine And.intro (by first | rfl | omega | (simp; done)) ?_)
  refine awpS_live [0, 3, 4, 24] fun ρ hL => ?_
  try simp only [go_sem, simprocAttr, h0, h3, h4, h6, h11, w0] at hL
  try clear h0 h3 h4 h6 h11
  obtain ⟨h0, h3, h4, h24⟩ := hL
  refine grp_orN (tc := 24) (tv := 31) (td := 32) (v := ?v1) 7 rfl [0, 3, 4] h24 rfl (fun hb K1 hK1 => ?run) (fun hb => ?skip) (fun ρ hP hL => ?_)
  case skip =>
   exact awpS_skip (want := false) (b := _) (by rw [hb]; rfl) _ [] ρ h24 (fun _ _ => rfl) (by simp) rfl
  case run =>
   simp only [List.take_succ_cons, List.take_zero]
   rw [hb] at h24
   have hw := inR_iff.1 (show inR w.n 0 ((l.length : Int) - 1) = true by revert hb; cases inR w.n 0 ((l.length : Int) - 1) <;> simp)
   have hn2 : w.n.toNat < l.length := by omega
   try simp only [go_sem, simprocAttr, h0, h3, h4, h24, hn2, w0]
   repeat' (refine And.intro (by first | rfl | omega | (simp; done)) ?_)
   refine opS_call_ro rfl (sat_impl_InsOk ?_) ?ha ?hv ?hh ?_
   case ha => simp only [go_sem, simprocAttr, h0, h3, h4, h24, hn2, w0]; first | done | rfl
   case hv => first | rfl | (simp only [go_sem]; done)
   case hh => first | rfl | (simp only [go_sem]; done)
   try simp only [go_sem, simprocAttr, h0, h3, h4, h24, hn2, w0]
   repeat' (refine And.intro (by first | rfl | omega | (simp; done)) ?_)
   exact hK1 _ (by simp only [go_sem, simprocAttr, h0, h3, h4, h24, hn2, w0]) (by simp only [go_sem, simprocAttr, h0, h3, h4, h24, hn2, w0]; exact rfl) (by simp only [go_sem, simprocAttr, h0, h3, h4, h24, hn2, w0])
  simp only [List.drop_succ_cons, List.drop_zero]
  try simp only [go_sem, simprocAttr, h0, h3, h4, h24, w0] at hL
  try clear h0 h3 h4 h24
  obtain ⟨h0, h3, h4⟩ := hL
  have h32 := hP
  clear hP
  try simp only [go_sem, simprocAttr, h0, h3, h4, h32, w0]
  repeat' (refine And.intro (by first | rfl | omega | (simp; done)) ?_)
  refine hK _ _ (.mk (awl_live' [0, 3, 4, 16] fun ρ hL => ?_))
  try simp only [go_sem, simprocAttr, h0, h3, h4, h32, w0] at hL
  try clear h0 h3 h4 h32
  obtain ⟨h0, h3, h4, h16⟩ := hL
  clear hK K
  refine awl_cond h16 (fun c2 => ?_) (fun c2 => ?_)
  ·
   try simp only [cnd] at c2
   refine awl_seq ?_
   refine awl_regS _ rfl fun K hK => ?_
   try simp only [go_sem, simprocAttr, h0, h3, h4, h16]
   repeat' (refine And.intro (by first | rfl | omega | (simp; done)) ?_)
   refine hK _ _ (.mk (awl_live' [4, 5] fun ρ hL => ?_))
   try simp only [go_sem, simprocAttr, h0, h3, h4, h16] at hL
   try clear h0 h3 h4 h16
   obtain ⟨h4, h5⟩ := hL
   clear hK K
   refine awl_ret ?_
   refine blk_ret ?_
   refine ret0 (by simp only [go_sem, simprocAttr, h4, h5]; exact rfl) ?_
   try simp only [go_sem, simprocAttr]
   all_goals try clear hR1
   all_goals (rw [fetch, if_neg (fun h => h c1), if_neg (by rintro ⟨a, b⟩; rw [a, b] at c2; simp at c2)] <;> rfl)
  ·
   try simp only [cnd] at c2
   refine awl_skip ?_
   refine awl_nil ?_
   refine blk_normal (hR1 _ _ (.mk ?_))
   refine awl_seq ?_
   have hw := inR_iff.1 c2.1
   have hn2 : w.n.toNat < l.length := by omega
   refine awl_regS _ rfl fun K hK => ?_
   try simp only [go_sem, simprocAttr, h0, h3, h4, h16, hn2]
   repeat' (refine And.intro (by first | rfl | omega | (simp; done)) ?_)
   refine hK _ _ (.mk (awl_live' [4, 5] fun ρ hL => ?_))
   try simp only [go_sem, simprocAttr, h0, h3, h4, h16, hn2] at hL
   try clear h0 h3 h4 h16
   obtain ⟨h4, h5⟩ := hL
   clear hK K
   refine awl_ret ?_
   refine ret0 (by simp only [go_sem, simprocAttr, h4, h5]; exact rfl) ?_
   try simp only [go_sem, simprocAttr]
   all_goals try clear hR1
   all_goals (rw [fetch, if_neg (fun h => h c1), if_pos c2] <;> rfl)
set_option maxHeartbeats 8000000 in
set_option maxRecDepth 100000 in
theorem sat_spec_l9Trap (t : Int) (w : Word)  : Sat Tryz.prog 24 [.int .i64 t, .agg w.cells] [] (.agg (Fx.cells (fxTrap t w))) [] := by
 refine sat_mk [.cell 4 72] 0 8 Tryz.call24 Tryz.func24 Tryz.ntmps24 rfl rfl rfl rfl rfl ?_
 refine awl_live' [0, 1] fun ρ hL => ?_
 try simp only [go_sem, simprocAttr] at hL
 obtain ⟨h0, h1⟩ := hL
 refine awl_seq ?_
 refine awl_regS _ rfl fun K hK => ?_
 try simp only [go_sem, simprocAttr, h0, h1]
 repeat' (refine And.intro (by first | rfl | omega | (simp; done)) ?_)
 refine hK _ _ (.mk (awl_live' [0, 3, 4] fun ρ hL => ?_))
 try simp only [go_sem, simprocAttr, h0, h1] at hL
 try clear h0 h1
 obtain ⟨h0, h3, h4⟩ := hL
 clear hK K
 refine awl_seq ?_
 refine awl_regS _ rfl fun K hK => ?_
 try simp only [go_sem, simprocAttr, h0, h3, h4]
 repeat' (refine And.intro (by first | rfl | omega | (simp; done)) ?_)
 refine hK _ _ (.mk (awl_live' [4] fun ρ hL => ?_))
 try simp only [go_sem, simprocAttr, h0, h3, h4] at hL
 try clear h0 h3 h4
 have h4 := hL
 clear hL
 clear hK K
 refine awl_ret ?_
 refine ret0 (by simp only [go_sem, simprocAttr, h4]; exact rfl) ?_
 try simp only [go_sem, simprocAttr]
 all_goals (rfl)
set_option maxHeartbeats 8000000 in
set_option maxRecDepth 100000 in
theorem sat_impl_trapped (t : Int) (w : Word)  : Sat Tryz.prog 34 [.int .i64 t, .agg w.cells] [] (.agg (Fx.cells (fxTrap t w))) [] := by
 refine sat_mk [.cell 4 72] 0 8 Tryz.call34 Tryz.func34 Tryz.ntmps34 rfl rfl rfl rfl rfl ?_
 refine awl_live' [0, 1] fun ρ hL => ?_
 try simp only [go_sem, simprocAttr] at hL
 obtain ⟨h0, h1⟩ := hL
 refine awl_seq ?_
 refine awl_regS _ rfl fun K hK => ?_
 try simp only [go_sem, simprocAttr, h0, h1]
 repeat' (refine And.intro (by first | rfl | omega | (simp; done)) ?_)
 refine hK _ _ (.mk (awl_live' [0, 3, 4] fun ρ hL => ?_))
 try simp only [go_sem, simprocAttr, h0, h1] at hL
 try clear h0 h1
 obtain ⟨h0, h3, h4⟩ := hL
 clear hK K
 refine awl_seq ?_
 refine awl_regS _ rfl fun K hK => ?_
 try simp only [go_sem, simprocAttr, h0, h3, h4]
 repeat' (refine And.intro (by first | rfl | omega | (simp; done)) ?_)
 refine hK _ _ (.mk (awl_live' [4] fun ρ hL => ?_))
 try simp only [go_sem, simprocAttr, h0, h3, h4] at hL
 try clear h0 h3 h4
 have h4 := hL
 clear hL
 clear hK K
 refine awl_ret ?_
 refine ret0 (by simp only [go_sem, simprocAttr, h4]; exact rfl) ?_
 try simp only [go_sem, simprocAttr]
 all_goals (rfl)
end Go.Proofs.YtopjagninmjkbaaGreat.AM
