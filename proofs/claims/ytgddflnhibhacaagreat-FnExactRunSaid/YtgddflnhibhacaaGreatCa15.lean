/- Reading memory, finding, and what is ready. No conditions but those each theorem bears. -/
import Derived.Test.YtgddflnhibhacaaGreatFa
import Derived.Test.YtgddflnhibhacaaGreatSp8
import Derived.Test.YtgddflnhibhacaaGreatCa5b
import Derived.Test.YtgddflnhibhacaaGreatCa14
set_option linter.unusedSimpArgs false
set_option linter.unusedVariables false
namespace Go.Proofs.YtgddflnhibhacaaGreat.AM
open Go

set_option maxHeartbeats 8000000 in
set_option maxRecDepth 100000 in
theorem sat_spec_Filter (m : Mem) (w : Word) (hf : m.fit) : Sat Tryz.prog 81 [.agg m.cells, .agg w.cells] [] (.agg (Word.cells (filt m w))) [] := by
 refine sat_mk [.cell 4 38] 0 29 Tryz.call81 Tryz.func81 Tryz.ntmps81 rfl rfl rfl rfl rfl ?_
 refine awl_live' [0, 1] fun ρ hL => ?_
 try simp only [go_sem, simprocAttr] at hL
 obtain ⟨h0, h1⟩ := hL
 refine awl_seq ?_
 refine awl_regS _ rfl fun K hK => ?_
 try simp only [go_sem, simprocAttr, h0, h1]
 repeat' (refine And.intro (by first | rfl | omega | (simp; done)) ?_)
 refine hK _ _ (.mk (awl_live' [2, 3, 4] fun ρ hL => ?_))
 try simp only [go_sem, simprocAttr, h0, h1] at hL
 try clear h0 h1
 obtain ⟨h2, h3, h4⟩ := hL
 clear hK K
 refine awl_seq ?_
 refine awl_seq ?_
 have hg := hf.2
 have w0 : IntKind.i64.wrap ((m.gone.length : Int) - 1) = (m.gone.length : Int) - 1 := wrap64 (by omega)
 refine awl_regS _ rfl fun K hK => ?_
 try simp only [go_sem, simprocAttr, h2, h3, h4, w0]
 repeat' (refine And.intro (by first | rfl | omega | (simp; done)) ?_)
 refine awpS_live [2, 3, 4, 7] fun ρ hL => ?_
 try simp only [go_sem, simprocAttr, h2, h3, h4, w0] at hL
 try clear h2 h3 h4
 obtain ⟨h2, h3, h4, h7⟩ := hL
 refine grp_andN (tc := 7) (tv := 15) (td := 16) (v := ?v1) 8 rfl [2, 3, 4] h7 rfl (fun hb K1 hK1 => ?run) (fun hb => ?skip) (fun ρ hP hL => ?_)
 case skip =>
  exact awpS_skip (want := true) (b := _) (by rw [hb]; rfl) _ [] ρ h7 (fun _ _ => rfl) (by simp) rfl
 case run =>
  simp only [List.take_succ_cons, List.take_zero]
  rw [hb] at h7
  try simp only [go_sem, simprocAttr, h2, h3, h4, h7, w0]
  repeat' (refine And.intro (by first | rfl | omega | (simp; done)) ?_)
  refine opS_call_ro rfl (sat_spec_l1In ?_ ?_ ?_) ?ha ?hv ?hh ?_
  case ha => simp only [go_sem, simprocAttr, h2, h3, h4, h7, w0]; first | done | rfl
  case hv => first | rfl | (simp only [go_sem]; done)
  case hh => first | rfl | (simp only [go_sem]; done)
  try simp only [go_sem, simprocAttr, h2, h3, h4, h7, w0]
  repeat' (refine And.intro (by first | rfl | omega | (simp; done)) ?_)
  exact hK1 _ (by simp only [go_sem, simprocAttr, h2, h3, h4, h7, w0]) (by simp only [go_sem, simprocAttr, h2, h3, h4, h7, w0]; exact rfl) (by simp only [go_sem, simprocAttr, h2, h3, h4, h7, w0])
 simp only [List.drop_succ_cons, List.drop_zero]
 try simp only [go_sem, simprocAttr, h2, h3, h4, h7, w0] at hL
 try clear h2 h3 h4 h7
 obtain ⟨h2, h3, h4⟩ := hL
 have h16 := hP
 clear hP
 try simp only [go_sem, simprocAttr, h2, h3, h4, h16, w0]
 repeat' (refine And.intro (by first | rfl | omega | (simp; done)) ?_)
 refine awpS_live [2, 3, 4, 17] fun ρ hL => ?_
 try simp only [go_sem, simprocAttr, h2, h3, h4, h16, w0] at hL
 try clear h2 h3 h4 h16
 obtain ⟨h2, h3, h4, h17⟩ := hL
 refine grp_andN (tc := 17) (tv := 24) (td := 25) (v := ?v2) 7 rfl [3, 4] h17 rfl (fun hb K1 hK1 => ?run) (fun hb => ?skip) (fun ρ hP hL => ?_)
 case skip =>
  exact awpS_skip (want := true) (b := _) (by rw [hb]; rfl) _ [] ρ h17 (fun _ _ => rfl) (by simp) rfl
 case run =>
  simp only [List.take_succ_cons, List.take_zero]
  rw [hb] at h17
  have hw := inR_iff.1 (Bool.and_eq_true_iff.1 hb).2
  have hn2 : w.key.base.toNat < m.gone.length := by omega
  try simp only [go_sem, simprocAttr, h2, h3, h4, h17, hn2, w0]
  repeat' (refine And.intro (by first | rfl | omega | (simp; done)) ?_)
  exact hK1 _ (by simp only [go_sem, simprocAttr, h2, h3, h4, h17, hn2, w0]) (by simp only [go_sem, simprocAttr, h2, h3, h4, h17, hn2, w0]; exact rfl) (by simp only [go_sem, simprocAttr, h2, h3, h4, h17, hn2, w0])
 simp only [List.drop_succ_cons, List.drop_zero]
 try simp only [go_sem, simprocAttr, h2, h3, h4, h17, w0] at hL
 try clear h2 h3 h4 h17
 obtain ⟨h3, h4⟩ := hL
 have h25 := hP
 clear hP
 try simp only [go_sem, simprocAttr, h3, h4, h25, w0]
 repeat' (refine And.intro (by first | rfl | omega | (simp; done)) ?_)
 refine hK _ _ (.mk (awl_live' [3, 4, 25] fun ρ hL => ?_))
 try simp only [go_sem, simprocAttr, h3, h4, h25, w0] at hL
 try clear h3 h4 h25
 obtain ⟨h3, h4, h25⟩ := hL
 clear hK K
 refine awl_cond h25 (fun c1 => ?_) (fun c1 => ?_)
 ·
  try simp only [cnd] at c1
  refine awl_seq ?_
  refine awl_regS _ rfl fun K hK => ?_
  try simp only [go_sem, simprocAttr, h3, h4, h25]
  repeat' (refine And.intro (by first | rfl | omega | (simp; done)) ?_)
  refine opS_call_ro rfl (sat_spec_Bare ?_) ?ha ?hv ?hh ?_
  case ha => simp only [go_sem, simprocAttr, h3, h4, h25]; first | done | rfl
  case hv => first | rfl | (simp only [go_sem]; done)
  case hh => first | rfl | (simp only [go_sem]; done)
  try simp only [go_sem, simprocAttr, h3, h4, h25]
  repeat' (refine And.intro (by first | rfl | omega | (simp; done)) ?_)
  refine hK _ _ (.mk (awl_live' [4] fun ρ hL => ?_))
  try simp only [go_sem, simprocAttr, h3, h4, h25] at hL
  try clear h3 h4 h25
  have h4 := hL
  clear hL
  clear hK K
  refine awl_ret ?_
  refine ret0 (by simp only [go_sem, simprocAttr, h4]; exact rfl) ?_
  try simp only [go_sem, simprocAttr]
  all_goals (rw [filt, if_pos ⟨c1.1.1, c1.1.2, c1.2⟩] <;> rfl)
 ·
  try simp only [cnd] at c1
  refine awl_skip ?_
  refine awl_seq ?_
  refine awl_regS _ rfl fun K hK => ?_
  try simp only [go_sem, simprocAttr, h3, h4, h25]
  repeat' (refine And.intro (by first | rfl | omega | (simp; done)) ?_)
  refine hK _ _ (.mk (awl_live' [4] fun ρ hL => ?_))
  try simp only [go_sem, simprocAttr, h3, h4, h25] at hL
  try clear h3 h4 h25
  have h4 := hL
  clear hL
  clear hK K
  refine awl_ret ?_
  refine ret0 (by simp only [go_sem, simprocAttr, h4]; exact rfl) ?_
  try simp only [go_sem, simprocAttr]
  all_goals (rw [filt, if_neg (by rintro ⟨a, b, d⟩; rw [a, b, d] at c1; simp at c1)])
set_option maxHeartbeats 8000000 in
set_option maxRecDepth 100000 in
theorem sat_spec_Read (m : Mem) (by_ : Word) (n : Int) (hf : m.fit) : Sat Tryz.prog 58 [.agg m.cells, .agg by_.cells, .int .i64 n] [] (.tuple [.agg (Word.cells (read m by_ n).1), .int .i64 (read m by_ n).2]) [] := by
 refine sat_mk [.cell 6 38, .tmp 7] 0 36 Tryz.call58 Tryz.func58 Tryz.ntmps58 rfl rfl rfl rfl rfl ?_
 refine awl_live' [0, 1, 2] fun ρ hL => ?_
 try simp only [go_sem, simprocAttr] at hL
 obtain ⟨h0, h1, h2⟩ := hL
 refine awl_seq ?_
 refine awl_regS _ rfl fun K hK => ?_
 try simp only [go_sem, simprocAttr, h0, h1, h2]
 repeat' (refine And.intro (by first | rfl | omega | (simp; done)) ?_)
 refine hK _ _ (.mk (awl_live' [2, 3, 4, 6] fun ρ hL => ?_))
 try simp only [go_sem, simprocAttr, h0, h1, h2] at hL
 try clear h0 h1 h2
 obtain ⟨h2, h3, h4, h6⟩ := hL
 clear hK K
 refine awl_seq ?_
 refine awl_regS _ rfl fun K hK => ?_
 try simp only [go_sem, simprocAttr, h2, h3, h4, h6]
 repeat' (refine And.intro (by first | rfl | omega | (simp; done)) ?_)
 refine opS_call_ro rfl (sat_spec_Try by_ n 1) ?ha ?hv ?hh ?_
 case ha => simp only [go_sem, simprocAttr, h2, h3, h4, h6]; first | done | rfl
 case hv => first | rfl | (simp only [go_sem]; done)
 case hh => first | rfl | (simp only [go_sem]; done)
 try simp only [go_sem, simprocAttr, h2, h3, h4, h6]
 repeat' (refine And.intro (by first | rfl | omega | (simp; done)) ?_)
 refine hK _ _ (.mk (awl_live' [2, 3, 4, 6, 8] fun ρ hL => ?_))
 try simp only [go_sem, simprocAttr, h2, h3, h4, h6] at hL
 try clear h2 h3 h4 h6
 obtain ⟨h2, h3, h4, h6, h8⟩ := hL
 clear hK K
 refine awl_seq ?_
 refine awl_seq ?_
 have hg := hf.1
 have w0 : IntKind.i64.wrap ((m.words.length : Int) - 1) = (m.words.length : Int) - 1 := wrap64 (by omega)
 refine awl_regS _ rfl fun K hK => ?_
 try simp only [go_sem, simprocAttr, h2, h3, h4, h6, h8, w0]
 repeat' (refine And.intro (by first | rfl | omega | (simp; done)) ?_)
 refine awpS_live [2, 3, 4, 6, 8, 14] fun ρ hL => ?_
 try simp only [go_sem, simprocAttr, h2, h3, h4, h6, h8, w0] at hL
 try clear h2 h3 h4 h6 h8
 obtain ⟨h2, h3, h4, h6, h8, h14⟩ := hL
 refine grp_andN (tc := 14) (tv := 21) (td := 22) (v := ?v1) 7 rfl [2, 3, 4, 6, 8] h14 rfl (fun hb K1 hK1 => ?run) (fun hb => ?skip) (fun ρ hP hL => ?_)
 case skip =>
  exact awpS_skip (want := true) (b := _) (by rw [hb]; rfl) _ [] ρ h14 (fun _ _ => rfl) (by simp) rfl
 case run =>
  simp only [List.take_succ_cons, List.take_zero]
  rw [hb] at h14
  try simp only [go_sem, simprocAttr, h2, h3, h4, h6, h8, h14, w0]
  repeat' (refine And.intro (by first | rfl | omega | (simp; done)) ?_)
  refine opS_call_ro rfl (sat_spec_l1In ?_ ?_ ?_) ?ha ?hv ?hh ?_
  case ha => simp only [go_sem, simprocAttr, h2, h3, h4, h6, h8, h14, w0]; first | done | rfl
  case hv => first | rfl | (simp only [go_sem]; done)
  case hh => first | rfl | (simp only [go_sem]; done)
  try simp only [go_sem, simprocAttr, h2, h3, h4, h6, h8, h14, w0]
  repeat' (refine And.intro (by first | rfl | omega | (simp; done)) ?_)
  exact hK1 _ (by simp only [go_sem, simprocAttr, h2, h3, h4, h6, h8, h14, w0]) (by simp only [go_sem, simprocAttr, h2, h3, h4, h6, h8, h14, w0]; exact rfl) (by simp only [go_sem, simprocAttr, h2, h3, h4, h6, h8, h14, w0])
 simp only [List.drop_succ_cons, List.drop_zero]
 try simp only [go_sem, simprocAttr, h2, h3, h4, h6, h8, h14, w0] at hL
 try clear h2 h3 h4 h6 h8 h14
 obtain ⟨h2, h3, h4, h6, h8⟩ := hL
 have h22 := hP
 clear hP
 try simp only [go_sem, simprocAttr, h2, h3, h4, h6, h8, h22, w0]
 repeat' (refine And.intro (by first | rfl | omega | (simp; done)) ?_)
 refine hK _ _ (.mk (awl_live' [2, 3, 4, 6, 8, 22] fun ρ hL => ?_))
 try simp only [go_sem, simprocAttr, h2, h3, h4, h6, h8, h22, w0] at hL
 try clear h2 h3 h4 h6 h8 h22
 obtain ⟨h2, h3, h4, h6, h8, h22⟩ := hL
 clear hK K
 have j1_2 := h2
 have j1_3 := h3
 have j1_4 := h4
 have j1_6 := h6
 refine awl_joinH (fun H0 σ G => liveE [2, 3, 4, 6] σ ρ ∧ σ 8 = .int .i64 (readT m by_ n) ∧ G = H0) ?inner1 (fun ρ G hJ => ?after1)
 case inner1 =>
  refine awl_cond h22 (fun c1 => ?_) (fun c1 => ?_)
  ·
   try simp only [cnd] at c1
   refine awl_regS _ rfl fun K hK => ?_
   try simp only [go_sem, simprocAttr, h2, h3, h4, h6, h8, h22]
   repeat' (refine And.intro (by first | rfl | omega | (simp; done)) ?_)
   refine hK _ _ (.mk (awl_live' [2, 3, 4, 6, 8] fun ρ hL => ?_))
   try simp only [go_sem, simprocAttr, h2, h3, h4, h6, h8, h22] at hL
   try clear h2 h3 h4 h6 h8 h22
   obtain ⟨h2, h3, h4, h6, h8⟩ := hL
   clear hK K
   refine awl_nil ?_
   show wkQ _ _ _ _
   refine .mk ⟨(by simp only [go_sem, simprocAttr, h2, h3, h4, h6, h8, j1_2, j1_3, j1_4, j1_6]), (by rw [h8]; congr 1; unfold readT; split <;> simp_all), rfl⟩
  ·
   try simp only [cnd] at c1
   refine awl_skip ?_
   refine awl_nil ?_
   show wkQ _ _ _ _
   refine .mk ⟨(by simp only [go_sem, simprocAttr, h2, h3, h4, h6, h8, h22, j1_2, j1_3, j1_4, j1_6]), (by rw [h8]; congr 1; unfold readT; split <;> simp_all), rfl⟩
 case after1 =>
  obtain ⟨hL, k8, hG⟩ := hJ
  subst hG
  try simp only [go_sem, simprocAttr, h2, h3, h4, h6, h8, h22] at hL
  clear h2 h3 h4 h6 h8 h22
  obtain ⟨h2, h3, h4, h6⟩ := hL
  have h8 := k8
  clear k8
  refine awl_seq ?_
  refine awl_seq ?_
  refine awl_regS _ rfl fun K hK => ?_
  try simp only [go_sem, simprocAttr, h2, h3, h4, h6, h8]
  repeat' (refine And.intro (by first | rfl | omega | (simp; done)) ?_)
  refine hK _ _ (.mk (awl_live' [2, 3, 4, 6, 8, 24] fun ρ hL => ?_))
  try simp only [go_sem, simprocAttr, h2, h3, h4, h6, h8] at hL
  try clear h2 h3 h4 h6 h8
  obtain ⟨h2, h3, h4, h6, h8, h24⟩ := hL
  clear hK K
  refine awl_cond h24 (fun c2 => ?_) (fun c2 => ?_)
  ·
   try simp only [cnd] at c2
   refine awl_seq ?_
   refine awl_regS _ rfl fun K hK => ?_
   try simp only [go_sem, simprocAttr, h2, h3, h4, h6, h8, h24]
   repeat' (refine And.intro (by first | rfl | omega | (simp; done)) ?_)
   refine hK _ _ (.mk (awl_live' [6, 7] fun ρ hL => ?_))
   try simp only [go_sem, simprocAttr, h2, h3, h4, h6, h8, h24] at hL
   try clear h2 h3 h4 h6 h8 h24
   obtain ⟨h6, h7⟩ := hL
   clear hK K
   refine awl_ret ?_
   refine ret0 (by simp only [go_sem, simprocAttr, h6, h7]; exact rfl) ?_
   try simp only [go_sem, simprocAttr]
   all_goals (rw [read_no (by omega)]; rfl)
  ·
   try simp only [cnd] at c2
   refine awl_skip ?_
   refine awl_seq ?_
   have hr0 : readT m by_ n = 0 := by omega
   have hr := inR_iff.1 (read_in hr0)
   have hn2 : n.toNat < m.words.length := by omega
   refine awl_regD mixed _ rfl fun K hK => ?_
   try simp only [go_sem, simprocAttr, h2, h3, h4, h6, h8, h24, hn2]
   repeat' (refine And.intro (by first | omega | (exact ⟨[0, 0, 0, 4, 0, 28, 60, 126, 255, 511, 1023], by kernel_rfl⟩) | kernel_rfl) ?_)
   refine dS_call_ro rfl (sat_spec_Taken by_ (m.words.getD n.toNat noWord)) ?ha ?hv ?hh ?_
   case ha => simp only [go_sem, simprocAttr, h2, h3, h4, h6, h8, h24, hn2]; first | done | rfl
   case hv => first | rfl | (simp only [go_sem]; done)
   case hh => first | rfl | (simp only [go_sem]; done)
   try simp only [go_sem, simprocAttr, h2, h3, h4, h6, h8, h24, hn2]
   repeat' (refine And.intro (by first | omega | (exact ⟨[0, 0, 0, 4, 0, 28, 60, 126, 255, 511, 1023], by kernel_rfl⟩) | kernel_rfl) ?_)
   refine dS_call_ro rfl (sat_spec_Filter m (taken by_ (m.words.getD n.toNat noWord)) hf) ?ha ?hv ?hh ?_
   case ha => simp only [go_sem, simprocAttr, h2, h3, h4, h6, h8, h24, hn2]; first | done | rfl
   case hv => first | rfl | (simp only [go_sem]; done)
   case hh => first | rfl | (simp only [go_sem]; done)
   try simp only [go_sem, simprocAttr, h2, h3, h4, h6, h8, h24, hn2]
   repeat' (refine And.intro (by first | omega | (exact ⟨[0, 0, 0, 4, 0, 28, 60, 126, 255, 511, 1023], by kernel_rfl⟩) | kernel_rfl) ?_)
   refine hK _ _ (.mk (awl_live' [6, 7] fun ρ hL => ?_))
   try simp only [go_sem, simprocAttr, h2, h3, h4, h6, h8, h24, hn2] at hL
   try clear h2 h3 h4 h6 h8 h24
   obtain ⟨h6, h7⟩ := hL
   clear hK K
   refine awl_ret ?_
   refine ret0 (by simp only [go_sem, simprocAttr, h6, h7]; exact rfl) ?_
   try simp only [go_sem, simprocAttr]
   all_goals (rw [read_ok hr0])
set_option maxHeartbeats 8000000 in
set_option maxRecDepth 100000 in
theorem sat_impl_Filter (m : Mem) (w : Word) (hf : m.fit) : Sat Tryz.prog 82 [.agg m.cells, .agg w.cells] [] (.agg (Word.cells (filt m w))) [] := by
 refine sat_mk [.cell 4 38] 0 29 Tryz.call82 Tryz.func82 Tryz.ntmps82 rfl rfl rfl rfl rfl ?_
 refine awl_live' [0, 1] fun ρ hL => ?_
 try simp only [go_sem, simprocAttr] at hL
 obtain ⟨h0, h1⟩ := hL
 refine awl_seq ?_
 refine awl_regS _ rfl fun K hK => ?_
 try simp only [go_sem, simprocAttr, h0, h1]
 repeat' (refine And.intro (by first | rfl | omega | (simp; done)) ?_)
 refine hK _ _ (.mk (awl_live' [2, 3, 4] fun ρ hL => ?_))
 try simp only [go_sem, simprocAttr, h0, h1] at hL
 try clear h0 h1
 obtain ⟨h2, h3, h4⟩ := hL
 clear hK K
 refine awl_seq ?_
 refine awl_seq ?_
 have hg := hf.2
 have w0 : IntKind.i64.wrap ((m.gone.length : Int) - 1) = (m.gone.length : Int) - 1 := wrap64 (by omega)
 refine awl_regS _ rfl fun K hK => ?_
 try simp only [go_sem, simprocAttr, h2, h3, h4, w0]
 repeat' (refine And.intro (by first | rfl | omega | (simp; done)) ?_)
 refine awpS_live [2, 3, 4, 7] fun ρ hL => ?_
 try simp only [go_sem, simprocAttr, h2, h3, h4, w0] at hL
 try clear h2 h3 h4
 obtain ⟨h2, h3, h4, h7⟩ := hL
 refine grp_andN (tc := 7) (tv := 15) (td := 16) (v := ?v1) 8 rfl [2, 3, 4] h7 rfl (fun hb K1 hK1 => ?run) (fun hb => ?skip) (fun ρ hP hL => ?_)
 case skip =>
  exact awpS_skip (want := true) (b := _) (by rw [hb]; rfl) _ [] ρ h7 (fun _ _ => rfl) (by simp) rfl
 case run =>
  simp only [List.take_succ_cons, List.take_zero]
  rw [hb] at h7
  try simp only [go_sem, simprocAttr, h2, h3, h4, h7, w0]
  repeat' (refine And.intro (by first | rfl | omega | (simp; done)) ?_)
  refine opS_call_ro rfl (sat_impl_in ?_ ?_ ?_) ?ha ?hv ?hh ?_
  case ha => simp only [go_sem, simprocAttr, h2, h3, h4, h7, w0]; first | done | rfl
  case hv => first | rfl | (simp only [go_sem]; done)
  case hh => first | rfl | (simp only [go_sem]; done)
  try simp only [go_sem, simprocAttr, h2, h3, h4, h7, w0]
  repeat' (refine And.intro (by first | rfl | omega | (simp; done)) ?_)
  exact hK1 _ (by simp only [go_sem, simprocAttr, h2, h3, h4, h7, w0]) (by simp only [go_sem, simprocAttr, h2, h3, h4, h7, w0]; exact rfl) (by simp only [go_sem, simprocAttr, h2, h3, h4, h7, w0])
 simp only [List.drop_succ_cons, List.drop_zero]
 try simp only [go_sem, simprocAttr, h2, h3, h4, h7, w0] at hL
 try clear h2 h3 h4 h7
 obtain ⟨h2, h3, h4⟩ := hL
 have h16 := hP
 clear hP
 try simp only [go_sem, simprocAttr, h2, h3, h4, h16, w0]
 repeat' (refine And.intro (by first | rfl | omega | (simp; done)) ?_)
 refine awpS_live [2, 3, 4, 17] fun ρ hL => ?_
 try simp only [go_sem, simprocAttr, h2, h3, h4, h16, w0] at hL
 try clear h2 h3 h4 h16
 obtain ⟨h2, h3, h4, h17⟩ := hL
 refine grp_andN (tc := 17) (tv := 24) (td := 25) (v := ?v2) 7 rfl [3, 4] h17 rfl (fun hb K1 hK1 => ?run) (fun hb => ?skip) (fun ρ hP hL => ?_)
 case skip =>
  exact awpS_skip (want := true) (b := _) (by rw [hb]; rfl) _ [] ρ h17 (fun _ _ => rfl) (by simp) rfl
 case run =>
  simp only [List.take_succ_cons, List.take_zero]
  rw [hb] at h17
  have hw := inR_iff.1 (Bool.and_eq_true_iff.1 hb).2
  have hn2 : w.key.base.toNat < m.gone.length := by omega
  try simp only [go_sem, simprocAttr, h2, h3, h4, h17, hn2, w0]
  repeat' (refine And.intro (by first | rfl | omega | (simp; done)) ?_)
  exact hK1 _ (by simp only [go_sem, simprocAttr, h2, h3, h4, h17, hn2, w0]) (by simp only [go_sem, simprocAttr, h2, h3, h4, h17, hn2, w0]; exact rfl) (by simp only [go_sem, simprocAttr, h2, h3, h4, h17, hn2, w0])
 simp only [List.drop_succ_cons, List.drop_zero]
 try simp only [go_sem, simprocAttr, h2, h3, h4, h17, w0] at hL
 try clear h2 h3 h4 h17
 obtain ⟨h3, h4⟩ := hL
 have h25 := hP
 clear hP
 try simp only [go_sem, simprocAttr, h3, h4, h25, w0]
 repeat' (refine And.intro (by first | rfl | omega | (simp; done)) ?_)
 refine hK _ _ (.mk (awl_live' [3, 4, 25] fun ρ hL => ?_))
 try simp only [go_sem, simprocAttr, h3, h4, h25, w0] at hL
 try clear h3 h4 h25
 obtain ⟨h3, h4, h25⟩ := hL
 clear hK K
 refine awl_cond h25 (fun c1 => ?_) (fun c1 => ?_)
 ·
  try simp only [cnd] at c1
  refine awl_seq ?_
  refine awl_regS _ rfl fun K hK => ?_
  try simp only [go_sem, simprocAttr, h3, h4, h25]
  repeat' (refine And.intro (by first | rfl | omega | (simp; done)) ?_)
  refine opS_call_ro rfl (sat_impl_Bare ?_) ?ha ?hv ?hh ?_
  case ha => simp only [go_sem, simprocAttr, h3, h4, h25]; first | done | rfl
  case hv => first | rfl | (simp only [go_sem]; done)
  case hh => first | rfl | (simp only [go_sem]; done)
  try simp only [go_sem, simprocAttr, h3, h4, h25]
  repeat' (refine And.intro (by first | rfl | omega | (simp; done)) ?_)
  refine hK _ _ (.mk (awl_live' [4] fun ρ hL => ?_))
  try simp only [go_sem, simprocAttr, h3, h4, h25] at hL
  try clear h3 h4 h25
  have h4 := hL
  clear hL
  clear hK K
  refine awl_ret ?_
  refine ret0 (by simp only [go_sem, simprocAttr, h4]; exact rfl) ?_
  try simp only [go_sem, simprocAttr]
  all_goals (rw [filt, if_pos ⟨c1.1.1, c1.1.2, c1.2⟩] <;> rfl)
 ·
  try simp only [cnd] at c1
  refine awl_skip ?_
  refine awl_seq ?_
  refine awl_regS _ rfl fun K hK => ?_
  try simp only [go_sem, simprocAttr, h3, h4, h25]
  repeat' (refine And.intro (by first | rfl | omega | (simp; done)) ?_)
  refine hK _ _ (.mk (awl_live' [4] fun ρ hL => ?_))
  try simp only [go_sem, simprocAttr, h3, h4, h25] at hL
  try clear h3 h4 h25
  have h4 := hL
  clear hL
  clear hK K
  refine awl_ret ?_
  refine ret0 (by simp only [go_sem, simprocAttr, h4]; exact rfl) ?_
  try simp only [go_sem, simprocAttr]
  all_goals (rw [filt, if_neg (by rintro ⟨a, b, d⟩; rw [a, b, d] at c1; simp at c1)])
set_option maxHeartbeats 8000000 in
set_option maxRecDepth 100000 in
theorem sat_impl_Read (m : Mem) (by_ : Word) (n : Int) (hf : m.fit) : Sat Tryz.prog 74 [.agg m.cells, .agg by_.cells, .int .i64 n] [] (.tuple [.agg (Word.cells (read m by_ n).1), .int .i64 (read m by_ n).2]) [] := by
 refine sat_mk [.cell 6 38, .tmp 7] 0 36 Tryz.call74 Tryz.func74 Tryz.ntmps74 rfl rfl rfl rfl rfl ?_
 refine awl_live' [0, 1, 2] fun ρ hL => ?_
 try simp only [go_sem, simprocAttr] at hL
 obtain ⟨h0, h1, h2⟩ := hL
 refine awl_seq ?_
 refine awl_regS _ rfl fun K hK => ?_
 try simp only [go_sem, simprocAttr, h0, h1, h2]
 repeat' (refine And.intro (by first | rfl | omega | (simp; done)) ?_)
 refine hK _ _ (.mk (awl_live' [2, 3, 4, 6] fun ρ hL => ?_))
 try simp only [go_sem, simprocAttr, h0, h1, h2] at hL
 try clear h0 h1 h2
 obtain ⟨h2, h3, h4, h6⟩ := hL
 clear hK K
 refine awl_seq ?_
 refine awl_regS _ rfl fun K hK => ?_
 try simp only [go_sem, simprocAttr, h2, h3, h4, h6]
 repeat' (refine And.intro (by first | rfl | omega | (simp; done)) ?_)
 refine opS_call_ro rfl (sat_impl_Try by_ n 1 (by decide)) ?ha ?hv ?hh ?_
 case ha => simp only [go_sem, simprocAttr, h2, h3, h4, h6]; first | done | rfl
 case hv => first | rfl | (simp only [go_sem]; done)
 case hh => first | rfl | (simp only [go_sem]; done)
 try simp only [go_sem, simprocAttr, h2, h3, h4, h6]
 repeat' (refine And.intro (by first | rfl | omega | (simp; done)) ?_)
 refine hK _ _ (.mk (awl_live' [2, 3, 4, 6, 8] fun ρ hL => ?_))
 try simp only [go_sem, simprocAttr, h2, h3, h4, h6] at hL
 try clear h2 h3 h4 h6
 obtain ⟨h2, h3, h4, h6, h8⟩ := hL
 clear hK K
 refine awl_seq ?_
 refine awl_seq ?_
 have hg := hf.1
 have w0 : IntKind.i64.wrap ((m.words.length : Int) - 1) = (m.words.length : Int) - 1 := wrap64 (by omega)
 refine awl_regS _ rfl fun K hK => ?_
 try simp only [go_sem, simprocAttr, h2, h3, h4, h6, h8, w0]
 repeat' (refine And.intro (by first | rfl | omega | (simp; done)) ?_)
 refine awpS_live [2, 3, 4, 6, 8, 14] fun ρ hL => ?_
 try simp only [go_sem, simprocAttr, h2, h3, h4, h6, h8, w0] at hL
 try clear h2 h3 h4 h6 h8
 obtain ⟨h2, h3, h4, h6, h8, h14⟩ := hL
 refine grp_andN (tc := 14) (tv := 21) (td := 22) (v := ?v1) 7 rfl [2, 3, 4, 6, 8] h14 rfl (fun hb K1 hK1 => ?run) (fun hb => ?skip) (fun ρ hP hL => ?_)
 case skip =>
  exact awpS_skip (want := true) (b := _) (by rw [hb]; rfl) _ [] ρ h14 (fun _ _ => rfl) (by simp) rfl
 case run =>
  simp only [List.take_succ_cons, List.take_zero]
  rw [hb] at h14
  try simp only [go_sem, simprocAttr, h2, h3, h4, h6, h8, h14, w0]
  repeat' (refine And.intro (by first | rfl | omega | (simp; done)) ?_)
  refine opS_call_ro rfl (sat_impl_in ?_ ?_ ?_) ?ha ?hv ?hh ?_
  case ha => simp only [go_sem, simprocAttr, h2, h3, h4, h6, h8, h14, w0]; first | done | rfl
  case hv => first | rfl | (simp only [go_sem]; done)
  case hh => first | rfl | (simp only [go_sem]; done)
  try simp only [go_sem, simprocAttr, h2, h3, h4, h6, h8, h14, w0]
  repeat' (refine And.intro (by first | rfl | omega | (simp; done)) ?_)
  exact hK1 _ (by simp only [go_sem, simprocAttr, h2, h3, h4, h6, h8, h14, w0]) (by simp only [go_sem, simprocAttr, h2, h3, h4, h6, h8, h14, w0]; exact rfl) (by simp only [go_sem, simprocAttr, h2, h3, h4, h6, h8, h14, w0])
 simp only [List.drop_succ_cons, List.drop_zero]
 try simp only [go_sem, simprocAttr, h2, h3, h4, h6, h8, h14, w0] at hL
 try clear h2 h3 h4 h6 h8 h14
 obtain ⟨h2, h3, h4, h6, h8⟩ := hL
 have h22 := hP
 clear hP
 try simp only [go_sem, simprocAttr, h2, h3, h4, h6, h8, h22, w0]
 repeat' (refine And.intro (by first | rfl | omega | (simp; done)) ?_)
 refine hK _ _ (.mk (awl_live' [2, 3, 4, 6, 8, 22] fun ρ hL => ?_))
 try simp only [go_sem, simprocAttr, h2, h3, h4, h6, h8, h22, w0] at hL
 try clear h2 h3 h4 h6 h8 h22
 obtain ⟨h2, h3, h4, h6, h8, h22⟩ := hL
 clear hK K
 have j1_2 := h2
 have j1_3 := h3
 have j1_4 := h4
 have j1_6 := h6
 refine awl_joinH (fun H0 σ G => liveE [2, 3, 4, 6] σ ρ ∧ σ 8 = .int .i64 (readT m by_ n) ∧ G = H0) ?inner1 (fun ρ G hJ => ?after1)
 case inner1 =>
  refine awl_cond h22 (fun c1 => ?_) (fun c1 => ?_)
  ·
   try simp only [cnd] at c1
   refine awl_regS _ rfl fun K hK => ?_
   try simp only [go_sem, simprocAttr, h2, h3, h4, h6, h8, h22]
   repeat' (refine And.intro (by first | rfl | omega | (simp; done)) ?_)
   refine hK _ _ (.mk (awl_live' [2, 3, 4, 6, 8] fun ρ hL => ?_))
   try simp only [go_sem, simprocAttr, h2, h3, h4, h6, h8, h22] at hL
   try clear h2 h3 h4 h6 h8 h22
   obtain ⟨h2, h3, h4, h6, h8⟩ := hL
   clear hK K
   refine awl_nil ?_
   show wkQ _ _ _ _
   refine .mk ⟨(by simp only [go_sem, simprocAttr, h2, h3, h4, h6, h8, j1_2, j1_3, j1_4, j1_6]), (by rw [h8]; congr 1; unfold readT; split <;> simp_all), rfl⟩
  ·
   try simp only [cnd] at c1
   refine awl_skip ?_
   refine awl_nil ?_
   show wkQ _ _ _ _
   refine .mk ⟨(by simp only [go_sem, simprocAttr, h2, h3, h4, h6, h8, h22, j1_2, j1_3, j1_4, j1_6]), (by rw [h8]; congr 1; unfold readT; split <;> simp_all), rfl⟩
 case after1 =>
  obtain ⟨hL, k8, hG⟩ := hJ
  subst hG
  try simp only [go_sem, simprocAttr, h2, h3, h4, h6, h8, h22] at hL
  clear h2 h3 h4 h6 h8 h22
  obtain ⟨h2, h3, h4, h6⟩ := hL
  have h8 := k8
  clear k8
  refine awl_seq ?_
  refine awl_seq ?_
  refine awl_regS _ rfl fun K hK => ?_
  try simp only [go_sem, simprocAttr, h2, h3, h4, h6, h8]
  repeat' (refine And.intro (by first | rfl | omega | (simp; done)) ?_)
  refine hK _ _ (.mk (awl_live' [2, 3, 4, 6, 8, 24] fun ρ hL => ?_))
  try simp only [go_sem, simprocAttr, h2, h3, h4, h6, h8] at hL
  try clear h2 h3 h4 h6 h8
  obtain ⟨h2, h3, h4, h6, h8, h24⟩ := hL
  clear hK K
  refine awl_cond h24 (fun c2 => ?_) (fun c2 => ?_)
  ·
   try simp only [cnd] at c2
   refine awl_seq ?_
   refine awl_regS _ rfl fun K hK => ?_
   try simp only [go_sem, simprocAttr, h2, h3, h4, h6, h8, h24]
   repeat' (refine And.intro (by first | rfl | omega | (simp; done)) ?_)
   refine hK _ _ (.mk (awl_live' [6, 7] fun ρ hL => ?_))
   try simp only [go_sem, simprocAttr, h2, h3, h4, h6, h8, h24] at hL
   try clear h2 h3 h4 h6 h8 h24
   obtain ⟨h6, h7⟩ := hL
   clear hK K
   refine awl_ret ?_
   refine ret0 (by simp only [go_sem, simprocAttr, h6, h7]; exact rfl) ?_
   try simp only [go_sem, simprocAttr]
   all_goals (rw [read_no (by omega)]; rfl)
  ·
   try simp only [cnd] at c2
   refine awl_skip ?_
   refine awl_seq ?_
   have hr0 : readT m by_ n = 0 := by omega
   have hr := inR_iff.1 (read_in hr0)
   have hn2 : n.toNat < m.words.length := by omega
   refine awl_regD mixed _ rfl fun K hK => ?_
   try simp only [go_sem, simprocAttr, h2, h3, h4, h6, h8, h24, hn2]
   repeat' (refine And.intro (by first | omega | (exact ⟨[0, 0, 0, 4, 0, 28, 60, 126, 255, 511, 1023], by kernel_rfl⟩) | kernel_rfl) ?_)
   refine dS_call_ro rfl (sat_impl_Taken by_ (m.words.getD n.toNat noWord)) ?ha ?hv ?hh ?_
   case ha => simp only [go_sem, simprocAttr, h2, h3, h4, h6, h8, h24, hn2]; first | done | rfl
   case hv => first | rfl | (simp only [go_sem]; done)
   case hh => first | rfl | (simp only [go_sem]; done)
   try simp only [go_sem, simprocAttr, h2, h3, h4, h6, h8, h24, hn2]
   repeat' (refine And.intro (by first | omega | (exact ⟨[0, 0, 0, 4, 0, 28, 60, 126, 255, 511, 1023], by kernel_rfl⟩) | kernel_rfl) ?_)
   refine dS_call_ro rfl (sat_impl_Filter m (taken by_ (m.words.getD n.toNat noWord)) hf) ?ha ?hv ?hh ?_
   case ha => simp only [go_sem, simprocAttr, h2, h3, h4, h6, h8, h24, hn2]; first | done | rfl
   case hv => first | rfl | (simp only [go_sem]; done)
   case hh => first | rfl | (simp only [go_sem]; done)
   try simp only [go_sem, simprocAttr, h2, h3, h4, h6, h8, h24, hn2]
   repeat' (refine And.intro (by first | omega | (exact ⟨[0, 0, 0, 4, 0, 28, 60, 126, 255, 511, 1023], by kernel_rfl⟩) | kernel_rfl) ?_)
   refine hK _ _ (.mk (awl_live' [6, 7] fun ρ hL => ?_))
   try simp only [go_sem, simprocAttr, h2, h3, h4, h6, h8, h24, hn2] at hL
   try clear h2 h3 h4 h6 h8 h24
   obtain ⟨h6, h7⟩ := hL
   clear hK K
   refine awl_ret ?_
   refine ret0 (by simp only [go_sem, simprocAttr, h6, h7]; exact rfl) ?_
   try simp only [go_sem, simprocAttr]
   all_goals (rw [read_ok hr0])
end Go.Proofs.YtgddflnhibhacaaGreat.AM
