/- Fetching into a core. No conditions but those each theorem bears. -/
import Derived.Test.YtopjagninmjkbaaGreatFa
import Derived.Test.YtopjagninmjkbaaGreatSp14
import Derived.Test.YtopjagninmjkbaaGreatCa14
import Derived.Test.YtopjagninmjkbaaGreatCa20f
import Derived.Test.YtopjagninmjkbaaGreatCa5b
import Derived.Test.YtopjagninmjkbaaGreatCa34
set_option linter.unusedSimpArgs false
set_option linter.unusedVariables false
namespace Go.Proofs.YtopjagninmjkbaaGreat.AM
open Go

set_option maxHeartbeats 8000000 in
set_option maxRecDepth 100000 in
theorem sat_spec_Pull (l : List Ins) (c : Cor) (hl : l.length ≤ 1048576) (hf : c.fit) : Sat Tryz.prog 7 [.sl l.length l.length (rows l), .agg c.cells] [] (.tuple [.agg ((pull l c).1.own 0 1 2 3 4), .bool (pull l c).2]) (pull l c).1.blks := by
 refine sat_mk [.cell 4 49, .tmp 5] 0 74 Tryz.call7 Tryz.func7 Tryz.ntmps7 rfl rfl rfl rfl rfl ?_
 refine awl_live' [0, 1] fun ρ hL => ?_
 try simp only [go_sem, simprocAttr] at hL
 obtain ⟨h0, h1⟩ := hL
 refine awl_seq ?_
 refine awl_regS _ rfl fun K hK => ?_
 try simp only [go_sem, simprocAttr, h0, h1]
 repeat' (refine And.intro (by first | rfl | omega | (simp; done)) ?_)
 refine hK _ _ (.mk (awl_live' [0, 3, 4] fun ρ hL => ?_))
 try simp only [go_sem, simprocAttr, h0, h1] at hL
 try clear h0 h1
 obtain ⟨h0, h3, h4⟩ := hL
 clear hK K
 refine awl_seq ?_
 refine awl_seq ?_
 refine awl_regS _ rfl fun K hK => ?_
 try simp only [go_sem, simprocAttr, h0, h3, h4]
 repeat' (refine And.intro (by first | rfl | omega | (simp; done)) ?_)
 refine opS_call_ro rfl (sat_spec_CoreOk c hf) ?ha ?hv ?hh ?_
 case ha => simp only [go_sem, simprocAttr, h0, h3, h4]; first | done | rfl
 case hv => first | rfl | (simp only [go_sem]; done)
 case hh => first | rfl | (simp only [go_sem]; done)
 try simp only [go_sem, simprocAttr, h0, h3, h4]
 repeat' (refine And.intro (by first | rfl | omega | (simp; done)) ?_)
 refine hK _ _ (.mk (awl_live' [0, 3, 4, 12] fun ρ hL => ?_))
 try simp only [go_sem, simprocAttr, h0, h3, h4] at hL
 try clear h0 h3 h4
 obtain ⟨h0, h3, h4, h12⟩ := hL
 clear hK K
 refine awl_cond h12 (fun c1 => ?_) (fun c1 => ?_)
 ·
  try simp only [cnd] at c1
  refine awl_seq ?_
  refine awl_regS _ rfl fun K hK => ?_
  try simp only [go_sem, simprocAttr, h0, h3, h4, h12]
  repeat' (refine And.intro (by first | rfl | omega | (simp; done)) ?_)
  refine hK _ _ (.mk (awl_live' [4, 5] fun ρ hL => ?_))
  try simp only [go_sem, simprocAttr, h0, h3, h4, h12] at hL
  try clear h0 h3 h4 h12
  obtain ⟨h4, h5⟩ := hL
  clear hK K
  refine awl_ret ?_
  refine retN (v := .tuple [.agg [.nilsl, .int .i64 0, .bool false, .int .i64 0, .int .i64 0, .int .i64 0, .int .i64 0, .nilsl, .nilsl, .int .i64 0, .nilsl, .int .i64 0, .bool false, .int .i64 0, .int .i64 0, .int .i64 0, .int .i64 0, .bool false, .nilsl], .bool false]) [6, 6, 1, 40, 1] [2, 3, 4, 5, 6] [2, 3, 4, 5, 6] rfl (by simp only [go_sem, simprocAttr, h4, h5]; exact rfl) (by first | rfl | (simp only [go_sem, simprocAttr, h4, h5]; first | done | rfl)) (Ref.tuple (RefL.cons (Ref.agg (RefL.cons (Ref.nil 2 ⟨Nat.le_of_ble_eq_true rfl, Nat.le_of_ble_eq_true rfl⟩) (RefL.cons (Ref.refl _) (RefL.cons (Ref.refl _) (RefL.cons (Ref.refl _) (RefL.cons (Ref.refl _) (RefL.cons (Ref.refl _) (RefL.cons (Ref.refl _) (RefL.cons (Ref.nil 3 ⟨Nat.le_of_ble_eq_true rfl, Nat.le_of_ble_eq_true rfl⟩) (RefL.cons (Ref.nil 4 ⟨Nat.le_of_ble_eq_true rfl, Nat.le_of_ble_eq_true rfl⟩) (RefL.cons (Ref.refl _) (RefL.cons (Ref.nil 5 ⟨Nat.le_of_ble_eq_true rfl, Nat.le_of_ble_eq_true rfl⟩) (RefL.cons (Ref.refl _) (RefL.cons (Ref.refl _) (RefL.cons (Ref.refl _) (RefL.cons (Ref.refl _) (RefL.cons (Ref.refl _) (RefL.cons (Ref.refl _) (RefL.cons (Ref.refl _) (RefL.cons (Ref.nil 6 ⟨Nat.le_of_ble_eq_true rfl, Nat.le_of_ble_eq_true rfl⟩) (RefL.same []))))))))))))))))))))) (RefL.same _))) rfl (by decide) rfl rfl ?_ ?_
  all_goals try simp only [go_sem, simprocAttr, h4, h5]
  all_goals (rw [pull_no c1] <;> rfl)
 ·
  try simp only [cnd] at c1
  refine awl_skip ?_
  refine awl_seq ?_
  refine awl_regS _ rfl fun K hK => ?_
  try simp only [go_sem, simprocAttr, h0, h3, h4, h12]
  repeat' (refine And.intro (by first | rfl | omega | (simp; done)) ?_)
  refine opS_call_ro rfl (sat_spec_l12Copy c hf) ?ha ?hv ?hh ?_
  case ha => simp only [go_sem, simprocAttr, h0, h3, h4, h12]; first | done | rfl
  case hv => first | rfl | (simp only [go_sem]; done)
  case hh => first | rfl | (simp only [go_sem]; done)
  try simp only [go_sem, simprocAttr, h0, h3, h4, h12]
  repeat' (refine And.intro (by first | rfl | omega | (simp; done)) ?_)
  refine hK _ _ (.mk (awl_live' [0, 3, 4, 6] fun ρ hL => ?_))
  try simp only [go_sem, simprocAttr, h0, h3, h4, h12] at hL
  try clear h0 h3 h4 h12
  obtain ⟨h0, h3, h4, h6⟩ := hL
  clear hK K
  refine awl_seq ?_
  refine awl_seq ?_
  have hr6 := (corOk_parts c1).2.2.1
  refine awl_regS _ rfl fun K hK => ?_
  try simp only [go_sem, simprocAttr, h0, h3, h4, h6]
  repeat' (refine And.intro (by first | rfl | omega | (simp; done)) ?_)
  refine awpS_live [0, 3, 4, 6, 18] fun ρ hL => ?_
  try simp only [go_sem, simprocAttr, h0, h3, h4, h6] at hL
  try clear h0 h3 h4 h6
  obtain ⟨h0, h3, h4, h6, h18⟩ := hL
  refine grp_orN (tc := 18) (tv := 22) (td := 23) (v := ?v1) 4 rfl [0, 3, 4, 6] h18 rfl (fun hb K1 hK1 => ?run) (fun hb => ?skip) (fun ρ hP hL => ?_)
  case skip =>
   exact awpS_skip (want := false) (b := _) (by rw [hb]; rfl) _ [] ρ h18 (fun _ _ => rfl) (by simp) rfl
  case run =>
   simp only [List.take_succ_cons, List.take_zero]
   rw [hb] at h18
   try simp only [go_sem, simprocAttr, h0, h3, h4, h6, h18]
   repeat' (refine And.intro (by first | rfl | omega | (simp; done)) ?_)
   exact hK1 _ (by simp only [go_sem, simprocAttr, h0, h3, h4, h6, h18]) (by simp only [go_sem, simprocAttr, h0, h3, h4, h6, h18]; exact rfl) (by simp only [go_sem, simprocAttr, h0, h3, h4, h6, h18])
  simp only [List.drop_succ_cons, List.drop_zero]
  try simp only [go_sem, simprocAttr, h0, h3, h4, h6, h18] at hL
  try clear h0 h3 h4 h6 h18
  obtain ⟨h0, h3, h4, h6⟩ := hL
  have h23 := hP
  clear hP
  try simp only [go_sem, simprocAttr, h0, h3, h4, h6, h23]
  repeat' (refine And.intro (by first | rfl | omega | (simp; done)) ?_)
  refine awpS_live [0, 3, 4, 6, 24] fun ρ hL => ?_
  try simp only [go_sem, simprocAttr, h0, h3, h4, h6, h23] at hL
  try clear h0 h3 h4 h6 h23
  obtain ⟨h0, h3, h4, h6, h24⟩ := hL
  refine grp_orN (tc := 24) (tv := 28) (td := 29) (v := ?v2) 4 rfl [0, 3, 4, 6] h24 rfl (fun hb K1 hK1 => ?run) (fun hb => ?skip) (fun ρ hP hL => ?_)
  case skip =>
   exact awpS_skip (want := false) (b := _) (by rw [hb]; rfl) _ [] ρ h24 (fun _ _ => rfl) (by simp) rfl
  case run =>
   simp only [List.take_succ_cons, List.take_zero]
   rw [hb] at h24
   try simp only [go_sem, simprocAttr, h0, h3, h4, h6, h24]
   repeat' (refine And.intro (by first | rfl | omega | (simp; done)) ?_)
   exact hK1 _ (by simp only [go_sem, simprocAttr, h0, h3, h4, h6, h24]) (by simp only [go_sem, simprocAttr, h0, h3, h4, h6, h24]; exact rfl) (by simp only [go_sem, simprocAttr, h0, h3, h4, h6, h24])
  simp only [List.drop_succ_cons, List.drop_zero]
  try simp only [go_sem, simprocAttr, h0, h3, h4, h6, h24] at hL
  try clear h0 h3 h4 h6 h24
  obtain ⟨h0, h3, h4, h6⟩ := hL
  have h29 := hP
  clear hP
  try simp only [go_sem, simprocAttr, h0, h3, h4, h6, h29]
  repeat' (refine And.intro (by first | rfl | omega | (simp; done)) ?_)
  refine hK _ _ (.mk (awl_live' [0, 3, 4, 6, 29] fun ρ hL => ?_))
  try simp only [go_sem, simprocAttr, h0, h3, h4, h6, h29] at hL
  try clear h0 h3 h4 h6 h29
  obtain ⟨h0, h3, h4, h6, h29⟩ := hL
  clear hK K
  refine awl_cond h29 (fun c2 => ?_) (fun c2 => ?_)
  ·
   try simp only [cnd] at c2
   refine awl_seq ?_
   refine awl_regS _ rfl fun K hK => ?_
   try simp only [go_sem, simprocAttr, h0, h3, h4, h6, h29]
   repeat' (refine And.intro (by first | rfl | omega | (simp; done)) ?_)
   refine hK _ _ (.mk (awl_live' [4, 5] fun ρ hL => ?_))
   try simp only [go_sem, simprocAttr, h0, h3, h4, h6, h29] at hL
   try clear h0 h3 h4 h6 h29
   obtain ⟨h4, h5⟩ := hL
   clear hK K
   refine awl_ret ?_
   refine retK [2, 3, 4, 5, 6] [2, 3, 4, 5, 6] rfl (by simp only [go_sem, simprocAttr, h4, h5]; exact rfl) (by decide) (by first | rfl | (simp only [go_sem, simprocAttr, h4, h5]; first | done | rfl)) (by first | rfl | (simp only [go_sem, simprocAttr, h4, h5]; first | done | rfl)) ?_ ?_
   all_goals try simp only [go_sem, simprocAttr, h4, h5]
   all_goals (rw [pull_idle c1 (c2.elim (fun h => h.elim Or.inl (fun h => Or.inr (Or.inl (by omega)))) (fun h => Or.inr (Or.inr h)))] <;> rfl)
  ·
   try simp only [cnd] at c2
   refine awl_skip ?_
   refine awl_seq ?_
   refine awl_regS _ rfl fun K hK => ?_
   try simp only [go_sem, simprocAttr, h0, h3, h4, h6, h29]
   repeat' (refine And.intro (by first | rfl | omega | (simp; done)) ?_)
   refine opS_call_ro rfl (sat_spec_Fetch l c.next hl) ?ha ?hv ?hh ?_
   case ha => simp only [go_sem, simprocAttr, h0, h3, h4, h6, h29]; first | done | rfl
   case hv => first | rfl | (simp only [go_sem]; done)
   case hh => first | rfl | (simp only [go_sem]; done)
   try simp only [go_sem, simprocAttr, h0, h3, h4, h6, h29]
   repeat' (refine And.intro (by first | rfl | omega | (simp; done)) ?_)
   refine hK _ _ (.mk (awl_live' [3, 4, 6, 7, 8] fun ρ hL => ?_))
   try simp only [go_sem, simprocAttr, h0, h3, h4, h6, h29] at hL
   try clear h0 h3 h4 h6 h29
   obtain ⟨h3, h4, h6, h7, h8⟩ := hL
   clear hK K
   refine awl_seq ?_
   refine awl_seq ?_
   refine awl_regS _ rfl fun K hK => ?_
   try simp only [go_sem, simprocAttr, h3, h4, h6, h7, h8]
   repeat' (refine And.intro (by first | rfl | omega | (simp; done)) ?_)
   refine hK _ _ (.mk (awl_live' [3, 4, 6, 7, 8, 39] fun ρ hL => ?_))
   try simp only [go_sem, simprocAttr, h3, h4, h6, h7, h8] at hL
   try clear h3 h4 h6 h7 h8
   obtain ⟨h3, h4, h6, h7, h8, h39⟩ := hL
   clear hK K
   refine awl_cond h39 (fun c3 => ?_) (fun c3 => ?_)
   ·
    try simp only [cnd] at c3
    refine awl_seq ?_
    refine awl_regD mixed _ rfl fun K hK => ?_
    try simp only [go_sem, simprocAttr, h3, h4, h6, h7, h8, h39]
    repeat' (refine And.intro (by first | omega | (exact ⟨[0, 1, 0, 4, 0, 0, 32, 112, 0, 256, 1020, 2044, 4095, 8191, 16383], by kernel_rfl⟩) | kernel_rfl) ?_)
    refine dS_call_ro rfl (sat_spec_l9Trap ?_ ?_) ?ha ?hv ?hh ?_
    case ha => simp only [go_sem, simprocAttr, h3, h4, h6, h7, h8, h39]; first | done | rfl
    case hv => first | rfl | (simp only [go_sem]; done)
    case hh => first | rfl | (simp only [go_sem]; done)
    try simp only [go_sem, simprocAttr, h3, h4, h6, h7, h8, h39]
    repeat' (refine And.intro (by first | omega | (exact ⟨[0, 1, 0, 4, 0, 0, 32, 112, 0, 256, 1020, 2044, 4095, 8191, 16383], by kernel_rfl⟩) | kernel_rfl) ?_)
    refine hK _ _ (.mk (awl_live' [4, 6] fun ρ hL => ?_))
    try simp only [go_sem, simprocAttr, h3, h4, h6, h7, h8, h39] at hL
    try clear h3 h4 h6 h7 h8 h39
    obtain ⟨h4, h6⟩ := hL
    clear hK K
    refine awl_seq ?_
    refine awl_regS _ rfl fun K hK => ?_
    try simp only [go_sem, simprocAttr, h4, h6]
    repeat' (refine And.intro (by first | rfl | omega | (simp; done)) ?_)
    refine hK _ _ (.mk (awl_live' [4, 6] fun ρ hL => ?_))
    try simp only [go_sem, simprocAttr, h4, h6] at hL
    try clear h4 h6
    obtain ⟨h4, h6⟩ := hL
    clear hK K
    refine awl_seq ?_
    refine awl_regS _ rfl fun K hK => ?_
    try simp only [go_sem, simprocAttr, h4, h6]
    repeat' (refine And.intro (by first | rfl | omega | (simp; done)) ?_)
    refine hK _ _ (.mk (awl_live' [4, 5] fun ρ hL => ?_))
    try simp only [go_sem, simprocAttr, h4, h6] at hL
    try clear h4 h6
    obtain ⟨h4, h5⟩ := hL
    clear hK K
    refine awl_ret ?_
    refine retK [2, 3, 4, 10, 6] [2, 3, 4, 10, 6] rfl (by simp only [go_sem, simprocAttr, h4, h5]; exact rfl) (by decide) (by first | rfl | (simp only [go_sem, simprocAttr, h4, h5]; first | done | rfl)) (by first | rfl | (simp only [go_sem, simprocAttr, h4, h5]; first | done | rfl)) ?_ ?_
    all_goals try simp only [go_sem, simprocAttr, h4, h5]
    all_goals (rw [pull_trap c1 (fun h => h.elim (fun h => by rw [c2.1.1] at h; cases h) (fun h => h.elim (fun h => by omega) (fun h => h c2.2))) c3] <;> (try simp only [withRob, rows_append, rows_one, List.length_append, List.length_cons, List.length_nil]) <;> first | done | rfl)
   ·
    try simp only [cnd] at c3
    refine awl_skip ?_
    refine awl_seq ?_
    refine awl_regS _ rfl fun K hK => ?_
    try simp only [go_sem, simprocAttr, h3, h4, h6, h7, h8, h39]
    repeat' (refine And.intro (by first | rfl | omega | (simp; done)) ?_)
    refine opS_call_ro rfl (sat_spec_Guess c.guesses c.next (Nat.le_trans hf.2.2 (by decide))) ?ha ?hv ?hh ?_
    case ha => simp only [go_sem, simprocAttr, h3, h4, h6, h7, h8, h39]; first | done | rfl
    case hv => first | rfl | (simp only [go_sem]; done)
    case hh => first | rfl | (simp only [go_sem]; done)
    try simp only [go_sem, simprocAttr, h3, h4, h6, h7, h8, h39]
    repeat' (refine And.intro (by first | rfl | omega | (simp; done)) ?_)
    refine hK _ _ (.mk (awl_live' [3, 4, 6, 7, 9] fun ρ hL => ?_))
    try simp only [go_sem, simprocAttr, h3, h4, h6, h7, h8, h39] at hL
    try clear h3 h4 h6 h7 h8 h39
    obtain ⟨h3, h4, h6, h7, h9⟩ := hL
    clear hK K
    refine awl_seq ?_
    refine awl_regS _ rfl fun K hK => ?_
    try simp only [go_sem, simprocAttr, h3, h4, h6, h7, h9]
    repeat' (refine And.intro (by first | rfl | omega | (simp; done)) ?_)
    refine hK _ _ (.mk (awl_live' [4, 6, 9] fun ρ hL => ?_))
    try simp only [go_sem, simprocAttr, h3, h4, h6, h7, h9] at hL
    try clear h3 h4 h6 h7 h9
    obtain ⟨h4, h6, h9⟩ := hL
    clear hK K
    refine awl_seq ?_
    refine awl_regS _ rfl fun K hK => ?_
    try simp only [go_sem, simprocAttr, h4, h6, h9]
    repeat' (refine And.intro (by first | rfl | omega | (simp; done)) ?_)
    refine hK _ _ (.mk (awl_live' [4, 6] fun ρ hL => ?_))
    try simp only [go_sem, simprocAttr, h4, h6, h9] at hL
    try clear h4 h6 h9
    obtain ⟨h4, h6⟩ := hL
    clear hK K
    refine awl_seq ?_
    refine awl_regS _ rfl fun K hK => ?_
    try simp only [go_sem, simprocAttr, h4, h6]
    repeat' (refine And.intro (by first | rfl | omega | (simp; done)) ?_)
    refine hK _ _ (.mk (awl_live' [4, 5] fun ρ hL => ?_))
    try simp only [go_sem, simprocAttr, h4, h6] at hL
    try clear h4 h6
    obtain ⟨h4, h5⟩ := hL
    clear hK K
    refine awl_ret ?_
    refine retK [2, 3, 4, 11, 6] [2, 3, 4, 11, 6] rfl (by simp only [go_sem, simprocAttr, h4, h5]; exact rfl) (by decide) (by first | rfl | (simp only [go_sem, simprocAttr, h4, h5]; first | done | rfl)) (by first | rfl | (simp only [go_sem, simprocAttr, h4, h5]; first | done | rfl)) ?_ ?_
    all_goals try simp only [go_sem, simprocAttr, h4, h5]
    all_goals (rw [pull_go c1 (fun h => h.elim (fun h => by rw [c2.1.1] at h; cases h) (fun h => h.elim (fun h => by omega) (fun h => h c2.2))) c3] <;> (try simp only [withRob, rows_append, rows_one, List.length_append, List.length_cons, List.length_nil]) <;> first | done | rfl)
set_option maxHeartbeats 8000000 in
set_option maxRecDepth 100000 in
theorem sat_impl_Pull (l : List Ins) (c : Cor) (hl : l.length ≤ 1048576) (hf : c.fit) : Sat Tryz.prog 10 [.sl l.length l.length (rows l), .agg c.cells] [] (.tuple [.agg ((pull l c).1.own 0 1 2 3 4), .bool (pull l c).2]) (pull l c).1.blks := by
 refine sat_mk [.cell 4 49, .tmp 5] 0 73 Tryz.call10 Tryz.func10 Tryz.ntmps10 rfl rfl rfl rfl rfl ?_
 refine awl_live' [0, 1] fun ρ hL => ?_
 try simp only [go_sem, simprocAttr] at hL
 obtain ⟨h0, h1⟩ := hL
 refine awl_seq ?_
 refine awl_regS _ rfl fun K hK => ?_
 try simp only [go_sem, simprocAttr, h0, h1]
 repeat' (refine And.intro (by first | rfl | omega | (simp; done)) ?_)
 refine hK _ _ (.mk (awl_live' [0, 3, 4] fun ρ hL => ?_))
 try simp only [go_sem, simprocAttr, h0, h1] at hL
 try clear h0 h1
 obtain ⟨h0, h3, h4⟩ := hL
 clear hK K
 refine awl_seq ?_
 refine awl_seq ?_
 refine awl_regS _ rfl fun K hK => ?_
 try simp only [go_sem, simprocAttr, h0, h3, h4]
 repeat' (refine And.intro (by first | rfl | omega | (simp; done)) ?_)
 refine opS_call_ro rfl (sat_impl_CoreOk c hf) ?ha ?hv ?hh ?_
 case ha => simp only [go_sem, simprocAttr, h0, h3, h4]; first | done | rfl
 case hv => first | rfl | (simp only [go_sem]; done)
 case hh => first | rfl | (simp only [go_sem]; done)
 try simp only [go_sem, simprocAttr, h0, h3, h4]
 repeat' (refine And.intro (by first | rfl | omega | (simp; done)) ?_)
 refine hK _ _ (.mk (awl_live' [0, 3, 4, 11] fun ρ hL => ?_))
 try simp only [go_sem, simprocAttr, h0, h3, h4] at hL
 try clear h0 h3 h4
 obtain ⟨h0, h3, h4, h11⟩ := hL
 clear hK K
 refine awl_cond h11 (fun c1 => ?_) (fun c1 => ?_)
 ·
  try simp only [cnd] at c1
  refine awl_seq ?_
  refine awl_regS _ rfl fun K hK => ?_
  try simp only [go_sem, simprocAttr, h0, h3, h4, h11]
  repeat' (refine And.intro (by first | rfl | omega | (simp; done)) ?_)
  refine hK _ _ (.mk (awl_live' [4, 5] fun ρ hL => ?_))
  try simp only [go_sem, simprocAttr, h0, h3, h4, h11] at hL
  try clear h0 h3 h4 h11
  obtain ⟨h4, h5⟩ := hL
  clear hK K
  refine awl_ret ?_
  refine retN (v := .tuple [.agg [.nilsl, .int .i64 0, .bool false, .int .i64 0, .int .i64 0, .int .i64 0, .int .i64 0, .nilsl, .nilsl, .int .i64 0, .nilsl, .int .i64 0, .bool false, .int .i64 0, .int .i64 0, .int .i64 0, .int .i64 0, .bool false, .nilsl], .bool false]) [6, 6, 1, 40, 1] [2, 3, 4, 5, 6] [2, 3, 4, 5, 6] rfl (by simp only [go_sem, simprocAttr, h4, h5]; exact rfl) (by first | rfl | (simp only [go_sem, simprocAttr, h4, h5]; first | done | rfl)) (Ref.tuple (RefL.cons (Ref.agg (RefL.cons (Ref.nil 2 ⟨Nat.le_of_ble_eq_true rfl, Nat.le_of_ble_eq_true rfl⟩) (RefL.cons (Ref.refl _) (RefL.cons (Ref.refl _) (RefL.cons (Ref.refl _) (RefL.cons (Ref.refl _) (RefL.cons (Ref.refl _) (RefL.cons (Ref.refl _) (RefL.cons (Ref.nil 3 ⟨Nat.le_of_ble_eq_true rfl, Nat.le_of_ble_eq_true rfl⟩) (RefL.cons (Ref.nil 4 ⟨Nat.le_of_ble_eq_true rfl, Nat.le_of_ble_eq_true rfl⟩) (RefL.cons (Ref.refl _) (RefL.cons (Ref.nil 5 ⟨Nat.le_of_ble_eq_true rfl, Nat.le_of_ble_eq_true rfl⟩) (RefL.cons (Ref.refl _) (RefL.cons (Ref.refl _) (RefL.cons (Ref.refl _) (RefL.cons (Ref.refl _) (RefL.cons (Ref.refl _) (RefL.cons (Ref.refl _) (RefL.cons (Ref.refl _) (RefL.cons (Ref.nil 6 ⟨Nat.le_of_ble_eq_true rfl, Nat.le_of_ble_eq_true rfl⟩) (RefL.same []))))))))))))))))))))) (RefL.same _))) rfl (by decide) rfl rfl ?_ ?_
  all_goals try simp only [go_sem, simprocAttr, h4, h5]
  all_goals (rw [pull_no c1] <;> rfl)
 ·
  try simp only [cnd] at c1
  refine awl_skip ?_
  refine awl_seq ?_
  refine awl_regS _ rfl fun K hK => ?_
  try simp only [go_sem, simprocAttr, h0, h3, h4, h11]
  repeat' (refine And.intro (by first | rfl | omega | (simp; done)) ?_)
  refine opS_call_ro rfl (sat_impl_cloneCore c hf) ?ha ?hv ?hh ?_
  case ha => simp only [go_sem, simprocAttr, h0, h3, h4, h11]; first | done | rfl
  case hv => first | rfl | (simp only [go_sem]; done)
  case hh => first | rfl | (simp only [go_sem]; done)
  try simp only [go_sem, simprocAttr, h0, h3, h4, h11]
  repeat' (refine And.intro (by first | rfl | omega | (simp; done)) ?_)
  refine hK _ _ (.mk (awl_live' [0, 3, 4, 6] fun ρ hL => ?_))
  try simp only [go_sem, simprocAttr, h0, h3, h4, h11] at hL
  try clear h0 h3 h4 h11
  obtain ⟨h0, h3, h4, h6⟩ := hL
  clear hK K
  refine awl_seq ?_
  refine awl_seq ?_
  have hr6 := (corOk_parts c1).2.2.1
  refine awl_regS _ rfl fun K hK => ?_
  try simp only [go_sem, simprocAttr, h0, h3, h4, h6]
  repeat' (refine And.intro (by first | rfl | omega | (simp; done)) ?_)
  refine awpS_live [0, 3, 4, 6, 17] fun ρ hL => ?_
  try simp only [go_sem, simprocAttr, h0, h3, h4, h6] at hL
  try clear h0 h3 h4 h6
  obtain ⟨h0, h3, h4, h6, h17⟩ := hL
  refine grp_orN (tc := 17) (tv := 21) (td := 22) (v := ?v1) 4 rfl [0, 3, 4, 6] h17 rfl (fun hb K1 hK1 => ?run) (fun hb => ?skip) (fun ρ hP hL => ?_)
  case skip =>
   exact awpS_skip (want := false) (b := _) (by rw [hb]; rfl) _ [] ρ h17 (fun _ _ => rfl) (by simp) rfl
  case run =>
   simp only [List.take_succ_cons, List.take_zero]
   rw [hb] at h17
   try simp only [go_sem, simprocAttr, h0, h3, h4, h6, h17]
   repeat' (refine And.intro (by first | rfl | omega | (simp; done)) ?_)
   exact hK1 _ (by simp only [go_sem, simprocAttr, h0, h3, h4, h6, h17]) (by simp only [go_sem, simprocAttr, h0, h3, h4, h6, h17]; exact rfl) (by simp only [go_sem, simprocAttr, h0, h3, h4, h6, h17])
  simp only [List.drop_succ_cons, List.drop_zero]
  try simp only [go_sem, simprocAttr, h0, h3, h4, h6, h17] at hL
  try clear h0 h3 h4 h6 h17
  obtain ⟨h0, h3, h4, h6⟩ := hL
  have h22 := hP
  clear hP
  try simp only [go_sem, simprocAttr, h0, h3, h4, h6, h22]
  repeat' (refine And.intro (by first | rfl | omega | (simp; done)) ?_)
  refine awpS_live [0, 3, 4, 6, 23] fun ρ hL => ?_
  try simp only [go_sem, simprocAttr, h0, h3, h4, h6, h22] at hL
  try clear h0 h3 h4 h6 h22
  obtain ⟨h0, h3, h4, h6, h23⟩ := hL
  refine grp_orN (tc := 23) (tv := 27) (td := 28) (v := ?v2) 4 rfl [0, 3, 4, 6] h23 rfl (fun hb K1 hK1 => ?run) (fun hb => ?skip) (fun ρ hP hL => ?_)
  case skip =>
   exact awpS_skip (want := false) (b := _) (by rw [hb]; rfl) _ [] ρ h23 (fun _ _ => rfl) (by simp) rfl
  case run =>
   simp only [List.take_succ_cons, List.take_zero]
   rw [hb] at h23
   try simp only [go_sem, simprocAttr, h0, h3, h4, h6, h23]
   repeat' (refine And.intro (by first | rfl | omega | (simp; done)) ?_)
   exact hK1 _ (by simp only [go_sem, simprocAttr, h0, h3, h4, h6, h23]) (by simp only [go_sem, simprocAttr, h0, h3, h4, h6, h23]; exact rfl) (by simp only [go_sem, simprocAttr, h0, h3, h4, h6, h23])
  simp only [List.drop_succ_cons, List.drop_zero]
  try simp only [go_sem, simprocAttr, h0, h3, h4, h6, h23] at hL
  try clear h0 h3 h4 h6 h23
  obtain ⟨h0, h3, h4, h6⟩ := hL
  have h28 := hP
  clear hP
  try simp only [go_sem, simprocAttr, h0, h3, h4, h6, h28]
  repeat' (refine And.intro (by first | rfl | omega | (simp; done)) ?_)
  refine hK _ _ (.mk (awl_live' [0, 3, 4, 6, 28] fun ρ hL => ?_))
  try simp only [go_sem, simprocAttr, h0, h3, h4, h6, h28] at hL
  try clear h0 h3 h4 h6 h28
  obtain ⟨h0, h3, h4, h6, h28⟩ := hL
  clear hK K
  refine awl_cond h28 (fun c2 => ?_) (fun c2 => ?_)
  ·
   try simp only [cnd] at c2
   refine awl_seq ?_
   refine awl_regS _ rfl fun K hK => ?_
   try simp only [go_sem, simprocAttr, h0, h3, h4, h6, h28]
   repeat' (refine And.intro (by first | rfl | omega | (simp; done)) ?_)
   refine hK _ _ (.mk (awl_live' [4, 5] fun ρ hL => ?_))
   try simp only [go_sem, simprocAttr, h0, h3, h4, h6, h28] at hL
   try clear h0 h3 h4 h6 h28
   obtain ⟨h4, h5⟩ := hL
   clear hK K
   refine awl_ret ?_
   refine retK [2, 3, 4, 5, 6] [2, 3, 4, 5, 6] rfl (by simp only [go_sem, simprocAttr, h4, h5]; exact rfl) (by decide) (by first | rfl | (simp only [go_sem, simprocAttr, h4, h5]; first | done | rfl)) (by first | rfl | (simp only [go_sem, simprocAttr, h4, h5]; first | done | rfl)) ?_ ?_
   all_goals try simp only [go_sem, simprocAttr, h4, h5]
   all_goals (rw [pull_idle c1 (c2.elim (fun h => h.elim Or.inl (fun h => Or.inr (Or.inl (by omega)))) (fun h => Or.inr (Or.inr h)))] <;> rfl)
  ·
   try simp only [cnd] at c2
   refine awl_skip ?_
   refine awl_seq ?_
   refine awl_regS _ rfl fun K hK => ?_
   try simp only [go_sem, simprocAttr, h0, h3, h4, h6, h28]
   repeat' (refine And.intro (by first | rfl | omega | (simp; done)) ?_)
   refine opS_call_ro rfl (sat_impl_Fetch l c.next hl) ?ha ?hv ?hh ?_
   case ha => simp only [go_sem, simprocAttr, h0, h3, h4, h6, h28]; first | done | rfl
   case hv => first | rfl | (simp only [go_sem]; done)
   case hh => first | rfl | (simp only [go_sem]; done)
   try simp only [go_sem, simprocAttr, h0, h3, h4, h6, h28]
   repeat' (refine And.intro (by first | rfl | omega | (simp; done)) ?_)
   refine hK _ _ (.mk (awl_live' [3, 4, 6, 7, 8] fun ρ hL => ?_))
   try simp only [go_sem, simprocAttr, h0, h3, h4, h6, h28] at hL
   try clear h0 h3 h4 h6 h28
   obtain ⟨h3, h4, h6, h7, h8⟩ := hL
   clear hK K
   refine awl_seq ?_
   refine awl_seq ?_
   refine awl_regS _ rfl fun K hK => ?_
   try simp only [go_sem, simprocAttr, h3, h4, h6, h7, h8]
   repeat' (refine And.intro (by first | rfl | omega | (simp; done)) ?_)
   refine hK _ _ (.mk (awl_live' [3, 4, 6, 7, 8, 38] fun ρ hL => ?_))
   try simp only [go_sem, simprocAttr, h3, h4, h6, h7, h8] at hL
   try clear h3 h4 h6 h7 h8
   obtain ⟨h3, h4, h6, h7, h8, h38⟩ := hL
   clear hK K
   refine awl_cond h38 (fun c3 => ?_) (fun c3 => ?_)
   ·
    try simp only [cnd] at c3
    refine awl_seq ?_
    refine awl_regD mixed _ rfl fun K hK => ?_
    try simp only [go_sem, simprocAttr, h3, h4, h6, h7, h8, h38]
    repeat' (refine And.intro (by first | omega | (exact ⟨[0, 1, 0, 4, 0, 0, 32, 112, 0, 256, 1020, 2044, 4095, 8191, 16383], by kernel_rfl⟩) | kernel_rfl) ?_)
    refine dS_call_ro rfl (sat_impl_trapped ?_ ?_) ?ha ?hv ?hh ?_
    case ha => simp only [go_sem, simprocAttr, h3, h4, h6, h7, h8, h38]; first | done | rfl
    case hv => first | rfl | (simp only [go_sem]; done)
    case hh => first | rfl | (simp only [go_sem]; done)
    try simp only [go_sem, simprocAttr, h3, h4, h6, h7, h8, h38]
    repeat' (refine And.intro (by first | omega | (exact ⟨[0, 1, 0, 4, 0, 0, 32, 112, 0, 256, 1020, 2044, 4095, 8191, 16383], by kernel_rfl⟩) | kernel_rfl) ?_)
    refine hK _ _ (.mk (awl_live' [4, 6] fun ρ hL => ?_))
    try simp only [go_sem, simprocAttr, h3, h4, h6, h7, h8, h38] at hL
    try clear h3 h4 h6 h7 h8 h38
    obtain ⟨h4, h6⟩ := hL
    clear hK K
    refine awl_seq ?_
    refine awl_regS _ rfl fun K hK => ?_
    try simp only [go_sem, simprocAttr, h4, h6]
    repeat' (refine And.intro (by first | rfl | omega | (simp; done)) ?_)
    refine hK _ _ (.mk (awl_live' [4, 6] fun ρ hL => ?_))
    try simp only [go_sem, simprocAttr, h4, h6] at hL
    try clear h4 h6
    obtain ⟨h4, h6⟩ := hL
    clear hK K
    refine awl_seq ?_
    refine awl_regS _ rfl fun K hK => ?_
    try simp only [go_sem, simprocAttr, h4, h6]
    repeat' (refine And.intro (by first | rfl | omega | (simp; done)) ?_)
    refine hK _ _ (.mk (awl_live' [4, 5] fun ρ hL => ?_))
    try simp only [go_sem, simprocAttr, h4, h6] at hL
    try clear h4 h6
    obtain ⟨h4, h5⟩ := hL
    clear hK K
    refine awl_ret ?_
    refine retK [2, 3, 4, 10, 6] [2, 3, 4, 10, 6] rfl (by simp only [go_sem, simprocAttr, h4, h5]; exact rfl) (by decide) (by first | rfl | (simp only [go_sem, simprocAttr, h4, h5]; first | done | rfl)) (by first | rfl | (simp only [go_sem, simprocAttr, h4, h5]; first | done | rfl)) ?_ ?_
    all_goals try simp only [go_sem, simprocAttr, h4, h5]
    all_goals (rw [pull_trap c1 (fun h => h.elim (fun h => by rw [c2.1.1] at h; cases h) (fun h => h.elim (fun h => by omega) (fun h => h c2.2))) c3] <;> (try simp only [withRob, rows_append, rows_one, List.length_append, List.length_cons, List.length_nil]) <;> first | done | rfl)
   ·
    try simp only [cnd] at c3
    refine awl_skip ?_
    refine awl_seq ?_
    refine awl_regS _ rfl fun K hK => ?_
    try simp only [go_sem, simprocAttr, h3, h4, h6, h7, h8, h38]
    repeat' (refine And.intro (by first | rfl | omega | (simp; done)) ?_)
    refine opS_call_ro rfl (sat_impl_Guess c.guesses c.next (Nat.le_trans hf.2.2 (by decide))) ?ha ?hv ?hh ?_
    case ha => simp only [go_sem, simprocAttr, h3, h4, h6, h7, h8, h38]; first | done | rfl
    case hv => first | rfl | (simp only [go_sem]; done)
    case hh => first | rfl | (simp only [go_sem]; done)
    try simp only [go_sem, simprocAttr, h3, h4, h6, h7, h8, h38]
    repeat' (refine And.intro (by first | rfl | omega | (simp; done)) ?_)
    refine hK _ _ (.mk (awl_live' [3, 4, 6, 7] fun ρ hL => ?_))
    try simp only [go_sem, simprocAttr, h3, h4, h6, h7, h8, h38] at hL
    try clear h3 h4 h6 h7 h8 h38
    obtain ⟨h3, h4, h6, h7⟩ := hL
    clear hK K
    refine awl_seq ?_
    refine awl_regS _ rfl fun K hK => ?_
    try simp only [go_sem, simprocAttr, h3, h4, h6, h7]
    repeat' (refine And.intro (by first | rfl | omega | (simp; done)) ?_)
    refine hK _ _ (.mk (awl_live' [4, 6] fun ρ hL => ?_))
    try simp only [go_sem, simprocAttr, h3, h4, h6, h7] at hL
    try clear h3 h4 h6 h7
    obtain ⟨h4, h6⟩ := hL
    clear hK K
    refine awl_seq ?_
    refine awl_regS _ rfl fun K hK => ?_
    try simp only [go_sem, simprocAttr, h4, h6]
    repeat' (refine And.intro (by first | rfl | omega | (simp; done)) ?_)
    refine hK _ _ (.mk (awl_live' [4, 5] fun ρ hL => ?_))
    try simp only [go_sem, simprocAttr, h4, h6] at hL
    try clear h4 h6
    obtain ⟨h4, h5⟩ := hL
    clear hK K
    refine awl_ret ?_
    refine retK [2, 3, 4, 10, 6] [2, 3, 4, 10, 6] rfl (by simp only [go_sem, simprocAttr, h4, h5]; exact rfl) (by decide) (by first | rfl | (simp only [go_sem, simprocAttr, h4, h5]; first | done | rfl)) (by first | rfl | (simp only [go_sem, simprocAttr, h4, h5]; first | done | rfl)) ?_ ?_
    all_goals try simp only [go_sem, simprocAttr, h4, h5]
    all_goals (rw [pull_go c1 (fun h => h.elim (fun h => by rw [c2.1.1] at h; cases h) (fun h => h.elim (fun h => by omega) (fun h => h c2.2))) c3] <;> (try simp only [withRob, rows_append, rows_one, List.length_append, List.length_cons, List.length_nil]) <;> first | done | rfl)
end Go.Proofs.YtopjagninmjkbaaGreat.AM
