/- Finding in rows; is a state in order. No conditions but those each theorem bears. -/
import Derived.Test.YtopjagninmjkbaaGreatFa
import Derived.Test.YtopjagninmjkbaaGreatM4
import Derived.Test.YtopjagninmjkbaaGreatCa5
import Derived.Test.YtopjagninmjkbaaGreatCa7
set_option linter.unusedSimpArgs false
set_option linter.unusedVariables false
namespace Go.Proofs.YtopjagninmjkbaaGreat.AM
open Go

set_option maxHeartbeats 8000000 in
set_option maxRecDepth 100000 in
theorem sat_slices_IndexFunc_impl_Word_impl_Word (xs : List Word) (g : FuncId) (cap : List AV) (p : Word → Bool) (hb : xs.length ≤ 1099511627776) (hc : ∀ (Hb : Heap) (inv : Nat → Option Nat) (n : Nat), cap.map (bor Hb inv (n + 3)) = cap) (hg : ∀ x : Word, Sat Tryz.prog g (.agg (Word.cells x) :: cap) [] (.bool (p x)) []) : Sat Tryz.prog 126 [.sl xs.length xs.length (rows xs), .func g [] cap] [] (.int .i64 (firstAt p xs 0)) [] := by
 refine sat_mk [.tmp 4] 0 19 Tryz.call126 Tryz.func126 Tryz.ntmps126 rfl rfl rfl rfl rfl ?_
 refine awl_live' [0, 1] fun ρ hL => ?_
 try simp only [go_sem, simprocAttr, hc] at hL
 obtain ⟨h0, h1⟩ := hL
 refine awl_seq ?_
 refine awl_regS _ rfl fun K hK => ?_
 try simp only [go_sem, simprocAttr, h0, h1, hc]
 repeat' (refine And.intro (by first | rfl | omega | (simp; done)) ?_)
 refine hK _ _ (.mk (awl_live' [0, 1] fun ρ hL => ?_))
 try simp only [go_sem, simprocAttr, h0, h1, hc] at hL
 try clear h0 h1
 obtain ⟨h0, h1⟩ := hL
 clear hK K
 refine awl_seq ?_
 refine awl_seq ?_
 refine awl_regS _ rfl fun K hK => ?_
 try simp only [go_sem, simprocAttr, h0, h1, hc]
 repeat' (refine And.intro (by first | rfl | omega | (simp; done)) ?_)
 refine hK _ _ (.mk (awl_live' [0, 1, 7, 8] fun ρ hL => ?_))
 try simp only [go_sem, simprocAttr, h0, h1, hc] at hL
 try clear h0 h1
 obtain ⟨h0, h1, h7, h8⟩ := hL
 clear hK K
 have e1_0 := h0
 have e1_1 := h1
 have e1_7 := h7
 refine awl_loopH (fun H0 n σ G => ∃ (i : Nat), n = xs.length - i ∧ (i ≤ xs.length) ∧ (firstAt p (xs.drop i) i = firstAt p xs 0) ∧ liveE [0, 1, 7] σ ρ ∧ σ 8 = .int .i64 (i : Int) ∧ G = H0) (fun H0 σ G => (firstAt p xs 0 = -1) ∧ liveE [] σ ρ ∧ G = H0) ((fun (i : Nat) => xs.length - i) 0) ?init1 (fun n ρ G hI => ?round1) (fun ρ G hJ => ?after1)
 case init1 => exact ⟨0, rfl, (Nat.zero_le _), (by simp), liveE_refl _ _, (h8), rfl⟩
 case round1 =>
  obtain ⟨i, hn, i1_0, i1_1, hL, k8, hG⟩ := hI
  subst hG
  try simp only [go_sem, simprocAttr, h0, h1, h7, h8, hc] at hL
  clear h0 h1 h7 h8
  obtain ⟨h0, h1, h7⟩ := hL
  have h8 := k8
  clear k8
  refine awl_seq ?_
  refine awl_regS _ rfl fun K hK => ?_
  try simp only [go_sem, simprocAttr, h0, h1, h7, h8, hc]
  repeat' (refine And.intro (by first | rfl | omega | (simp; done)) ?_)
  refine hK _ _ (.mk (awl_live' [0, 1, 7, 8, 9] fun ρ hL => ?_))
  try simp only [go_sem, simprocAttr, h0, h1, h7, h8, hc] at hL
  try clear h0 h1 h7 h8
  obtain ⟨h0, h1, h7, h8, h9⟩ := hL
  clear hK K
  refine awl_seq ?_
  refine awl_cond h9 (fun c1 => ?_) (fun c1 => ?_)
  ·
   try simp only [cnd] at c1
   have hi1 : i < xs.length := by omega
   refine awl_skip ?_
   refine awl_seq ?_
   refine awl_block fun R1 hw1 hR1 => ?_
   refine awl_seq ?_
   refine awl_regS _ rfl fun K hK => ?_
   try simp only [go_sem, simprocAttr, h0, h1, h7, h8, h9, hi1, hc]
   repeat' (refine And.intro (by first | rfl | omega | (simp; done)) ?_)
   refine hK _ _ (.mk (awl_live' [0, 1, 5, 7, 8] fun ρ hL => ?_))
   try simp only [go_sem, simprocAttr, h0, h1, h7, h8, h9, hi1, hc] at hL
   try clear h0 h1 h7 h8 h9
   obtain ⟨h0, h1, h5, h7, h8⟩ := hL
   clear hK K
   refine awl_seq ?_
   refine awl_regS _ rfl fun K hK => ?_
   try simp only [go_sem, simprocAttr, h0, h1, h5, h7, h8, hi1, hc]
   repeat' (refine And.intro (by first | rfl | omega | (simp; done)) ?_)
   refine opS_call_ro (by simp only [go_sem, simprocAttr, h0, h1, h5, h7, h8, hi1, hc]; exact rfl) (hg (xs.getD i noWord)) ?ha ?hv ?hh ?_
   case ha => simp only [go_sem, simprocAttr, h0, h1, h5, h7, h8, hi1, hc]; first | done | rfl
   case hv => first | rfl | (simp only [go_sem]; done)
   case hh => first | rfl | (simp only [go_sem]; done)
   try simp only [go_sem, simprocAttr, h0, h1, h5, h7, h8, hi1, hc]
   repeat' (refine And.intro (by first | rfl | omega | (simp; done)) ?_)
   refine hK _ _ (.mk (awl_live' [0, 1, 5, 7, 8, 16] fun ρ hL => ?_))
   try simp only [go_sem, simprocAttr, h0, h1, h5, h7, h8, hi1, hc] at hL
   try clear h0 h1 h5 h7 h8
   obtain ⟨h0, h1, h5, h7, h8, h16⟩ := hL
   clear hK K
   refine awl_cond h16 (fun c2 => ?_) (fun c2 => ?_)
   ·
    try simp only [cnd] at c2
    refine awl_seq ?_
    refine awl_regS _ rfl fun K hK => ?_
    try simp only [go_sem, simprocAttr, h0, h1, h5, h7, h8, h16, hi1, hc]
    repeat' (refine And.intro (by first | rfl | omega | (simp; done)) ?_)
    refine hK _ _ (.mk (awl_live' [4] fun ρ hL => ?_))
    try simp only [go_sem, simprocAttr, h0, h1, h5, h7, h8, h16, hi1, hc] at hL
    try clear h0 h1 h5 h7 h8 h16
    have h4 := hL
    clear hL
    clear hK K
    refine awl_ret ?_
    refine blk_ret ?_
    refine loop_ret ?_
    refine ret0 (by simp only [go_sem, simprocAttr, h4, hi1, hc]; exact rfl) ?_
    try simp only [go_sem, simprocAttr]
    all_goals try clear hR1
    all_goals (have := firstAt_drop (p := p) (d := noWord) xs i 0 hi1; rw [← i1_1]; simp only [Nat.zero_add] at this; rw [this, if_pos (by simpa using c2)])
   ·
    try simp only [cnd] at c2
    refine awl_skip ?_
    refine awl_nil ?_
    refine blk_normal (hR1 _ _ (.mk ?_))
    have w1 : IntKind.i64.wrap ((i : Int) + 1) = ((i + 1 : Nat) : Int) := by rw [wrap64 (by omega)]; omega
    refine awl_regS _ rfl fun K hK => ?_
    try simp only [go_sem, simprocAttr, h0, h1, h5, h7, h8, h16, hi1, w1, hc]
    repeat' (refine And.intro (by first | rfl | omega | (simp; done)) ?_)
    refine hK _ _ (.mk (awl_live' [0, 1, 7, 8] fun ρ hL => ?_))
    try simp only [go_sem, simprocAttr, h0, h1, h5, h7, h8, h16, hi1, w1, hc] at hL
    try clear h0 h1 h5 h7 h8 h16
    obtain ⟨h0, h1, h7, h8⟩ := hL
    clear hK K
    refine awl_nil ?_
    refine loop_again _ ?meas ⟨i + 1, rfl, (by omega), (by have := firstAt_drop (p := p) (d := noWord) xs i 0 hi1; rw [← i1_1]; simp only [Nat.zero_add] at this; rw [this, if_neg (by simpa using c2)]), (by simp only [go_sem, simprocAttr, h0, h1, h7, h8, hi1, hc, e1_0, e1_1, e1_7]), (h8), rfl⟩
    case meas => subst hn; omega
  ·
   try simp only [cnd] at c1
   refine awl_exit ?_
   refine loop_break ?_
   exact ⟨(by rw [← i1_1, List.drop_of_length_le (by omega)]; rfl), (by simp only [go_sem, simprocAttr, h0, h1, h7, h8, h9, hc, e1_0, e1_1, e1_7]), rfl⟩
 case after1 =>
  obtain ⟨j1_0, hL, hG⟩ := hJ
  subst hG
  clear h0 h1 h7 h8
  clear hL
  refine awl_seq ?_
  refine awl_regS _ rfl fun K hK => ?_
  try simp only [go_sem, simprocAttr, hc]
  repeat' (refine And.intro (by first | rfl | omega | (simp; done)) ?_)
  refine hK _ _ (.mk (awl_live' [4] fun ρ hL => ?_))
  try simp only [go_sem, simprocAttr, hc] at hL
  have h4 := hL
  clear hL
  clear hK K
  refine awl_ret ?_
  refine ret0 (by simp only [go_sem, simprocAttr, h4, hc]; exact rfl) ?_
  try simp only [go_sem, simprocAttr]
  all_goals try clear hR1
  all_goals (rw [j1_0])
set_option maxHeartbeats 8000000 in
set_option maxRecDepth 100000 in
theorem sat_slices_ContainsFunc_impl_Word_impl_Word (xs : List Word) (g : FuncId) (cap : List AV) (p : Word → Bool) (hb : xs.length ≤ 1099511627776) (hc : ∀ (Hb : Heap) (inv : Nat → Option Nat) (n : Nat), cap.map (bor Hb inv (n + 3)) = cap) (hg : ∀ x : Word, Sat Tryz.prog g (.agg (Word.cells x) :: cap) [] (.bool (p x)) []) : Sat Tryz.prog 117 [.sl xs.length xs.length (rows xs), .func g [] cap] [] (.bool (xs.any p)) [] := by
 refine sat_mk [.tmp 4] 0 9 Tryz.call117 Tryz.func117 Tryz.ntmps117 rfl rfl rfl rfl rfl ?_
 refine awl_live' [0, 1] fun ρ hL => ?_
 try simp only [go_sem, simprocAttr, hc] at hL
 obtain ⟨h0, h1⟩ := hL
 refine awl_seq ?_
 refine awl_regS _ rfl fun K hK => ?_
 try simp only [go_sem, simprocAttr, h0, h1, hc]
 repeat' (refine And.intro (by first | rfl | omega | (simp; done)) ?_)
 refine hK _ _ (.mk (awl_live' [0, 1] fun ρ hL => ?_))
 try simp only [go_sem, simprocAttr, h0, h1, hc] at hL
 try clear h0 h1
 obtain ⟨h0, h1⟩ := hL
 clear hK K
 refine awl_seq ?_
 refine awl_regS _ rfl fun K hK => ?_
 try simp only [go_sem, simprocAttr, h0, h1, hc]
 repeat' (refine And.intro (by first | rfl | omega | (simp; done)) ?_)
 refine opS_call_ro rfl (sat_slices_IndexFunc_impl_Word_impl_Word xs g cap p ?hp0 ?hp1 ?hp2) ?ha ?hv ?hh ?_
 case ha => simp only [go_sem, simprocAttr, h0, h1, hc]; first | done | rfl
 case hp0 => first | assumption | omega | (simp; done)
 case hp1 => first | assumption | omega | (simp; done)
 case hp2 => first | assumption | omega | (simp; done)
 case hv => first | rfl | (simp only [go_sem]; done)
 case hh => first | rfl | (simp only [go_sem]; done)
 try simp only [go_sem, simprocAttr, h0, h1, hc]
 repeat' (refine And.intro (by first | rfl | omega | (simp; done)) ?_)
 refine hK _ _ (.mk (awl_live' [4] fun ρ hL => ?_))
 try simp only [go_sem, simprocAttr, h0, h1, hc] at hL
 try clear h0 h1
 have h4 := hL
 clear hL
 clear hK K
 refine awl_ret ?_
 refine ret0 (by simp only [go_sem, simprocAttr, h4, hc]; exact rfl) ?_
 try simp only [go_sem, simprocAttr]
 all_goals (have := firstAt_neg (p := p) xs 0; cases h : xs.any p <;> simp_all)
set_option maxHeartbeats 8000000 in
set_option maxRecDepth 100000 in
theorem sat_impl_wordsOk_1 (w : Word)  : Sat Tryz.prog 118 [.agg w.cells] [] (.bool (!wordOk w)) [] := by
 refine sat_mk [.tmp 2] 0 6 Tryz.call118 Tryz.func118 Tryz.ntmps118 rfl rfl rfl rfl rfl ?_
 refine awl_live' [0] fun ρ hL => ?_
 try simp only [go_sem, simprocAttr] at hL
 have h0 := hL
 clear hL
 refine awl_seq ?_
 refine awl_regS _ rfl fun K hK => ?_
 try simp only [go_sem, simprocAttr, h0]
 repeat' (refine And.intro (by first | rfl | omega | (simp; done)) ?_)
 refine hK _ _ (.mk (awl_live' [1] fun ρ hL => ?_))
 try simp only [go_sem, simprocAttr, h0] at hL
 try clear h0
 have h1 := hL
 clear hL
 clear hK K
 refine awl_seq ?_
 refine awl_regS _ rfl fun K hK => ?_
 try simp only [go_sem, simprocAttr, h1]
 repeat' (refine And.intro (by first | rfl | omega | (simp; done)) ?_)
 refine opS_call_ro rfl (sat_impl_WordOk ?_) ?ha ?hv ?hh ?_
 case ha => simp only [go_sem, simprocAttr, h1]; first | done | rfl
 case hv => first | rfl | (simp only [go_sem]; done)
 case hh => first | rfl | (simp only [go_sem]; done)
 try simp only [go_sem, simprocAttr, h1]
 repeat' (refine And.intro (by first | rfl | omega | (simp; done)) ?_)
 refine hK _ _ (.mk (awl_live' [2] fun ρ hL => ?_))
 try simp only [go_sem, simprocAttr, h1] at hL
 try clear h1
 have h2 := hL
 clear hL
 clear hK K
 refine awl_ret ?_
 refine ret0 (by simp only [go_sem, simprocAttr, h2]; exact rfl) ?_
 try simp only [go_sem, simprocAttr]
 all_goals (first | done | rfl | (simp; done) | (simp [inR]; done) | (simp_all [inR]; done) | (simp [inR]; grind))
set_option maxHeartbeats 8000000 in
set_option maxRecDepth 100000 in
theorem sat_impl_MemoryOk_1 (w : Word)  : Sat Tryz.prog 119 [.agg w.cells] [] (.bool (!wordOk w)) [] := by
 refine sat_mk [.tmp 2] 0 6 Tryz.call119 Tryz.func119 Tryz.ntmps119 rfl rfl rfl rfl rfl ?_
 refine awl_live' [0] fun ρ hL => ?_
 try simp only [go_sem, simprocAttr] at hL
 have h0 := hL
 clear hL
 refine awl_seq ?_
 refine awl_regS _ rfl fun K hK => ?_
 try simp only [go_sem, simprocAttr, h0]
 repeat' (refine And.intro (by first | rfl | omega | (simp; done)) ?_)
 refine hK _ _ (.mk (awl_live' [1] fun ρ hL => ?_))
 try simp only [go_sem, simprocAttr, h0] at hL
 try clear h0
 have h1 := hL
 clear hL
 clear hK K
 refine awl_seq ?_
 refine awl_regS _ rfl fun K hK => ?_
 try simp only [go_sem, simprocAttr, h1]
 repeat' (refine And.intro (by first | rfl | omega | (simp; done)) ?_)
 refine opS_call_ro rfl (sat_impl_WordOk ?_) ?ha ?hv ?hh ?_
 case ha => simp only [go_sem, simprocAttr, h1]; first | done | rfl
 case hv => first | rfl | (simp only [go_sem]; done)
 case hh => first | rfl | (simp only [go_sem]; done)
 try simp only [go_sem, simprocAttr, h1]
 repeat' (refine And.intro (by first | rfl | omega | (simp; done)) ?_)
 refine hK _ _ (.mk (awl_live' [2] fun ρ hL => ?_))
 try simp only [go_sem, simprocAttr, h1] at hL
 try clear h1
 have h2 := hL
 clear hL
 clear hK K
 refine awl_ret ?_
 refine ret0 (by simp only [go_sem, simprocAttr, h2]; exact rfl) ?_
 try simp only [go_sem, simprocAttr]
 all_goals (first | done | rfl | (simp; done) | (simp [inR]; done) | (simp_all [inR]; done) | (simp [inR]; grind))
set_option maxHeartbeats 8000000 in
set_option maxRecDepth 100000 in
theorem sat_impl_wordsOk (xs : List Word) (hb : xs.length ≤ 1099511627776) : Sat Tryz.prog 99 [.sl xs.length xs.length (rows xs)] [] (.bool (xs.all wordOk)) [] := by
 refine sat_mk [.tmp 2] 0 6 Tryz.call99 Tryz.func99 Tryz.ntmps99 rfl rfl rfl rfl rfl ?_
 refine awl_live' [0] fun ρ hL => ?_
 try simp only [go_sem, simprocAttr] at hL
 have h0 := hL
 clear hL
 refine awl_seq ?_
 refine awl_regS _ rfl fun K hK => ?_
 try simp only [go_sem, simprocAttr, h0]
 repeat' (refine And.intro (by first | rfl | omega | (simp; done)) ?_)
 refine hK _ _ (.mk (awl_live' [0] fun ρ hL => ?_))
 try simp only [go_sem, simprocAttr, h0] at hL
 try clear h0
 have h0 := hL
 clear hL
 clear hK K
 refine awl_seq ?_
 refine awl_regS _ rfl fun K hK => ?_
 try simp only [go_sem, simprocAttr, h0]
 repeat' (refine And.intro (by first | rfl | omega | (simp; done)) ?_)
 refine opS_call_ro rfl (sat_slices_ContainsFunc_impl_Word_impl_Word xs _ [] (fun x => !wordOk x) hb (fun _ _ _ => rfl) (fun x => sat_impl_wordsOk_1 x)) ?ha ?hv ?hh ?_
 case ha => simp only [go_sem, simprocAttr, h0]; first | done | rfl
 case hv => first | rfl | (simp only [go_sem]; done)
 case hh => first | rfl | (simp only [go_sem]; done)
 try simp only [go_sem, simprocAttr, h0]
 repeat' (refine And.intro (by first | rfl | omega | (simp; done)) ?_)
 refine hK _ _ (.mk (awl_live' [2] fun ρ hL => ?_))
 try simp only [go_sem, simprocAttr, h0] at hL
 try clear h0
 have h2 := hL
 clear hL
 clear hK K
 refine awl_ret ?_
 refine ret0 (by simp only [go_sem, simprocAttr, h2]; exact rfl) ?_
 try simp only [go_sem, simprocAttr]
 all_goals (rw [List.all_eq_not_any_not])
set_option maxHeartbeats 8000000 in
set_option maxRecDepth 100000 in
theorem sat_impl_MemoryOk (m : Mem) (hf : m.fit) : Sat Tryz.prog 100 [.agg m.cells] [] (.bool (memOk m)) [] := by
 refine sat_mk [.tmp 2] 0 19 Tryz.call100 Tryz.func100 Tryz.ntmps100 rfl rfl rfl rfl rfl ?_
 refine awl_live' [0] fun ρ hL => ?_
 try simp only [go_sem, simprocAttr] at hL
 have h0 := hL
 clear hL
 refine awl_seq ?_
 refine awl_regS _ rfl fun K hK => ?_
 try simp only [go_sem, simprocAttr, h0]
 repeat' (refine And.intro (by first | rfl | omega | (simp; done)) ?_)
 refine hK _ _ (.mk (awl_live' [1] fun ρ hL => ?_))
 try simp only [go_sem, simprocAttr, h0] at hL
 try clear h0
 have h1 := hL
 clear hL
 clear hK K
 refine awl_seq ?_
 refine awl_regS _ rfl fun K hK => ?_
 try simp only [go_sem, simprocAttr, h1]
 repeat' (refine And.intro (by first | rfl | omega | (simp; done)) ?_)
 refine awpS_live [1, 7] fun ρ hL => ?_
 try simp only [go_sem, simprocAttr, h1] at hL
 try clear h1
 obtain ⟨h1, h7⟩ := hL
 refine grp_andN (tc := 7) (tv := 11) (td := 12) (v := ?v1) 4 rfl [1] h7 rfl (fun hb K1 hK1 => ?run) (fun hb => ?skip) (fun ρ hP hL => ?_)
 case skip =>
  exact awpS_skip (want := true) (b := _) (by rw [hb]; rfl) _ [] ρ h7 (fun _ _ => rfl) (by simp) rfl
 case run =>
  simp only [List.take_succ_cons, List.take_zero]
  rw [hb] at h7
  try simp only [go_sem, simprocAttr, h1, h7]
  repeat' (refine And.intro (by first | rfl | omega | (simp; done)) ?_)
  exact hK1 _ (by simp only [go_sem, simprocAttr, h1, h7]) (by simp only [go_sem, simprocAttr, h1, h7]; exact rfl) (by simp only [go_sem, simprocAttr, h1, h7])
 simp only [List.drop_succ_cons, List.drop_zero]
 try simp only [go_sem, simprocAttr, h1, h7] at hL
 try clear h1 h7
 have h1 := hL
 clear hL
 have h12 := hP
 clear hP
 try simp only [go_sem, simprocAttr, h1, h12]
 repeat' (refine And.intro (by first | rfl | omega | (simp; done)) ?_)
 refine awpS_live [1, 13] fun ρ hL => ?_
 try simp only [go_sem, simprocAttr, h1, h12] at hL
 try clear h1 h12
 obtain ⟨h1, h13⟩ := hL
 refine grp_andN (tc := 13) (tv := 17) (td := 18) (v := ?v2) 4 rfl [] h13 rfl (fun hb K1 hK1 => ?run) (fun hb => ?skip) (fun ρ hP hL => ?_)
 case skip =>
  exact awpS_skip (want := true) (b := _) (by rw [hb]; rfl) _ [] ρ h13 (fun _ _ => rfl) (by simp) rfl
 case run =>
  simp only [List.take_succ_cons, List.take_zero]
  rw [hb] at h13
  try simp only [go_sem, simprocAttr, h1, h13]
  repeat' (refine And.intro (by first | rfl | omega | (simp; done)) ?_)
  refine opS_call_ro rfl (sat_slices_ContainsFunc_impl_Word_impl_Word m.words _ [] (fun x => !wordOk x) (Nat.le_trans hf.1 (by decide)) (fun _ _ _ => rfl) (fun x => sat_impl_MemoryOk_1 x)) ?ha ?hv ?hh ?_
  case ha => simp only [go_sem, simprocAttr, h1, h13]; first | done | rfl
  case hv => first | rfl | (simp only [go_sem]; done)
  case hh => first | rfl | (simp only [go_sem]; done)
  try simp only [go_sem, simprocAttr, h1, h13]
  repeat' (refine And.intro (by first | rfl | omega | (simp; done)) ?_)
  exact hK1 _ (by simp only [go_sem, simprocAttr, h1, h13]) (by simp only [go_sem, simprocAttr, h1, h13]; exact rfl) (by simp only [go_sem, simprocAttr, h1, h13])
 simp only [List.drop_succ_cons, List.drop_zero]
 clear hL h1 h13
 have h18 := hP
 clear hP
 try simp only [go_sem, simprocAttr, h18]
 repeat' (refine And.intro (by first | rfl | omega | (simp; done)) ?_)
 refine hK _ _ (.mk (awl_live' [2] fun ρ hL => ?_))
 try simp only [go_sem, simprocAttr, h18] at hL
 try clear h18
 have h2 := hL
 clear hL
 clear hK K
 refine awl_ret ?_
 refine ret0 (by simp only [go_sem, simprocAttr, h2]; exact rfl) ?_
 try simp only [go_sem, simprocAttr]
 all_goals (simp only [memOk, List.all_eq_not_any_not]; congr 3 <;> (rw [decide_eq_decide]; omega))
set_option maxHeartbeats 8000000 in
set_option maxRecDepth 100000 in
theorem sat_spec_MemoryOk (m : Mem)  : Sat Tryz.prog 91 [.agg m.cells] [] (.bool (memOk m)) [] := by
 refine sat_mk [.tmp 2] 0 25 Tryz.call91 Tryz.func91 Tryz.ntmps91 rfl rfl rfl rfl rfl ?_
 refine awl_live' [0] fun ρ hL => ?_
 try simp only [go_sem, simprocAttr] at hL
 have h0 := hL
 clear hL
 refine awl_seq ?_
 refine awl_regS _ rfl fun K hK => ?_
 try simp only [go_sem, simprocAttr, h0]
 repeat' (refine And.intro (by first | rfl | omega | (simp; done)) ?_)
 refine hK _ _ (.mk (awl_live' [1] fun ρ hL => ?_))
 try simp only [go_sem, simprocAttr, h0] at hL
 try clear h0
 have h1 := hL
 clear hL
 clear hK K
 refine awl_seq ?_
 refine awl_seq ?_
 refine awl_regS _ rfl fun K hK => ?_
 try simp only [go_sem, simprocAttr, h1]
 repeat' (refine And.intro (by first | rfl | omega | (simp; done)) ?_)
 refine awpS_live [1, 8] fun ρ hL => ?_
 try simp only [go_sem, simprocAttr, h1] at hL
 try clear h1
 obtain ⟨h1, h8⟩ := hL
 refine grp_orN (tc := 8) (tv := 12) (td := 13) (v := ?v1) 4 rfl [1] h8 rfl (fun hb K1 hK1 => ?run) (fun hb => ?skip) (fun ρ hP hL => ?_)
 case skip =>
  exact awpS_skip (want := false) (b := _) (by rw [hb]; rfl) _ [] ρ h8 (fun _ _ => rfl) (by simp) rfl
 case run =>
  simp only [List.take_succ_cons, List.take_zero]
  rw [hb] at h8
  try simp only [go_sem, simprocAttr, h1, h8]
  repeat' (refine And.intro (by first | rfl | omega | (simp; done)) ?_)
  exact hK1 _ (by simp only [go_sem, simprocAttr, h1, h8]) (by simp only [go_sem, simprocAttr, h1, h8]; exact rfl) (by simp only [go_sem, simprocAttr, h1, h8])
 simp only [List.drop_succ_cons, List.drop_zero]
 try simp only [go_sem, simprocAttr, h1, h8] at hL
 try clear h1 h8
 have h1 := hL
 clear hL
 have h13 := hP
 clear hP
 try simp only [go_sem, simprocAttr, h1, h13]
 repeat' (refine And.intro (by first | rfl | omega | (simp; done)) ?_)
 refine hK _ _ (.mk (awl_live' [1, 13] fun ρ hL => ?_))
 try simp only [go_sem, simprocAttr, h1, h13] at hL
 try clear h1 h13
 obtain ⟨h1, h13⟩ := hL
 clear hK K
 refine awl_cond h13 (fun c1 => ?_) (fun c1 => ?_)
 ·
  try simp only [cnd] at c1
  refine awl_seq ?_
  refine awl_regS _ rfl fun K hK => ?_
  try simp only [go_sem, simprocAttr, h1, h13]
  repeat' (refine And.intro (by first | rfl | omega | (simp; done)) ?_)
  refine hK _ _ (.mk (awl_live' [2] fun ρ hL => ?_))
  try simp only [go_sem, simprocAttr, h1, h13] at hL
  try clear h1 h13
  have h2 := hL
  clear hL
  clear hK K
  refine awl_ret ?_
  refine ret0 (by simp only [go_sem, simprocAttr, h2]; exact rfl) ?_
  try simp only [go_sem, simprocAttr]
  all_goals (rw [eq_comm, AV.bool.injEq]; simp only [memOk, Bool.and_eq_false_iff, decide_eq_false_iff_not]; omega)
 ·
  try simp only [cnd] at c1
  refine awl_skip ?_
  refine awl_seq ?_
  refine awl_seq ?_
  refine awl_regS _ rfl fun K hK => ?_
  try simp only [go_sem, simprocAttr, h1, h13]
  repeat' (refine And.intro (by first | rfl | omega | (simp; done)) ?_)
  refine hK _ _ (.mk (awl_live' [1, 3] fun ρ hL => ?_))
  try simp only [go_sem, simprocAttr, h1, h13] at hL
  try clear h1 h13
  obtain ⟨h1, h3⟩ := hL
  clear hK K
  have e1_1 := h1
  refine awl_loopH (fun H0 n σ G => ∃ (i : Nat), n = 24 - i ∧ (i ≤ 24) ∧ ((m.words.take i).all wordOk = true) ∧ liveE [1] σ ρ ∧ σ 3 = .int .i64 (i : Int) ∧ G = H0) (fun H0 σ G => (m.words.all wordOk = true) ∧ liveE [] σ ρ ∧ G = H0) ((fun (i : Nat) => 24 - i) 0) ?init1 (fun n ρ G hI => ?round1) (fun ρ G hJ => ?after1)
  case init1 => exact ⟨0, rfl, (Nat.zero_le _), (by simp), liveE_refl _ _, (h3), rfl⟩
  case round1 =>
   obtain ⟨i, hn, i1_0, i1_1, hL, k3, hG⟩ := hI
   subst hG
   try simp only [go_sem, simprocAttr, h1, h3] at hL
   clear h1 h3
   have h1 := hL
   clear hL
   have h3 := k3
   clear k3
   refine awl_seq ?_
   refine awl_seq ?_
   refine awl_regS _ rfl fun K hK => ?_
   try simp only [go_sem, simprocAttr, h1, h3]
   repeat' (refine And.intro (by first | rfl | omega | (simp; done)) ?_)
   refine hK _ _ (.mk (awl_live' [1, 3, 15] fun ρ hL => ?_))
   try simp only [go_sem, simprocAttr, h1, h3] at hL
   try clear h1 h3
   obtain ⟨h1, h3, h15⟩ := hL
   clear hK K
   refine awl_cond h15 (fun c2 => ?_) (fun c2 => ?_)
   ·
    try simp only [cnd] at c2
    have hi1 : i < 24 := by omega
    refine awl_skip ?_
    refine awl_seq ?_
    refine awl_block fun R1 hw1 hR1 => ?_
    refine awl_seq ?_
    have hw : i < m.words.length := by omega
    refine awl_regS _ rfl fun K hK => ?_
    try simp only [go_sem, simprocAttr, h1, h3, h15, hi1, hw]
    repeat' (refine And.intro (by first | rfl | omega | (simp; done)) ?_)
    refine opS_call_ro rfl (sat_spec_WordOk ?_) ?ha ?hv ?hh ?_
    case ha => simp only [go_sem, simprocAttr, h1, h3, h15, hi1, hw]; first | done | rfl
    case hv => first | rfl | (simp only [go_sem]; done)
    case hh => first | rfl | (simp only [go_sem]; done)
    try simp only [go_sem, simprocAttr, h1, h3, h15, hi1, hw]
    repeat' (refine And.intro (by first | rfl | omega | (simp; done)) ?_)
    refine hK _ _ (.mk (awl_live' [1, 3, 24] fun ρ hL => ?_))
    try simp only [go_sem, simprocAttr, h1, h3, h15, hi1, hw] at hL
    try clear h1 h3 h15
    obtain ⟨h1, h3, h24⟩ := hL
    clear hK K
    refine awl_cond h24 (fun c3 => ?_) (fun c3 => ?_)
    ·
     try simp only [cnd] at c3
     refine awl_seq ?_
     refine awl_regS _ rfl fun K hK => ?_
     try simp only [go_sem, simprocAttr, h1, h3, h24, hi1]
     repeat' (refine And.intro (by first | rfl | omega | (simp; done)) ?_)
     refine hK _ _ (.mk (awl_live' [2] fun ρ hL => ?_))
     try simp only [go_sem, simprocAttr, h1, h3, h24, hi1] at hL
     try clear h1 h3 h24
     have h2 := hL
     clear hL
     clear hK K
     refine awl_ret ?_
     refine blk_ret ?_
     refine loop_ret ?_
     refine ret0 (by simp only [go_sem, simprocAttr, h2, hi1]; exact rfl) ?_
     try simp only [go_sem, simprocAttr]
     all_goals try clear hR1
     all_goals (rw [memOk, all_false_of (d := noWord) hw (by simpa using c3), Bool.and_false])
    ·
     try simp only [cnd] at c3
     refine awl_skip ?_
     refine awl_nil ?_
     refine blk_normal (hR1 _ _ (.mk ?_))
     have w1 : IntKind.i64.wrap ((i : Int) + 1) = ((i + 1 : Nat) : Int) := by rw [wrap64 (by omega)]; omega
     refine awl_regS _ rfl fun K hK => ?_
     try simp only [go_sem, simprocAttr, h1, h3, h24, hi1, w1]
     repeat' (refine And.intro (by first | rfl | omega | (simp; done)) ?_)
     refine hK _ _ (.mk (awl_live' [1, 3] fun ρ hL => ?_))
     try simp only [go_sem, simprocAttr, h1, h3, h24, hi1, w1] at hL
     try clear h1 h3 h24
     obtain ⟨h1, h3⟩ := hL
     clear hK K
     refine awl_nil ?_
     refine loop_again _ ?meas ⟨i + 1, rfl, (by omega), (by exact all_take_succ (d := noWord) hw i1_1 (by simpa using c3)), (by simp only [go_sem, simprocAttr, h1, h3, hi1, e1_1]), (h3), rfl⟩
     case meas => subst hn; omega
   ·
    try simp only [cnd] at c2
    refine awl_exit ?_
    refine loop_break ?_
    exact ⟨(by exact all_of_take (by omega) i1_1), (by simp only [go_sem, simprocAttr, h1, h3, h15, e1_1]), rfl⟩
  case after1 =>
   obtain ⟨j1_0, hL, hG⟩ := hJ
   subst hG
   clear h1 h3
   clear hL
   refine awl_seq ?_
   refine awl_regS _ rfl fun K hK => ?_
   try simp only [go_sem, simprocAttr]
   repeat' (refine And.intro (by first | rfl | omega | (simp; done)) ?_)
   refine hK _ _ (.mk (awl_live' [2] fun ρ hL => ?_))
   try simp only [go_sem, simprocAttr] at hL
   have h2 := hL
   clear hL
   clear hK K
   refine awl_ret ?_
   refine ret0 (by simp only [go_sem, simprocAttr, h2]; exact rfl) ?_
   try simp only [go_sem, simprocAttr]
   all_goals try clear hR1
   all_goals (rw [memOk, j1_0, Bool.and_true]; simp; omega)
set_option maxHeartbeats 8000000 in
set_option maxRecDepth 100000 in
theorem sat_spec_StateOk (s : Stt) (hf : s.fit) : Sat Tryz.prog 55 [.agg s.cells] [] (.bool (sttOk s)) [] := by
 refine sat_mk [.tmp 2] 0 37 Tryz.call55 Tryz.func55 Tryz.ntmps55 rfl rfl rfl rfl rfl ?_
 refine awl_live' [0] fun ρ hL => ?_
 try simp only [go_sem, simprocAttr] at hL
 have h0 := hL
 clear hL
 refine awl_seq ?_
 have hf1 := hf.1
 refine awl_regS _ rfl fun K hK => ?_
 try simp only [go_sem, simprocAttr, h0]
 repeat' (refine And.intro (by first | rfl | omega | (simp; done)) ?_)
 refine hK _ _ (.mk (awl_live' [1] fun ρ hL => ?_))
 try simp only [go_sem, simprocAttr, h0] at hL
 try clear h0
 have h1 := hL
 clear hL
 clear hK K
 refine awl_seq ?_
 refine awl_seq ?_
 refine awl_regS _ rfl fun K hK => ?_
 try simp only [go_sem, simprocAttr, h1]
 repeat' (refine And.intro (by first | rfl | omega | (simp; done)) ?_)
 refine hK _ _ (.mk (awl_live' [1, 3] fun ρ hL => ?_))
 try simp only [go_sem, simprocAttr, h1] at hL
 try clear h1
 obtain ⟨h1, h3⟩ := hL
 clear hK K
 have e1_1 := h1
 refine awl_loopH (fun H0 n σ G => ∃ (i : Nat), n = s.regs.length - i ∧ (i ≤ s.regs.length) ∧ ((s.regs.take i).all wordOk = true) ∧ liveE [1] σ ρ ∧ σ 3 = .int .i64 (i : Int) ∧ G = H0) (fun H0 σ G => (s.regs.all wordOk = true) ∧ liveE [1] σ ρ ∧ G = H0) ((fun (i : Nat) => s.regs.length - i) 0) ?init1 (fun n ρ G hI => ?round1) (fun ρ G hJ => ?after1)
 case init1 => exact ⟨0, rfl, (Nat.zero_le _), (by simp), liveE_refl _ _, (h3), rfl⟩
 case round1 =>
  obtain ⟨i, hn, i1_0, i1_1, hL, k3, hG⟩ := hI
  subst hG
  try simp only [go_sem, simprocAttr, h1, h3] at hL
  clear h1 h3
  have h1 := hL
  clear hL
  have h3 := k3
  clear k3
  refine awl_seq ?_
  refine awl_seq ?_
  refine awl_regS _ rfl fun K hK => ?_
  try simp only [go_sem, simprocAttr, h1, h3]
  repeat' (refine And.intro (by first | rfl | omega | (simp; done)) ?_)
  refine hK _ _ (.mk (awl_live' [1, 3, 8] fun ρ hL => ?_))
  try simp only [go_sem, simprocAttr, h1, h3] at hL
  try clear h1 h3
  obtain ⟨h1, h3, h8⟩ := hL
  clear hK K
  refine awl_cond h8 (fun c1 => ?_) (fun c1 => ?_)
  ·
   try simp only [cnd] at c1
   have hi1 : i < s.regs.length := by omega
   refine awl_skip ?_
   refine awl_seq ?_
   refine awl_block fun R1 hw1 hR1 => ?_
   refine awl_seq ?_
   refine awl_regS _ rfl fun K hK => ?_
   try simp only [go_sem, simprocAttr, h1, h3, h8, hi1]
   repeat' (refine And.intro (by first | rfl | omega | (simp; done)) ?_)
   refine opS_call_ro rfl (sat_spec_WordOk ?_) ?ha ?hv ?hh ?_
   case ha => simp only [go_sem, simprocAttr, h1, h3, h8, hi1]; first | done | rfl
   case hv => first | rfl | (simp only [go_sem]; done)
   case hh => first | rfl | (simp only [go_sem]; done)
   try simp only [go_sem, simprocAttr, h1, h3, h8, hi1]
   repeat' (refine And.intro (by first | rfl | omega | (simp; done)) ?_)
   refine hK _ _ (.mk (awl_live' [1, 3, 17] fun ρ hL => ?_))
   try simp only [go_sem, simprocAttr, h1, h3, h8, hi1] at hL
   try clear h1 h3 h8
   obtain ⟨h1, h3, h17⟩ := hL
   clear hK K
   refine awl_cond h17 (fun c2 => ?_) (fun c2 => ?_)
   ·
    try simp only [cnd] at c2
    refine awl_seq ?_
    refine awl_regS _ rfl fun K hK => ?_
    try simp only [go_sem, simprocAttr, h1, h3, h17, hi1]
    repeat' (refine And.intro (by first | rfl | omega | (simp; done)) ?_)
    refine hK _ _ (.mk (awl_live' [2] fun ρ hL => ?_))
    try simp only [go_sem, simprocAttr, h1, h3, h17, hi1] at hL
    try clear h1 h3 h17
    have h2 := hL
    clear hL
    clear hK K
    refine awl_ret ?_
    refine blk_ret ?_
    refine loop_ret ?_
    refine ret0 (by simp only [go_sem, simprocAttr, h2, hi1]; exact rfl) ?_
    try simp only [go_sem, simprocAttr]
    all_goals try clear hR1
    all_goals (rw [sttOk, all_false_of (d := noWord) hi1 (by simpa using c2)]; simp only [Bool.false_and])
   ·
    try simp only [cnd] at c2
    refine awl_skip ?_
    refine awl_nil ?_
    refine blk_normal (hR1 _ _ (.mk ?_))
    have w1 : IntKind.i64.wrap ((i : Int) + 1) = ((i + 1 : Nat) : Int) := by rw [wrap64 (by omega)]; omega
    refine awl_regS _ rfl fun K hK => ?_
    try simp only [go_sem, simprocAttr, h1, h3, h17, hi1, w1]
    repeat' (refine And.intro (by first | rfl | omega | (simp; done)) ?_)
    refine hK _ _ (.mk (awl_live' [1, 3] fun ρ hL => ?_))
    try simp only [go_sem, simprocAttr, h1, h3, h17, hi1, w1] at hL
    try clear h1 h3 h17
    obtain ⟨h1, h3⟩ := hL
    clear hK K
    refine awl_nil ?_
    refine loop_again _ ?meas ⟨i + 1, rfl, (by omega), (by exact all_take_succ (d := noWord) hi1 i1_1 (by simpa using c2)), (by simp only [go_sem, simprocAttr, h1, h3, hi1, e1_1]), (h3), rfl⟩
    case meas => subst hn; omega
  ·
   try simp only [cnd] at c1
   refine awl_exit ?_
   refine loop_break ?_
   exact ⟨(by exact all_of_take (by omega) i1_1), (by simp only [go_sem, simprocAttr, h1, h3, h8, e1_1]), rfl⟩
 case after1 =>
  obtain ⟨j1_0, hL, hG⟩ := hJ
  subst hG
  try simp only [go_sem, simprocAttr, h1, h3] at hL
  clear h1 h3
  have h1 := hL
  clear hL
  refine awl_seq ?_
  refine awl_regS _ rfl fun K hK => ?_
  try simp only [go_sem, simprocAttr, h1]
  repeat' (refine And.intro (by first | rfl | omega | (simp; done)) ?_)
  refine awpS_live [1, 22] fun ρ hL => ?_
  try simp only [go_sem, simprocAttr, h1] at hL
  try clear h1
  obtain ⟨h1, h22⟩ := hL
  refine grp_andN (tc := 22) (tv := 25) (td := 26) (v := ?v1) 3 rfl [1] h22 rfl (fun hb K1 hK1 => ?run) (fun hb => ?skip) (fun ρ hP hL => ?_)
  case skip =>
   exact awpS_skip (want := true) (b := _) (by rw [hb]; rfl) _ [] ρ h22 (fun _ _ => rfl) (by simp) rfl
  case run =>
   simp only [List.take_succ_cons, List.take_zero]
   rw [hb] at h22
   try simp only [go_sem, simprocAttr, h1, h22]
   repeat' (refine And.intro (by first | rfl | omega | (simp; done)) ?_)
   refine opS_call_ro rfl (sat_spec_WordOk ?_) ?ha ?hv ?hh ?_
   case ha => simp only [go_sem, simprocAttr, h1, h22]; first | done | rfl
   case hv => first | rfl | (simp only [go_sem]; done)
   case hh => first | rfl | (simp only [go_sem]; done)
   try simp only [go_sem, simprocAttr, h1, h22]
   repeat' (refine And.intro (by first | rfl | omega | (simp; done)) ?_)
   exact hK1 _ (by simp only [go_sem, simprocAttr, h1, h22]) (by simp only [go_sem, simprocAttr, h1, h22]; exact rfl) (by simp only [go_sem, simprocAttr, h1, h22])
  simp only [List.drop_succ_cons, List.drop_zero]
  try simp only [go_sem, simprocAttr, h1, h22] at hL
  try clear h1 h22
  have h1 := hL
  clear hL
  have h26 := hP
  clear hP
  try simp only [go_sem, simprocAttr, h1, h26]
  repeat' (refine And.intro (by first | rfl | omega | (simp; done)) ?_)
  refine awpS_live [1, 27] fun ρ hL => ?_
  try simp only [go_sem, simprocAttr, h1, h26] at hL
  try clear h1 h26
  obtain ⟨h1, h27⟩ := hL
  refine grp_andN (tc := 27) (tv := 30) (td := 31) (v := ?v2) 3 rfl [1] h27 rfl (fun hb K1 hK1 => ?run) (fun hb => ?skip) (fun ρ hP hL => ?_)
  case skip =>
   exact awpS_skip (want := true) (b := _) (by rw [hb]; rfl) _ [] ρ h27 (fun _ _ => rfl) (by simp) rfl
  case run =>
   simp only [List.take_succ_cons, List.take_zero]
   rw [hb] at h27
   try simp only [go_sem, simprocAttr, h1, h27]
   repeat' (refine And.intro (by first | rfl | omega | (simp; done)) ?_)
   refine opS_call_ro rfl (sat_spec_MemoryOk ?_) ?ha ?hv ?hh ?_
   case ha => simp only [go_sem, simprocAttr, h1, h27]; first | done | rfl
   case hv => first | rfl | (simp only [go_sem]; done)
   case hh => first | rfl | (simp only [go_sem]; done)
   try simp only [go_sem, simprocAttr, h1, h27]
   repeat' (refine And.intro (by first | rfl | omega | (simp; done)) ?_)
   exact hK1 _ (by simp only [go_sem, simprocAttr, h1, h27]) (by simp only [go_sem, simprocAttr, h1, h27]; exact rfl) (by simp only [go_sem, simprocAttr, h1, h27])
  simp only [List.drop_succ_cons, List.drop_zero]
  try simp only [go_sem, simprocAttr, h1, h27] at hL
  try clear h1 h27
  have h1 := hL
  clear hL
  have h31 := hP
  clear hP
  try simp only [go_sem, simprocAttr, h1, h31]
  repeat' (refine And.intro (by first | rfl | omega | (simp; done)) ?_)
  refine awpS_live [1, 32] fun ρ hL => ?_
  try simp only [go_sem, simprocAttr, h1, h31] at hL
  try clear h1 h31
  obtain ⟨h1, h32⟩ := hL
  refine grp_andN (tc := 32) (tv := 35) (td := 36) (v := ?v3) 3 rfl [] h32 rfl (fun hb K1 hK1 => ?run) (fun hb => ?skip) (fun ρ hP hL => ?_)
  case skip =>
   exact awpS_skip (want := true) (b := _) (by rw [hb]; rfl) _ [] ρ h32 (fun _ _ => rfl) (by simp) rfl
  case run =>
   simp only [List.take_succ_cons, List.take_zero]
   rw [hb] at h32
   try simp only [go_sem, simprocAttr, h1, h32]
   repeat' (refine And.intro (by first | rfl | omega | (simp; done)) ?_)
   refine opS_call_ro rfl (sat_spec_l1In ?_ ?_ ?_) ?ha ?hv ?hh ?_
   case ha => simp only [go_sem, simprocAttr, h1, h32]; first | done | rfl
   case hv => first | rfl | (simp only [go_sem]; done)
   case hh => first | rfl | (simp only [go_sem]; done)
   try simp only [go_sem, simprocAttr, h1, h32]
   repeat' (refine And.intro (by first | rfl | omega | (simp; done)) ?_)
   exact hK1 _ (by simp only [go_sem, simprocAttr, h1, h32]) (by simp only [go_sem, simprocAttr, h1, h32]; exact rfl) (by simp only [go_sem, simprocAttr, h1, h32])
  simp only [List.drop_succ_cons, List.drop_zero]
  clear hL h1 h32
  have h36 := hP
  clear hP
  try simp only [go_sem, simprocAttr, h36]
  repeat' (refine And.intro (by first | rfl | omega | (simp; done)) ?_)
  refine hK _ _ (.mk (awl_live' [2] fun ρ hL => ?_))
  try simp only [go_sem, simprocAttr, h36] at hL
  try clear h36
  have h2 := hL
  clear hL
  clear hK K
  refine awl_ret ?_
  refine ret0 (by simp only [go_sem, simprocAttr, h2]; exact rfl) ?_
  try simp only [go_sem, simprocAttr]
  all_goals try clear hR1
  all_goals (rw [sttOk, j1_0, Bool.true_and]; congr 4; rw [decide_eq_decide]; omega)
set_option maxHeartbeats 8000000 in
set_option maxRecDepth 100000 in
theorem sat_impl_StateOk (s : Stt) (hf : s.fit) : Sat Tryz.prog 67 [.agg s.cells] [] (.bool (sttOk s)) [] := by
 refine sat_mk [.tmp 2] 0 27 Tryz.call67 Tryz.func67 Tryz.ntmps67 rfl rfl rfl rfl rfl ?_
 refine awl_live' [0] fun ρ hL => ?_
 try simp only [go_sem, simprocAttr] at hL
 have h0 := hL
 clear hL
 refine awl_seq ?_
 refine awl_regS _ rfl fun K hK => ?_
 try simp only [go_sem, simprocAttr, h0]
 repeat' (refine And.intro (by first | rfl | omega | (simp; done)) ?_)
 refine hK _ _ (.mk (awl_live' [1] fun ρ hL => ?_))
 try simp only [go_sem, simprocAttr, h0] at hL
 try clear h0
 have h1 := hL
 clear hL
 clear hK K
 refine awl_seq ?_
 refine awl_regS _ rfl fun K hK => ?_
 try simp only [go_sem, simprocAttr, h1]
 repeat' (refine And.intro (by first | rfl | omega | (simp; done)) ?_)
 refine awpS_live [1, 7] fun ρ hL => ?_
 try simp only [go_sem, simprocAttr, h1] at hL
 try clear h1
 obtain ⟨h1, h7⟩ := hL
 refine grp_andN (tc := 7) (tv := 10) (td := 11) (v := ?v1) 3 rfl [1] h7 rfl (fun hb K1 hK1 => ?run) (fun hb => ?skip) (fun ρ hP hL => ?_)
 case skip =>
  exact awpS_skip (want := true) (b := _) (by rw [hb]; rfl) _ [] ρ h7 (fun _ _ => rfl) (by simp) rfl
 case run =>
  simp only [List.take_succ_cons, List.take_zero]
  rw [hb] at h7
  try simp only [go_sem, simprocAttr, h1, h7]
  repeat' (refine And.intro (by first | rfl | omega | (simp; done)) ?_)
  refine opS_call_ro rfl (sat_impl_wordsOk s.regs (Nat.le_trans hf.1 (by decide))) ?ha ?hv ?hh ?_
  case ha => simp only [go_sem, simprocAttr, h1, h7]; first | done | rfl
  case hv => first | rfl | (simp only [go_sem]; done)
  case hh => first | rfl | (simp only [go_sem]; done)
  try simp only [go_sem, simprocAttr, h1, h7]
  repeat' (refine And.intro (by first | rfl | omega | (simp; done)) ?_)
  exact hK1 _ (by simp only [go_sem, simprocAttr, h1, h7]) (by simp only [go_sem, simprocAttr, h1, h7]; exact rfl) (by simp only [go_sem, simprocAttr, h1, h7])
 simp only [List.drop_succ_cons, List.drop_zero]
 try simp only [go_sem, simprocAttr, h1, h7] at hL
 try clear h1 h7
 have h1 := hL
 clear hL
 have h11 := hP
 clear hP
 try simp only [go_sem, simprocAttr, h1, h11]
 repeat' (refine And.intro (by first | rfl | omega | (simp; done)) ?_)
 refine awpS_live [1, 12] fun ρ hL => ?_
 try simp only [go_sem, simprocAttr, h1, h11] at hL
 try clear h1 h11
 obtain ⟨h1, h12⟩ := hL
 refine grp_andN (tc := 12) (tv := 15) (td := 16) (v := ?v2) 3 rfl [1] h12 rfl (fun hb K1 hK1 => ?run) (fun hb => ?skip) (fun ρ hP hL => ?_)
 case skip =>
  exact awpS_skip (want := true) (b := _) (by rw [hb]; rfl) _ [] ρ h12 (fun _ _ => rfl) (by simp) rfl
 case run =>
  simp only [List.take_succ_cons, List.take_zero]
  rw [hb] at h12
  try simp only [go_sem, simprocAttr, h1, h12]
  repeat' (refine And.intro (by first | rfl | omega | (simp; done)) ?_)
  refine opS_call_ro rfl (sat_impl_WordOk ?_) ?ha ?hv ?hh ?_
  case ha => simp only [go_sem, simprocAttr, h1, h12]; first | done | rfl
  case hv => first | rfl | (simp only [go_sem]; done)
  case hh => first | rfl | (simp only [go_sem]; done)
  try simp only [go_sem, simprocAttr, h1, h12]
  repeat' (refine And.intro (by first | rfl | omega | (simp; done)) ?_)
  exact hK1 _ (by simp only [go_sem, simprocAttr, h1, h12]) (by simp only [go_sem, simprocAttr, h1, h12]; exact rfl) (by simp only [go_sem, simprocAttr, h1, h12])
 simp only [List.drop_succ_cons, List.drop_zero]
 try simp only [go_sem, simprocAttr, h1, h12] at hL
 try clear h1 h12
 have h1 := hL
 clear hL
 have h16 := hP
 clear hP
 try simp only [go_sem, simprocAttr, h1, h16]
 repeat' (refine And.intro (by first | rfl | omega | (simp; done)) ?_)
 refine awpS_live [1, 17] fun ρ hL => ?_
 try simp only [go_sem, simprocAttr, h1, h16] at hL
 try clear h1 h16
 obtain ⟨h1, h17⟩ := hL
 refine grp_andN (tc := 17) (tv := 20) (td := 21) (v := ?v3) 3 rfl [1] h17 rfl (fun hb K1 hK1 => ?run) (fun hb => ?skip) (fun ρ hP hL => ?_)
 case skip =>
  exact awpS_skip (want := true) (b := _) (by rw [hb]; rfl) _ [] ρ h17 (fun _ _ => rfl) (by simp) rfl
 case run =>
  simp only [List.take_succ_cons, List.take_zero]
  rw [hb] at h17
  try simp only [go_sem, simprocAttr, h1, h17]
  repeat' (refine And.intro (by first | rfl | omega | (simp; done)) ?_)
  refine opS_call_ro rfl (sat_impl_MemoryOk s.mem hf.2) ?ha ?hv ?hh ?_
  case ha => simp only [go_sem, simprocAttr, h1, h17]; first | done | rfl
  case hv => first | rfl | (simp only [go_sem]; done)
  case hh => first | rfl | (simp only [go_sem]; done)
  try simp only [go_sem, simprocAttr, h1, h17]
  repeat' (refine And.intro (by first | rfl | omega | (simp; done)) ?_)
  exact hK1 _ (by simp only [go_sem, simprocAttr, h1, h17]) (by simp only [go_sem, simprocAttr, h1, h17]; exact rfl) (by simp only [go_sem, simprocAttr, h1, h17])
 simp only [List.drop_succ_cons, List.drop_zero]
 try simp only [go_sem, simprocAttr, h1, h17] at hL
 try clear h1 h17
 have h1 := hL
 clear hL
 have h21 := hP
 clear hP
 try simp only [go_sem, simprocAttr, h1, h21]
 repeat' (refine And.intro (by first | rfl | omega | (simp; done)) ?_)
 refine awpS_live [1, 22] fun ρ hL => ?_
 try simp only [go_sem, simprocAttr, h1, h21] at hL
 try clear h1 h21
 obtain ⟨h1, h22⟩ := hL
 refine grp_andN (tc := 22) (tv := 25) (td := 26) (v := ?v4) 3 rfl [] h22 rfl (fun hb K1 hK1 => ?run) (fun hb => ?skip) (fun ρ hP hL => ?_)
 case skip =>
  exact awpS_skip (want := true) (b := _) (by rw [hb]; rfl) _ [] ρ h22 (fun _ _ => rfl) (by simp) rfl
 case run =>
  simp only [List.take_succ_cons, List.take_zero]
  rw [hb] at h22
  try simp only [go_sem, simprocAttr, h1, h22]
  repeat' (refine And.intro (by first | rfl | omega | (simp; done)) ?_)
  refine opS_call_ro rfl (sat_impl_in ?_ ?_ ?_) ?ha ?hv ?hh ?_
  case ha => simp only [go_sem, simprocAttr, h1, h22]; first | done | rfl
  case hv => first | rfl | (simp only [go_sem]; done)
  case hh => first | rfl | (simp only [go_sem]; done)
  try simp only [go_sem, simprocAttr, h1, h22]
  repeat' (refine And.intro (by first | rfl | omega | (simp; done)) ?_)
  exact hK1 _ (by simp only [go_sem, simprocAttr, h1, h22]) (by simp only [go_sem, simprocAttr, h1, h22]; exact rfl) (by simp only [go_sem, simprocAttr, h1, h22])
 simp only [List.drop_succ_cons, List.drop_zero]
 clear hL h1 h22
 have h26 := hP
 clear hP
 try simp only [go_sem, simprocAttr, h26]
 repeat' (refine And.intro (by first | rfl | omega | (simp; done)) ?_)
 refine hK _ _ (.mk (awl_live' [2] fun ρ hL => ?_))
 try simp only [go_sem, simprocAttr, h26] at hL
 try clear h26
 have h2 := hL
 clear hL
 clear hK K
 refine awl_ret ?_
 refine ret0 (by simp only [go_sem, simprocAttr, h2]; exact rfl) ?_
 try simp only [go_sem, simprocAttr]
 all_goals (rw [sttOk, Bool.and_comm (s.regs.all wordOk)]; congr 5; rw [decide_eq_decide]; omega)
end Go.Proofs.YtopjagninmjkbaaGreat.AM
