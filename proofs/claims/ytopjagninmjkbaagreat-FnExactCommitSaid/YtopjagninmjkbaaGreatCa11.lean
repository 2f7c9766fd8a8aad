/- Finding in rows of entries. No conditions but those each theorem bears. -/
import Derived.Test.YtopjagninmjkbaaGreatFa
import Derived.Test.YtopjagninmjkbaaGreatM4
import Derived.Test.YtopjagninmjkbaaGreatCa9
import Derived.Test.YtopjagninmjkbaaGreatCa11t
set_option linter.unusedSimpArgs false
set_option linter.unusedVariables false
namespace Go.Proofs.YtopjagninmjkbaaGreat.AM
open Go

set_option maxHeartbeats 8000000 in
set_option maxRecDepth 100000 in
theorem sat_slices_IndexFunc_impl_Entry_impl_Entry (xs : List Ent) (g : FuncId) (cap : List AV) (p : Ent → Bool) (hb : xs.length ≤ 1099511627776) (hc : ∀ (Hb : Heap) (inv : Nat → Option Nat) (n : Nat), cap.map (bor Hb inv (n + 3)) = cap) (hg : ∀ x : Ent, Sat Tryz.prog g (.agg (Ent.cells x) :: cap) [] (.bool (p x)) []) : Sat Tryz.prog 101 [.sl xs.length xs.length (rows xs), .func g [] cap] [] (.int .i64 (firstAt p xs 0)) [] := by
 refine sat_mk [.tmp 4] 0 19 Tryz.call101 Tryz.func101 Tryz.ntmps101 rfl rfl rfl rfl rfl ?_
 refine awl_live' [0, 1] fun ρ hL => ?_
 try simp only [go_sem, simprocAttr, hc] at hL
 obtain ⟨h0, h1⟩ := hL
 refine awl_seq ?_
 refine awl_regS _ rfl fun K hK => ?_
 try simp only [go_sem, simprocAttr, h0, h1, hc]
 repeat' (refine And.intro (by first | rfl | omega | (simp; done)) ?_)
 refine hK _ _ (.mk (awl_live' [0, 1] fun ρ hL => ?_))
 try simp only [go_sem, simprocAttr, h0, h1, hc] at hL
 try clear h0 h1
 obtain ⟨h0, h1⟩ := hL
 clear hK K
 refine awl_seq ?_
 refine awl_seq ?_
 refine awl_regS _ rfl fun K hK => ?_
 try simp only [go_sem, simprocAttr, h0, h1, hc]
 repeat' (refine And.intro (by first | rfl | omega | (simp; done)) ?_)
 refine hK _ _ (.mk (awl_live' [0, 1, 7, 8] fun ρ hL => ?_))
 try simp only [go_sem, simprocAttr, h0, h1, hc] at hL
 try clear h0 h1
 obtain ⟨h0, h1, h7, h8⟩ := hL
 clear hK K
 have e1_0 := h0
 have e1_1 := h1
 have e1_7 := h7
 refine awl_loopH (fun H0 n σ G => ∃ (i : Nat), n = xs.length - i ∧ (i ≤ xs.length) ∧ (firstAt p (xs.drop i) i = firstAt p xs 0) ∧ liveE [0, 1, 7] σ ρ ∧ σ 8 = .int .i64 (i : Int) ∧ G = H0) (fun H0 σ G => (firstAt p xs 0 = -1) ∧ liveE [] σ ρ ∧ G = H0) ((fun (i : Nat) => xs.length - i) 0) ?init1 (fun n ρ G hI => ?round1) (fun ρ G hJ => ?after1)
 case init1 => exact ⟨0, rfl, (Nat.zero_le _), (by simp), liveE_refl _ _, (h8), rfl⟩
 case round1 =>
  obtain ⟨i, hn, i1_0, i1_1, hL, k8, hG⟩ := hI
  subst hG
  try simp only [go_sem, simprocAttr, h0, h1, h7, h8, hc] at hL
  clear h0 h1 h7 h8
  obtain ⟨h0, h1, h7⟩ := hL
  have h8 := k8
  clear k8
  refine awl_seq ?_
  refine awl_regS _ rfl fun K hK => ?_
  try simp only [go_sem, simprocAttr, h0, h1, h7, h8, hc]
  repeat' (refine And.intro (by first | rfl | omega | (simp; done)) ?_)
  refine hK _ _ (.mk (awl_live' [0, 1, 7, 8, 9] fun ρ hL => ?_))
  try simp only [go_sem, simprocAttr, h0, h1, h7, h8, hc] at hL
  try clear h0 h1 h7 h8
  obtain ⟨h0, h1, h7, h8, h9⟩ := hL
  clear hK K
  refine awl_seq ?_
  refine awl_cond h9 (fun c1 => ?_) (fun c1 => ?_)
  ·
   try simp only [cnd] at c1
   have hi1 : i < xs.length := by omega
   refine awl_skip ?_
   refine awl_seq ?_
   refine awl_block fun R1 hw1 hR1 => ?_
   refine awl_seq ?_
   refine awl_regS _ rfl fun K hK => ?_
   try simp only [go_sem, simprocAttr, h0, h1, h7, h8, h9, hi1, hc]
   repeat' (refine And.intro (by first | rfl | omega | (simp; done)) ?_)
   refine hK _ _ (.mk (awl_live' [0, 1, 5, 7, 8] fun ρ hL => ?_))
   try simp only [go_sem, simprocAttr, h0, h1, h7, h8, h9, hi1, hc] at hL
   try clear h0 h1 h7 h8 h9
   obtain ⟨h0, h1, h5, h7, h8⟩ := hL
   clear hK K
   refine awl_seq ?_
   refine awl_regS _ rfl fun K hK => ?_
   try simp only [go_sem, simprocAttr, h0, h1, h5, h7, h8, hi1, hc]
   repeat' (refine And.intro (by first | rfl | omega | (simp; done)) ?_)
   refine opS_call_ro (by simp only [go_sem, simprocAttr, h0, h1, h5, h7, h8, hi1, hc]; exact rfl) (hg (xs.getD i noEnt)) ?ha ?hv ?hh ?_
   case ha => simp only [go_sem, simprocAttr, h0, h1, h5, h7, h8, hi1, hc]; first | done | rfl
   case hv => first | rfl | (simp only [go_sem]; done)
   case hh => first | rfl | (simp only [go_sem]; done)
   try simp only [go_sem, simprocAttr, h0, h1, h5, h7, h8, hi1, hc]
   repeat' (refine And.intro (by first | rfl | omega | (simp; done)) ?_)
   refine hK _ _ (.mk (awl_live' [0, 1, 5, 7, 8, 16] fun ρ hL => ?_))
   try simp only [go_sem, simprocAttr, h0, h1, h5, h7, h8, hi1, hc] at hL
   try clear h0 h1 h5 h7 h8
   obtain ⟨h0, h1, h5, h7, h8, h16⟩ := hL
   clear hK K
   refine awl_cond h16 (fun c2 => ?_) (fun c2 => ?_)
   ·
    try simp only [cnd] at c2
    refine awl_seq ?_
    refine awl_regS _ rfl fun K hK => ?_
    try simp only [go_sem, simprocAttr, h0, h1, h5, h7, h8, h16, hi1, hc]
    repeat' (refine And.intro (by first | rfl | omega | (simp; done)) ?_)
    refine hK _ _ (.mk (awl_live' [4] fun ρ hL => ?_))
    try simp only [go_sem, simprocAttr, h0, h1, h5, h7, h8, h16, hi1, hc] at hL
    try clear h0 h1 h5 h7 h8 h16
    have h4 := hL
    clear hL
    clear hK K
    refine awl_ret ?_
    refine blk_ret ?_
    refine loop_ret ?_
    refine ret0 (by simp only [go_sem, simprocAttr, h4, hi1, hc]; exact rfl) ?_
    try simp only [go_sem, simprocAttr]
    all_goals try clear hR1
    all_goals (have := firstAt_drop (p := p) (d := noEnt) xs i 0 hi1; rw [← i1_1]; simp only [Nat.zero_add] at this; rw [this, if_pos (by simpa using c2)])
   ·
    try simp only [cnd] at c2
    refine awl_skip ?_
    refine awl_nil ?_
    refine blk_normal (hR1 _ _ (.mk ?_))
    have w1 : IntKind.i64.wrap ((i : Int) + 1) = ((i + 1 : Nat) : Int) := by rw [wrap64 (by omega)]; omega
    refine awl_regS _ rfl fun K hK => ?_
    try simp only [go_sem, simprocAttr, h0, h1, h5, h7, h8, h16, hi1, w1, hc]
    repeat' (refine And.intro (by first | rfl | omega | (simp; done)) ?_)
    refine hK _ _ (.mk (awl_live' [0, 1, 7, 8] fun ρ hL => ?_))
    try simp only [go_sem, simprocAttr, h0, h1, h5, h7, h8, h16, hi1, w1, hc] at hL
    try clear h0 h1 h5 h7 h8 h16
    obtain ⟨h0, h1, h7, h8⟩ := hL
    clear hK K
    refine awl_nil ?_
    refine loop_again _ ?meas ⟨i + 1, rfl, (by omega), (by have := firstAt_drop (p := p) (d := noEnt) xs i 0 hi1; rw [← i1_1]; simp only [Nat.zero_add] at this; rw [this, if_neg (by simpa using c2)]), (by simp only [go_sem, simprocAttr, h0, h1, h7, h8, hi1, hc, e1_0, e1_1, e1_7]), (h8), rfl⟩
    case meas => subst hn; omega
  ·
   try simp only [cnd] at c1
   refine awl_exit ?_
   refine loop_break ?_
   exact ⟨(by rw [← i1_1, List.drop_of_length_le (by omega)]; rfl), (by simp only [go_sem, simprocAttr, h0, h1, h7, h8, h9, hc, e1_0, e1_1, e1_7]), rfl⟩
 case after1 =>
  obtain ⟨j1_0, hL, hG⟩ := hJ
  subst hG
  clear h0 h1 h7 h8
  clear hL
  refine awl_seq ?_
  refine awl_regS _ rfl fun K hK => ?_
  try simp only [go_sem, simprocAttr, hc]
  repeat' (refine And.intro (by first | rfl | omega | (simp; done)) ?_)
  refine hK _ _ (.mk (awl_live' [4] fun ρ hL => ?_))
  try simp only [go_sem, simprocAttr, hc] at hL
  have h4 := hL
  clear hL
  clear hK K
  refine awl_ret ?_
  refine ret0 (by simp only [go_sem, simprocAttr, h4, hc]; exact rfl) ?_
  try simp only [go_sem, simprocAttr]
  all_goals try clear hR1
  all_goals (rw [j1_0])
set_option maxHeartbeats 8000000 in
set_option maxRecDepth 100000 in
theorem sat_slices_ContainsFunc_impl_Entry_impl_Entry (xs : List Ent) (g : FuncId) (cap : List AV) (p : Ent → Bool) (hb : xs.length ≤ 1099511627776) (hc : ∀ (Hb : Heap) (inv : Nat → Option Nat) (n : Nat), cap.map (bor Hb inv (n + 3)) = cap) (hg : ∀ x : Ent, Sat Tryz.prog g (.agg (Ent.cells x) :: cap) [] (.bool (p x)) []) : Sat Tryz.prog 68 [.sl xs.length xs.length (rows xs), .func g [] cap] [] (.bool (xs.any p)) [] := by
 refine sat_mk [.tmp 4] 0 9 Tryz.call68 Tryz.func68 Tryz.ntmps68 rfl rfl rfl rfl rfl ?_
 refine awl_live' [0, 1] fun ρ hL => ?_
 try simp only [go_sem, simprocAttr, hc] at hL
 obtain ⟨h0, h1⟩ := hL
 refine awl_seq ?_
 refine awl_regS _ rfl fun K hK => ?_
 try simp only [go_sem, simprocAttr, h0, h1, hc]
 repeat' (refine And.intro (by first | rfl | omega | (simp; done)) ?_)
 refine hK _ _ (.mk (awl_live' [0, 1] fun ρ hL => ?_))
 try simp only [go_sem, simprocAttr, h0, h1, hc] at hL
 try clear h0 h1
 obtain ⟨h0, h1⟩ := hL
 clear hK K
 refine awl_seq ?_
 refine awl_regS _ rfl fun K hK => ?_
 try simp only [go_sem, simprocAttr, h0, h1, hc]
 repeat' (refine And.intro (by first | rfl | omega | (simp; done)) ?_)
 refine opS_call_ro rfl (sat_slices_IndexFunc_impl_Entry_impl_Entry xs g cap p ?hp0 ?hp1 ?hp2) ?ha ?hv ?hh ?_
 case ha => simp only [go_sem, simprocAttr, h0, h1, hc]; first | done | rfl
 case hp0 => first | assumption | omega | (simp; done)
 case hp1 => first | assumption | omega | (simp; done)
 case hp2 => first | assumption | omega | (simp; done)
 case hv => first | rfl | (simp only [go_sem]; done)
 case hh => first | rfl | (simp only [go_sem]; done)
 try simp only [go_sem, simprocAttr, h0, h1, hc]
 repeat' (refine And.intro (by first | rfl | omega | (simp; done)) ?_)
 refine hK _ _ (.mk (awl_live' [4] fun ρ hL => ?_))
 try simp only [go_sem, simprocAttr, h0, h1, hc] at hL
 try clear h0 h1
 have h4 := hL
 clear hL
 clear hK K
 refine awl_ret ?_
 refine ret0 (by simp only [go_sem, simprocAttr, h4, hc]; exact rfl) ?_
 try simp only [go_sem, simprocAttr]
 all_goals (have := firstAt_neg (p := p) xs 0; cases h : xs.any p <;> simp_all)
end Go.Proofs.YtopjagninmjkbaaGreat.AM
