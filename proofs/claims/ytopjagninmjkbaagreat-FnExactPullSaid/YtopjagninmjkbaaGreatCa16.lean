/- What the laws mark, and find again. No conditions but those each theorem bears. -/
import Derived.Test.YtopjagninmjkbaaGreatFa
import Derived.Test.YtopjagninmjkbaaGreatSp7
import Derived.Test.YtopjagninmjkbaaGreatCa7
set_option linter.unusedSimpArgs false
set_option linter.unusedVariables false
namespace Go.Proofs.YtopjagninmjkbaaGreat.AM
open Go

set_option maxHeartbeats 8000000 in
set_option maxRecDepth 100000 in
theorem sat_laws_markWordS (xs : List Word) (t : Int) (c : Nat) (hb : xs.length ≤ 1099511627776) (ht : 0 ≤ t ∧ t ≤ 1099511627776) : Sat Tryz.prog 84 [.slice 0 0 xs.length c, .int .i64 t] [⟨6, rows xs, true, false⟩] (.int .i64 (t + (6 * xs.length : Nat))) [⟨6, rows (mrow markW 6 t xs.length), true, false⟩] := by
 refine sat_mk [.tmp 4] 1 61 Tryz.call84 Tryz.func84 Tryz.ntmps84 rfl rfl rfl rfl rfl ?_
 refine awl_live' [0, 1] fun ρ hL => ?_
 try simp only [go_sem, simprocAttr, List.length_append, List.length_drop, List.length_cons, mrow_len] at hL
 obtain ⟨h0, h1⟩ := hL
 refine awl_seq ?_
 refine awl_regS _ rfl fun K hK => ?_
 try simp only [go_sem, simprocAttr, h0, h1, List.length_append, List.length_drop, List.length_cons, mrow_len]
 repeat' (refine And.intro (by first | rfl | omega | (simp; done)) ?_)
 refine hK _ _ (.mk (awl_live' [0, 1] fun ρ hL => ?_))
 try simp only [go_sem, simprocAttr, h0, h1, List.length_append, List.length_drop, List.length_cons, mrow_len] at hL
 try clear h0 h1
 obtain ⟨h0, h1⟩ := hL
 clear hK K
 refine awl_seq ?_
 refine awl_seq ?_
 refine awl_regS _ rfl fun K hK => ?_
 try simp only [go_sem, simprocAttr, h0, h1, List.length_append, List.length_drop, List.length_cons, mrow_len]
 repeat' (refine And.intro (by first | rfl | omega | (simp; done)) ?_)
 refine hK _ _ (.mk (awl_live' [0, 1, 5] fun ρ hL => ?_))
 try simp only [go_sem, simprocAttr, h0, h1, List.length_append, List.length_drop, List.length_cons, mrow_len] at hL
 try clear h0 h1
 obtain ⟨h0, h1, h5⟩ := hL
 clear hK K
 have e1_0 := h0
 refine awl_loopH (fun H0 n σ G => ∃ (i : Nat), n = xs.length - i ∧ (i ≤ xs.length) ∧ liveE [0] σ ρ ∧ σ 1 = .int .i64 (t + (6 * i : Nat)) ∧ σ 5 = .int .i64 (i : Int) ∧ G = [⟨6, rows (mrow markW 6 t i) ++ rows (xs.drop i), true, false⟩]) (fun H0 σ G => liveE [] σ ρ ∧ σ 1 = .int .i64 (t + (6 * xs.length : Nat)) ∧ G = [⟨6, rows (mrow markW 6 t xs.length), true, false⟩]) ((fun (i : Nat) => xs.length - i) 0) ?init1 (fun n ρ G hI => ?round1) (fun ρ G hJ => ?after1)
 case init1 => exact ⟨0, rfl, (Nat.zero_le _), liveE_refl _ _, (by rw [h1]; simp), (h5), rfl⟩
 case round1 =>
  obtain ⟨i, hn, i1_0, hL, k1, k5, hG⟩ := hI
  subst hG
  try simp only [go_sem, simprocAttr, h0, h1, h5, List.length_append, List.length_drop, List.length_cons, mrow_len] at hL
  clear h0 h1 h5
  have h0 := hL
  clear hL
  have h1 := k1
  clear k1
  have h5 := k5
  clear k5
  refine awl_seq ?_
  refine awl_seq ?_
  refine awl_regS _ rfl fun K hK => ?_
  try simp only [go_sem, simprocAttr, h0, h1, h5, List.length_append, List.length_drop, List.length_cons, mrow_len]
  repeat' (refine And.intro (by first | rfl | omega | (simp; done)) ?_)
  refine hK _ _ (.mk (awl_live' [0, 1, 5, 9] fun ρ hL => ?_))
  try simp only [go_sem, simprocAttr, h0, h1, h5, List.length_append, List.length_drop, List.length_cons, mrow_len] at hL
  try clear h0 h1 h5
  obtain ⟨h0, h1, h5, h9⟩ := hL
  clear hK K
  refine awl_cond h9 (fun c1 => ?_) (fun c1 => ?_)
  ·
   try simp only [cnd] at c1
   have hi1 : i < xs.length := by omega
   refine awl_skip ?_
   refine awl_seq ?_
   refine awl_block fun R1 hw1 hR1 => ?_
   refine awl_seq ?_
   obtain ⟨s, hs⟩ : ∃ s : Int, s = t + (6 * i : Nat) := ⟨_, rfl⟩
   rw [← hs] at h1
   have hd : rows (xs.drop i) = Enc.cells (xs.getD i noWord) ++ rows (xs.drop (i + 1)) := rows_split hi1
   rw [hd]
   have w1_ : IntKind.i64.wrap (s + 1) = s + 1 := wrap64 (by omega)
   have w2_ : IntKind.i64.wrap (s + 1 + 1) = s + 2 := by rw [wrap64 (by omega)]; omega
   have w3_ : IntKind.i64.wrap (s + 2 + 1) = s + 3 := by rw [wrap64 (by omega)]; omega
   have w4_ : IntKind.i64.wrap (s + 3 + 1) = s + 4 := by rw [wrap64 (by omega)]; omega
   have w5_ : IntKind.i64.wrap (s + 4 + 1) = s + 5 := by rw [wrap64 (by omega)]; omega
   have w6_ : IntKind.i64.wrap (s + 5 + 1) = s + 6 := by rw [wrap64 (by omega)]; omega
   refine awl_regS _ rfl fun K hK => ?_
   try simp only [go_sem, simprocAttr, h0, h1, h5, h9, hi1, List.length_append, List.length_drop, List.length_cons, mrow_len, w1_, w2_, w3_, w4_, w5_, w6_, putW0, putW1, putW2]
   repeat' (refine And.intro (by first | rfl | omega | (simp; done)) ?_)
   refine hK _ _ (.mk (awl_live' [0, 1, 5] fun ρ hL => ?_))
   try simp only [go_sem, simprocAttr, h0, h1, h5, h9, hi1, List.length_append, List.length_drop, List.length_cons, mrow_len, w1_, w2_, w3_, w4_, w5_, w6_, putW0, putW1, putW2] at hL
   try clear h0 h1 h5 h9
   obtain ⟨h0, h1, h5⟩ := hL
   clear hK K
   refine awl_seq ?_
   refine awl_regS _ rfl fun K hK => ?_
   try simp only [go_sem, simprocAttr, h0, h1, h5, hi1, List.length_append, List.length_drop, List.length_cons, mrow_len, w1_, w2_, w3_, w4_, w5_, w6_, putW0, putW1, putW2]
   repeat' (refine And.intro (by first | rfl | omega | (simp; done)) ?_)
   refine hK _ _ (.mk (awl_live' [0, 1, 5] fun ρ hL => ?_))
   try simp only [go_sem, simprocAttr, h0, h1, h5, hi1, List.length_append, List.length_drop, List.length_cons, mrow_len, w1_, w2_, w3_, w4_, w5_, w6_, putW0, putW1, putW2] at hL
   try clear h0 h1 h5
   obtain ⟨h0, h1, h5⟩ := hL
   clear hK K
   refine awl_seq ?_
   refine awl_regS _ rfl fun K hK => ?_
   try simp only [go_sem, simprocAttr, h0, h1, h5, hi1, List.length_append, List.length_drop, List.length_cons, mrow_len, w1_, w2_, w3_, w4_, w5_, w6_, putW0, putW1, putW2]
   repeat' (refine And.intro (by first | rfl | omega | (simp; done)) ?_)
   refine hK _ _ (.mk (awl_live' [0, 1, 5] fun ρ hL => ?_))
   try simp only [go_sem, simprocAttr, h0, h1, h5, hi1, List.length_append, List.length_drop, List.length_cons, mrow_len, w1_, w2_, w3_, w4_, w5_, w6_, putW0, putW1, putW2] at hL
   try clear h0 h1 h5
   obtain ⟨h0, h1, h5⟩ := hL
   clear hK K
   refine awl_seq ?_
   refine awl_regS _ rfl fun K hK => ?_
   try simp only [go_sem, simprocAttr, h0, h1, h5, hi1, List.length_append, List.length_drop, List.length_cons, mrow_len, w1_, w2_, w3_, w4_, w5_, w6_, putW0, putW1, putW2]
   repeat' (refine And.intro (by first | rfl | omega | (simp; done)) ?_)
   refine hK _ _ (.mk (awl_live' [0, 1, 5] fun ρ hL => ?_))
   try simp only [go_sem, simprocAttr, h0, h1, h5, hi1, List.length_append, List.length_drop, List.length_cons, mrow_len, w1_, w2_, w3_, w4_, w5_, w6_, putW0, putW1, putW2] at hL
   try clear h0 h1 h5
   obtain ⟨h0, h1, h5⟩ := hL
   clear hK K
   refine awl_seq ?_
   refine awl_regS _ rfl fun K hK => ?_
   try simp only [go_sem, simprocAttr, h0, h1, h5, hi1, List.length_append, List.length_drop, List.length_cons, mrow_len, w1_, w2_, w3_, w4_, w5_, w6_, putW0, putW1, putW2]
   repeat' (refine And.intro (by first | rfl | omega | (simp; done)) ?_)
   refine hK _ _ (.mk (awl_live' [0, 1, 5] fun ρ hL => ?_))
   try simp only [go_sem, simprocAttr, h0, h1, h5, hi1, List.length_append, List.length_drop, List.length_cons, mrow_len, w1_, w2_, w3_, w4_, w5_, w6_, putW0, putW1, putW2] at hL
   try clear h0 h1 h5
   obtain ⟨h0, h1, h5⟩ := hL
   clear hK K
   refine awl_seq ?_
   refine awl_regS _ rfl fun K hK => ?_
   try simp only [go_sem, simprocAttr, h0, h1, h5, hi1, List.length_append, List.length_drop, List.length_cons, mrow_len, w1_, w2_, w3_, w4_, w5_, w6_, putW0, putW1, putW2]
   repeat' (refine And.intro (by first | rfl | omega | (simp; done)) ?_)
   refine hK _ _ (.mk (awl_live' [0, 1, 5] fun ρ hL => ?_))
   try simp only [go_sem, simprocAttr, h0, h1, h5, hi1, List.length_append, List.length_drop, List.length_cons, mrow_len, w1_, w2_, w3_, w4_, w5_, w6_, putW0, putW1, putW2] at hL
   try clear h0 h1 h5
   obtain ⟨h0, h1, h5⟩ := hL
   clear hK K
   refine awl_seq ?_
   refine awl_regS _ rfl fun K hK => ?_
   try simp only [go_sem, simprocAttr, h0, h1, h5, hi1, List.length_append, List.length_drop, List.length_cons, mrow_len, w1_, w2_, w3_, w4_, w5_, w6_, putW0, putW1, putW2]
   repeat' (refine And.intro (by first | rfl | omega | (simp; done)) ?_)
   refine hK _ _ (.mk (awl_live' [0, 1, 5] fun ρ hL => ?_))
   try simp only [go_sem, simprocAttr, h0, h1, h5, hi1, List.length_append, List.length_drop, List.length_cons, mrow_len, w1_, w2_, w3_, w4_, w5_, w6_, putW0, putW1, putW2] at hL
   try clear h0 h1 h5
   obtain ⟨h0, h1, h5⟩ := hL
   clear hK K
   refine awl_seq ?_
   refine awl_regS _ rfl fun K hK => ?_
   try simp only [go_sem, simprocAttr, h0, h1, h5, hi1, List.length_append, List.length_drop, List.length_cons, mrow_len, w1_, w2_, w3_, w4_, w5_, w6_, putW0, putW1, putW2]
   repeat' (refine And.intro (by first | rfl | omega | (simp; done)) ?_)
   refine hK _ _ (.mk (awl_live' [0, 1, 5] fun ρ hL => ?_))
   try simp only [go_sem, simprocAttr, h0, h1, h5, hi1, List.length_append, List.length_drop, List.length_cons, mrow_len, w1_, w2_, w3_, w4_, w5_, w6_, putW0, putW1, putW2] at hL
   try clear h0 h1 h5
   obtain ⟨h0, h1, h5⟩ := hL
   clear hK K
   refine awl_seq ?_
   refine awl_regS _ rfl fun K hK => ?_
   try simp only [go_sem, simprocAttr, h0, h1, h5, hi1, List.length_append, List.length_drop, List.length_cons, mrow_len, w1_, w2_, w3_, w4_, w5_, w6_, putW0, putW1, putW2]
   repeat' (refine And.intro (by first | rfl | omega | (simp; done)) ?_)
   refine hK _ _ (.mk (awl_live' [0, 1, 5] fun ρ hL => ?_))
   try simp only [go_sem, simprocAttr, h0, h1, h5, hi1, List.length_append, List.length_drop, List.length_cons, mrow_len, w1_, w2_, w3_, w4_, w5_, w6_, putW0, putW1, putW2] at hL
   try clear h0 h1 h5
   obtain ⟨h0, h1, h5⟩ := hL
   clear hK K
   refine awl_seq ?_
   refine awl_regS _ rfl fun K hK => ?_
   try simp only [go_sem, simprocAttr, h0, h1, h5, hi1, List.length_append, List.length_drop, List.length_cons, mrow_len, w1_, w2_, w3_, w4_, w5_, w6_, putW0, putW1, putW2]
   repeat' (refine And.intro (by first | rfl | omega | (simp; done)) ?_)
   refine hK _ _ (.mk (awl_live' [0, 1, 5] fun ρ hL => ?_))
   try simp only [go_sem, simprocAttr, h0, h1, h5, hi1, List.length_append, List.length_drop, List.length_cons, mrow_len, w1_, w2_, w3_, w4_, w5_, w6_, putW0, putW1, putW2] at hL
   try clear h0 h1 h5
   obtain ⟨h0, h1, h5⟩ := hL
   clear hK K
   refine awl_seq ?_
   refine awl_regS _ rfl fun K hK => ?_
   try simp only [go_sem, simprocAttr, h0, h1, h5, hi1, List.length_append, List.length_drop, List.length_cons, mrow_len, w1_, w2_, w3_, w4_, w5_, w6_, putW0, putW1, putW2]
   repeat' (refine And.intro (by first | rfl | omega | (simp; done)) ?_)
   refine hK _ _ (.mk (awl_live' [0, 1, 5] fun ρ hL => ?_))
   try simp only [go_sem, simprocAttr, h0, h1, h5, hi1, List.length_append, List.length_drop, List.length_cons, mrow_len, w1_, w2_, w3_, w4_, w5_, w6_, putW0, putW1, putW2] at hL
   try clear h0 h1 h5
   obtain ⟨h0, h1, h5⟩ := hL
   clear hK K
   refine awl_regS _ rfl fun K hK => ?_
   try simp only [go_sem, simprocAttr, h0, h1, h5, hi1, List.length_append, List.length_drop, List.length_cons, mrow_len, w1_, w2_, w3_, w4_, w5_, w6_, putW0, putW1, putW2]
   repeat' (refine And.intro (by first | rfl | omega | (simp; done)) ?_)
   refine hK _ _ (.mk (awl_live' [0, 1, 5] fun ρ hL => ?_))
   try simp only [go_sem, simprocAttr, h0, h1, h5, hi1, List.length_append, List.length_drop, List.length_cons, mrow_len, w1_, w2_, w3_, w4_, w5_, w6_, putW0, putW1, putW2] at hL
   try clear h0 h1 h5
   obtain ⟨h0, h1, h5⟩ := hL
   clear hK K
   refine awl_nil ?_
   refine blk_normal (hR1 _ _ (.mk ?_))
   have w1 : IntKind.i64.wrap ((i : Int) + 1) = ((i + 1 : Nat) : Int) := by rw [wrap64 (by omega)]; omega
   refine awl_regS _ rfl fun K hK => ?_
   try simp only [go_sem, simprocAttr, h0, h1, h5, hi1, w1, List.length_append, List.length_drop, List.length_cons, mrow_len]
   repeat' (refine And.intro (by first | rfl | omega | (simp; done)) ?_)
   refine hK _ _ (.mk (awl_live' [0, 1, 5] fun ρ hL => ?_))
   try simp only [go_sem, simprocAttr, h0, h1, h5, hi1, w1, List.length_append, List.length_drop, List.length_cons, mrow_len] at hL
   try clear h0 h1 h5
   obtain ⟨h0, h1, h5⟩ := hL
   clear hK K
   refine awl_nil ?_
   refine loop_again _ ?meas ⟨i + 1, rfl, (by omega), (by simp only [go_sem, simprocAttr, h0, h1, h5, hi1, List.length_append, List.length_drop, List.length_cons, mrow_len, e1_0]), (by rw [h1]; congr 1; omega), (h5), congrArg (fun l => [(⟨6, l, true, false⟩ : Blk)]) (mrow_rows (f := markW) (s := 6) (xs := xs.drop (i + 1)) hs rfl)⟩
   case meas => subst hn; omega
  ·
   try simp only [cnd] at c1
   refine awl_exit ?_
   refine loop_break ?_
   exact ⟨(by simp only [go_sem, simprocAttr, h0, h1, h5, h9, List.length_append, List.length_drop, List.length_cons, mrow_len, e1_0]), (by rw [h1, show i = xs.length by omega]), by rw [show i = xs.length by omega, List.drop_length, rows_nil, List.append_nil]⟩
 case after1 =>
  obtain ⟨hL, k1, hG⟩ := hJ
  subst hG
  clear h0 h1 h5
  clear hL
  have h1 := k1
  clear k1
  refine awl_seq ?_
  refine awl_regS _ rfl fun K hK => ?_
  try simp only [go_sem, simprocAttr, h1, List.length_append, List.length_drop, List.length_cons, mrow_len]
  repeat' (refine And.intro (by first | rfl | omega | (simp; done)) ?_)
  refine hK _ _ (.mk (awl_live' [4] fun ρ hL => ?_))
  try simp only [go_sem, simprocAttr, h1, List.length_append, List.length_drop, List.length_cons, mrow_len] at hL
  try clear h1
  have h4 := hL
  clear hL
  clear hK K
  refine awl_ret ?_
  refine retK [] [0] rfl (by simp only [go_sem, simprocAttr, h4, List.length_append, List.length_drop, List.length_cons, mrow_len]; exact rfl) (by decide) (by first | rfl | (simp only [go_sem, simprocAttr, h4, List.length_append, List.length_drop, List.length_cons, mrow_len]; first | done | rfl)) (by first | rfl | (simp only [go_sem, simprocAttr, h4, List.length_append, List.length_drop, List.length_cons, mrow_len]; first | done | rfl)) ?_ ?_
  all_goals try simp only [go_sem, simprocAttr, h4, List.length_append, List.length_drop, List.length_cons, mrow_len]
  all_goals try clear hR1
  all_goals (first | done | rfl | (simp; done) | (simp [inR]; done) | (simp_all [inR]; done) | (simp [inR]; grind))
set_option maxHeartbeats 8000000 in
set_option maxRecDepth 100000 in
theorem sat_laws_heldWordS (z : Nat) (t : Int) (c : Nat) (hb : z ≤ 1099511627776) (ht : 0 ≤ t ∧ t ≤ 1099511627776) : Sat Tryz.prog 86 [.sl z c (rows (mrow markW 6 t z)), .int .i64 t] [] (.int .i64 (t + (6 * z : Nat))) [] := by
 refine sat_mk [.tmp 4] 0 73 Tryz.call86 Tryz.func86 Tryz.ntmps86 rfl rfl rfl rfl rfl ?_
 refine awl_live' [0, 1] fun ρ hL => ?_
 try simp only [go_sem, simprocAttr, mrow_len] at hL
 obtain ⟨h0, h1⟩ := hL
 refine awl_seq ?_
 refine awl_regS _ rfl fun K hK => ?_
 try simp only [go_sem, simprocAttr, h0, h1, mrow_len]
 repeat' (refine And.intro (by first | rfl | omega | (simp; done)) ?_)
 refine hK _ _ (.mk (awl_live' [0, 1] fun ρ hL => ?_))
 try simp only [go_sem, simprocAttr, h0, h1, mrow_len] at hL
 try clear h0 h1
 obtain ⟨h0, h1⟩ := hL
 clear hK K
 refine awl_seq ?_
 refine awl_seq ?_
 refine awl_regS _ rfl fun K hK => ?_
 try simp only [go_sem, simprocAttr, h0, h1, mrow_len]
 repeat' (refine And.intro (by first | rfl | omega | (simp; done)) ?_)
 refine hK _ _ (.mk (awl_live' [0, 1, 5] fun ρ hL => ?_))
 try simp only [go_sem, simprocAttr, h0, h1, mrow_len] at hL
 try clear h0 h1
 obtain ⟨h0, h1, h5⟩ := hL
 clear hK K
 have e1_0 := h0
 refine awl_loopH (fun H0 n σ G => ∃ (i : Nat), n = z - i ∧ (i ≤ z) ∧ liveE [0] σ ρ ∧ σ 1 = .int .i64 (t + (6 * i : Nat)) ∧ σ 5 = .int .i64 (i : Int) ∧ G = H0) (fun H0 σ G => liveE [] σ ρ ∧ σ 1 = .int .i64 (t + (6 * z : Nat)) ∧ G = H0) ((fun (i : Nat) => z - i) 0) ?init1 (fun n ρ G hI => ?round1) (fun ρ G hJ => ?after1)
 case init1 => exact ⟨0, rfl, (Nat.zero_le _), liveE_refl _ _, (by rw [h1]; simp), (h5), rfl⟩
 case round1 =>
  obtain ⟨i, hn, i1_0, hL, k1, k5, hG⟩ := hI
  subst hG
  try simp only [go_sem, simprocAttr, h0, h1, h5, mrow_len] at hL
  clear h0 h1 h5
  have h0 := hL
  clear hL
  have h1 := k1
  clear k1
  have h5 := k5
  clear k5
  refine awl_seq ?_
  refine awl_seq ?_
  refine awl_regS _ rfl fun K hK => ?_
  try simp only [go_sem, simprocAttr, h0, h1, h5, mrow_len]
  repeat' (refine And.intro (by first | rfl | omega | (simp; done)) ?_)
  refine hK _ _ (.mk (awl_live' [0, 1, 5, 9] fun ρ hL => ?_))
  try simp only [go_sem, simprocAttr, h0, h1, h5, mrow_len] at hL
  try clear h0 h1 h5
  obtain ⟨h0, h1, h5, h9⟩ := hL
  clear hK K
  refine awl_cond h9 (fun c1 => ?_) (fun c1 => ?_)
  ·
   try simp only [cnd] at c1
   have hi1 : i < z := by omega
   refine awl_skip ?_
   refine awl_seq ?_
   refine awl_block fun R1 hw1 hR1 => ?_
   refine awl_seq ?_
   refine awl_seq ?_
   obtain ⟨s, hs⟩ : ∃ s : Int, s = t + (6 * i : Nat) := ⟨_, rfl⟩
   rw [← hs] at h1
   have hm : (mrow markW 6 t z).getD i noWord = markW s := by rw [mrow_get hi1, hs]
   have w1_ : IntKind.i64.wrap (s + 1) = s + 1 := wrap64 (by omega)
   have w2_ : IntKind.i64.wrap (s + 1 + 1) = s + 2 := by rw [wrap64 (by omega)]; omega
   have w3_ : IntKind.i64.wrap (s + 2 + 1) = s + 3 := by rw [wrap64 (by omega)]; omega
   have w4_ : IntKind.i64.wrap (s + 3 + 1) = s + 4 := by rw [wrap64 (by omega)]; omega
   have w5_ : IntKind.i64.wrap (s + 4 + 1) = s + 5 := by rw [wrap64 (by omega)]; omega
   have w6_ : IntKind.i64.wrap (s + 5 + 1) = s + 6 := by rw [wrap64 (by omega)]; omega
   refine awl_regS _ rfl fun K hK => ?_
   try simp only [go_sem, simprocAttr, h0, h1, h5, h9, hi1, mrow_len, w1_, w2_, w3_, w4_, w5_, w6_, hm, markW, mk3]
   repeat' (refine And.intro (by first | rfl | omega | (simp; done)) ?_)
   refine hK _ _ (.mk (awl_live' [0, 1, 5, 18] fun ρ hL => ?_))
   try simp only [go_sem, simprocAttr, h0, h1, h5, h9, hi1, mrow_len, w1_, w2_, w3_, w4_, w5_, w6_, hm, markW, mk3] at hL
   try clear h0 h1 h5 h9
   obtain ⟨h0, h1, h5, h18⟩ := hL
   clear hK K
   refine awl_cond h18 (fun c2 => ?_) (fun c2 => ?_)
   ·
    try simp only [cnd] at c2
    simp at c2
   ·
    try simp only [cnd] at c2
    refine awl_skip ?_
    refine awl_seq ?_
    refine awl_regS _ rfl fun K hK => ?_
    try simp only [go_sem, simprocAttr, h0, h1, h5, h18, hi1, mrow_len, w1_, w2_, w3_, w4_, w5_, w6_, hm, markW, mk3]
    repeat' (refine And.intro (by first | rfl | omega | (simp; done)) ?_)
    refine hK _ _ (.mk (awl_live' [0, 1, 5] fun ρ hL => ?_))
    try simp only [go_sem, simprocAttr, h0, h1, h5, h18, hi1, mrow_len, w1_, w2_, w3_, w4_, w5_, w6_, hm, markW, mk3] at hL
    try clear h0 h1 h5 h18
    obtain ⟨h0, h1, h5⟩ := hL
    clear hK K
    refine awl_seq ?_
    refine awl_seq ?_
    refine awl_regS _ rfl fun K hK => ?_
    try simp only [go_sem, simprocAttr, h0, h1, h5, hi1, mrow_len, w1_, w2_, w3_, w4_, w5_, w6_, hm, markW, mk3]
    repeat' (refine And.intro (by first | rfl | omega | (simp; done)) ?_)
    refine hK _ _ (.mk (awl_live' [0, 1, 5, 29] fun ρ hL => ?_))
    try simp only [go_sem, simprocAttr, h0, h1, h5, hi1, mrow_len, w1_, w2_, w3_, w4_, w5_, w6_, hm, markW, mk3] at hL
    try clear h0 h1 h5
    obtain ⟨h0, h1, h5, h29⟩ := hL
    clear hK K
    refine awl_cond h29 (fun c3 => ?_) (fun c3 => ?_)
    ·
     try simp only [cnd] at c3
     simp at c3
    ·
     try simp only [cnd] at c3
     refine awl_skip ?_
     refine awl_seq ?_
     refine awl_regS _ rfl fun K hK => ?_
     try simp only [go_sem, simprocAttr, h0, h1, h5, h29, hi1, mrow_len, w1_, w2_, w3_, w4_, w5_, w6_, hm, markW, mk3]
     repeat' (refine And.intro (by first | rfl | omega | (simp; done)) ?_)
     refine hK _ _ (.mk (awl_live' [0, 1, 5] fun ρ hL => ?_))
     try simp only [go_sem, simprocAttr, h0, h1, h5, h29, hi1, mrow_len, w1_, w2_, w3_, w4_, w5_, w6_, hm, markW, mk3] at hL
     try clear h0 h1 h5 h29
     obtain ⟨h0, h1, h5⟩ := hL
     clear hK K
     refine awl_seq ?_
     refine awl_seq ?_
     refine awl_regS _ rfl fun K hK => ?_
     try simp only [go_sem, simprocAttr, h0, h1, h5, hi1, mrow_len, w1_, w2_, w3_, w4_, w5_, w6_, hm, markW, mk3]
     repeat' (refine And.intro (by first | rfl | omega | (simp; done)) ?_)
     refine hK _ _ (.mk (awl_live' [0, 1, 5, 39] fun ρ hL => ?_))
     try simp only [go_sem, simprocAttr, h0, h1, h5, hi1, mrow_len, w1_, w2_, w3_, w4_, w5_, w6_, hm, markW, mk3] at hL
     try clear h0 h1 h5
     obtain ⟨h0, h1, h5, h39⟩ := hL
     clear hK K
     refine awl_cond h39 (fun c4 => ?_) (fun c4 => ?_)
     ·
      try simp only [cnd] at c4
      simp at c4
     ·
      try simp only [cnd] at c4
      refine awl_skip ?_
      refine awl_seq ?_
      refine awl_regS _ rfl fun K hK => ?_
      try simp only [go_sem, simprocAttr, h0, h1, h5, h39, hi1, mrow_len, w1_, w2_, w3_, w4_, w5_, w6_, hm, markW, mk3]
      repeat' (refine And.intro (by first | rfl | omega | (simp; done)) ?_)
      refine hK _ _ (.mk (awl_live' [0, 1, 5] fun ρ hL => ?_))
      try simp only [go_sem, simprocAttr, h0, h1, h5, h39, hi1, mrow_len, w1_, w2_, w3_, w4_, w5_, w6_, hm, markW, mk3] at hL
      try clear h0 h1 h5 h39
      obtain ⟨h0, h1, h5⟩ := hL
      clear hK K
      refine awl_seq ?_
      refine awl_seq ?_
      refine awl_regS _ rfl fun K hK => ?_
      try simp only [go_sem, simprocAttr, h0, h1, h5, hi1, mrow_len, w1_, w2_, w3_, w4_, w5_, w6_, hm, markW, mk3]
      repeat' (refine And.intro (by first | rfl | omega | (simp; done)) ?_)
      refine hK _ _ (.mk (awl_live' [0, 1, 5, 49] fun ρ hL => ?_))
      try simp only [go_sem, simprocAttr, h0, h1, h5, hi1, mrow_len, w1_, w2_, w3_, w4_, w5_, w6_, hm, markW, mk3] at hL
      try clear h0 h1 h5
      obtain ⟨h0, h1, h5, h49⟩ := hL
      clear hK K
      refine awl_cond h49 (fun c5 => ?_) (fun c5 => ?_)
      ·
       try simp only [cnd] at c5
       simp at c5
      ·
       try simp only [cnd] at c5
       refine awl_skip ?_
       refine awl_seq ?_
       refine awl_regS _ rfl fun K hK => ?_
       try simp only [go_sem, simprocAttr, h0, h1, h5, h49, hi1, mrow_len, w1_, w2_, w3_, w4_, w5_, w6_, hm, markW, mk3]
       repeat' (refine And.intro (by first | rfl | omega | (simp; done)) ?_)
       refine hK _ _ (.mk (awl_live' [0, 1, 5] fun ρ hL => ?_))
       try simp only [go_sem, simprocAttr, h0, h1, h5, h49, hi1, mrow_len, w1_, w2_, w3_, w4_, w5_, w6_, hm, markW, mk3] at hL
       try clear h0 h1 h5 h49
       obtain ⟨h0, h1, h5⟩ := hL
       clear hK K
       refine awl_seq ?_
       refine awl_seq ?_
       refine awl_regS _ rfl fun K hK => ?_
       try simp only [go_sem, simprocAttr, h0, h1, h5, hi1, mrow_len, w1_, w2_, w3_, w4_, w5_, w6_, hm, markW, mk3]
       repeat' (refine And.intro (by first | rfl | omega | (simp; done)) ?_)
       refine hK _ _ (.mk (awl_live' [0, 1, 5, 59] fun ρ hL => ?_))
       try simp only [go_sem, simprocAttr, h0, h1, h5, hi1, mrow_len, w1_, w2_, w3_, w4_, w5_, w6_, hm, markW, mk3] at hL
       try clear h0 h1 h5
       obtain ⟨h0, h1, h5, h59⟩ := hL
       clear hK K
       refine awl_cond h59 (fun c6 => ?_) (fun c6 => ?_)
       ·
        try simp only [cnd] at c6
        simp at c6
       ·
        try simp only [cnd] at c6
        refine awl_skip ?_
        refine awl_seq ?_
        refine awl_regS _ rfl fun K hK => ?_
        try simp only [go_sem, simprocAttr, h0, h1, h5, h59, hi1, mrow_len, w1_, w2_, w3_, w4_, w5_, w6_, hm, markW, mk3]
        repeat' (refine And.intro (by first | rfl | omega | (simp; done)) ?_)
        refine hK _ _ (.mk (awl_live' [0, 1, 5] fun ρ hL => ?_))
        try simp only [go_sem, simprocAttr, h0, h1, h5, h59, hi1, mrow_len, w1_, w2_, w3_, w4_, w5_, w6_, hm, markW, mk3] at hL
        try clear h0 h1 h5 h59
        obtain ⟨h0, h1, h5⟩ := hL
        clear hK K
        refine awl_seq ?_
        refine awl_seq ?_
        refine awl_regS _ rfl fun K hK => ?_
        try simp only [go_sem, simprocAttr, h0, h1, h5, hi1, mrow_len, w1_, w2_, w3_, w4_, w5_, w6_, hm, markW, mk3]
        repeat' (refine And.intro (by first | rfl | omega | (simp; done)) ?_)
        refine hK _ _ (.mk (awl_live' [0, 1, 5, 69] fun ρ hL => ?_))
        try simp only [go_sem, simprocAttr, h0, h1, h5, hi1, mrow_len, w1_, w2_, w3_, w4_, w5_, w6_, hm, markW, mk3] at hL
        try clear h0 h1 h5
        obtain ⟨h0, h1, h5, h69⟩ := hL
        clear hK K
        refine awl_cond h69 (fun c7 => ?_) (fun c7 => ?_)
        ·
         try simp only [cnd] at c7
         simp at c7
        ·
         try simp only [cnd] at c7
         refine awl_skip ?_
         refine awl_regS _ rfl fun K hK => ?_
         try simp only [go_sem, simprocAttr, h0, h1, h5, h69, hi1, mrow_len, w1_, w2_, w3_, w4_, w5_, w6_, hm, markW, mk3]
         repeat' (refine And.intro (by first | rfl | omega | (simp; done)) ?_)
         refine hK _ _ (.mk (awl_live' [0, 1, 5] fun ρ hL => ?_))
         try simp only [go_sem, simprocAttr, h0, h1, h5, h69, hi1, mrow_len, w1_, w2_, w3_, w4_, w5_, w6_, hm, markW, mk3] at hL
         try clear h0 h1 h5 h69
         obtain ⟨h0, h1, h5⟩ := hL
         clear hK K
         refine awl_nil ?_
         refine blk_normal (hR1 _ _ (.mk ?_))
         have w1 : IntKind.i64.wrap ((i : Int) + 1) = ((i + 1 : Nat) : Int) := by rw [wrap64 (by omega)]; omega
         refine awl_regS _ rfl fun K hK => ?_
         try simp only [go_sem, simprocAttr, h0, h1, h5, hi1, w1, mrow_len]
         repeat' (refine And.intro (by first | rfl | omega | (simp; done)) ?_)
         refine hK _ _ (.mk (awl_live' [0, 1, 5] fun ρ hL => ?_))
         try simp only [go_sem, simprocAttr, h0, h1, h5, hi1, w1, mrow_len] at hL
         try clear h0 h1 h5
         obtain ⟨h0, h1, h5⟩ := hL
         clear hK K
         refine awl_nil ?_
         refine loop_again _ ?meas ⟨i + 1, rfl, (by omega), (by simp only [go_sem, simprocAttr, h0, h1, h5, hi1, mrow_len, e1_0]), (by rw [h1]; congr 1; omega), (h5), rfl⟩
         case meas => subst hn; omega
  ·
   try simp only [cnd] at c1
   refine awl_exit ?_
   refine loop_break ?_
   exact ⟨(by simp only [go_sem, simprocAttr, h0, h1, h5, h9, mrow_len, e1_0]), (by rw [h1, show i = z by omega]), rfl⟩
 case after1 =>
  obtain ⟨hL, k1, hG⟩ := hJ
  subst hG
  clear h0 h1 h5
  clear hL
  have h1 := k1
  clear k1
  refine awl_seq ?_
  refine awl_regS _ rfl fun K hK => ?_
  try simp only [go_sem, simprocAttr, h1, mrow_len]
  repeat' (refine And.intro (by first | rfl | omega | (simp; done)) ?_)
  refine hK _ _ (.mk (awl_live' [4] fun ρ hL => ?_))
  try simp only [go_sem, simprocAttr, h1, mrow_len] at hL
  try clear h1
  have h4 := hL
  clear hL
  clear hK K
  refine awl_ret ?_
  refine ret0 (by simp only [go_sem, simprocAttr, h4, mrow_len]; exact rfl) ?_
  try simp only [go_sem, simprocAttr]
  all_goals try clear hR1
  all_goals (first | done | rfl | (simp; done) | (simp [inR]; done) | (simp_all [inR]; done) | (simp [inR]; grind))
set_option maxHeartbeats 8000000 in
set_option maxRecDepth 100000 in
theorem sat_laws_markBoolS (xs : List Bool) (t : Int) (c : Nat) (hb : xs.length ≤ 1099511627776) (ht : 0 ≤ t ∧ t ≤ 1099511627776) : Sat Tryz.prog 114 [.slice 0 0 xs.length c, .int .i64 t] [⟨1, rows xs, true, false⟩] (.int .i64 (t + (xs.length : Nat))) [⟨1, rows (mrow mk3 1 t xs.length), true, false⟩] := by
 refine sat_mk [.tmp 4] 1 21 Tryz.call114 Tryz.func114 Tryz.ntmps114 rfl rfl rfl rfl rfl ?_
 refine awl_live' [0, 1] fun ρ hL => ?_
 try simp only [go_sem, simprocAttr, List.length_append, List.length_drop, List.length_cons, mrow_len] at hL
 obtain ⟨h0, h1⟩ := hL
 refine awl_seq ?_
 refine awl_regS _ rfl fun K hK => ?_
 try simp only [go_sem, simprocAttr, h0, h1, List.length_append, List.length_drop, List.length_cons, mrow_len]
 repeat' (refine And.intro (by first | rfl | omega | (simp; done)) ?_)
 refine hK _ _ (.mk (awl_live' [0, 1] fun ρ hL => ?_))
 try simp only [go_sem, simprocAttr, h0, h1, List.length_append, List.length_drop, List.length_cons, mrow_len] at hL
 try clear h0 h1
 obtain ⟨h0, h1⟩ := hL
 clear hK K
 refine awl_seq ?_
 refine awl_seq ?_
 refine awl_regS _ rfl fun K hK => ?_
 try simp only [go_sem, simprocAttr, h0, h1, List.length_append, List.length_drop, List.length_cons, mrow_len]
 repeat' (refine And.intro (by first | rfl | omega | (simp; done)) ?_)
 refine hK _ _ (.mk (awl_live' [0, 1, 5] fun ρ hL => ?_))
 try simp only [go_sem, simprocAttr, h0, h1, List.length_append, List.length_drop, List.length_cons, mrow_len] at hL
 try clear h0 h1
 obtain ⟨h0, h1, h5⟩ := hL
 clear hK K
 have e1_0 := h0
 refine awl_loopH (fun H0 n σ G => ∃ (i : Nat), n = xs.length - i ∧ (i ≤ xs.length) ∧ liveE [0] σ ρ ∧ σ 1 = .int .i64 (t + (i : Nat)) ∧ σ 5 = .int .i64 (i : Int) ∧ G = [⟨1, rows (mrow mk3 1 t i) ++ rows (xs.drop i), true, false⟩]) (fun H0 σ G => liveE [] σ ρ ∧ σ 1 = .int .i64 (t + (xs.length : Nat)) ∧ G = [⟨1, rows (mrow mk3 1 t xs.length), true, false⟩]) ((fun (i : Nat) => xs.length - i) 0) ?init1 (fun n ρ G hI => ?round1) (fun ρ G hJ => ?after1)
 case init1 => exact ⟨0, rfl, (Nat.zero_le _), liveE_refl _ _, (by rw [h1]; simp), (h5), rfl⟩
 case round1 =>
  obtain ⟨i, hn, i1_0, hL, k1, k5, hG⟩ := hI
  subst hG
  try simp only [go_sem, simprocAttr, h0, h1, h5, List.length_append, List.length_drop, List.length_cons, mrow_len] at hL
  clear h0 h1 h5
  have h0 := hL
  clear hL
  have h1 := k1
  clear k1
  have h5 := k5
  clear k5
  refine awl_seq ?_
  refine awl_seq ?_
  refine awl_regS _ rfl fun K hK => ?_
  try simp only [go_sem, simprocAttr, h0, h1, h5, List.length_append, List.length_drop, List.length_cons, mrow_len]
  repeat' (refine And.intro (by first | rfl | omega | (simp; done)) ?_)
  refine hK _ _ (.mk (awl_live' [0, 1, 5, 9] fun ρ hL => ?_))
  try simp only [go_sem, simprocAttr, h0, h1, h5, List.length_append, List.length_drop, List.length_cons, mrow_len] at hL
  try clear h0 h1 h5
  obtain ⟨h0, h1, h5, h9⟩ := hL
  clear hK K
  refine awl_cond h9 (fun c1 => ?_) (fun c1 => ?_)
  ·
   try simp only [cnd] at c1
   have hi1 : i < xs.length := by omega
   refine awl_skip ?_
   refine awl_seq ?_
   refine awl_block fun R1 hw1 hR1 => ?_
   refine awl_seq ?_
   obtain ⟨s, hs⟩ : ∃ s : Int, s = t + (i : Nat) := ⟨_, rfl⟩
   rw [← hs] at h1
   have hd : rows (xs.drop i) = Enc.cells (xs.getD i false) ++ rows (xs.drop (i + 1)) := rows_split hi1
   rw [hd]
   have w1_ : IntKind.i64.wrap (s + 1) = s + 1 := wrap64 (by omega)
   refine awl_regS _ rfl fun K hK => ?_
   try simp only [go_sem, simprocAttr, h0, h1, h5, h9, hi1, List.length_append, List.length_drop, List.length_cons, mrow_len, w1_, putB0]
   repeat' (refine And.intro (by first | rfl | omega | (simp; done)) ?_)
   refine hK _ _ (.mk (awl_live' [0, 1, 5] fun ρ hL => ?_))
   try simp only [go_sem, simprocAttr, h0, h1, h5, h9, hi1, List.length_append, List.length_drop, List.length_cons, mrow_len, w1_, putB0] at hL
   try clear h0 h1 h5 h9
   obtain ⟨h0, h1, h5⟩ := hL
   clear hK K
   refine awl_regS _ rfl fun K hK => ?_
   try simp only [go_sem, simprocAttr, h0, h1, h5, hi1, List.length_append, List.length_drop, List.length_cons, mrow_len, w1_, putB0]
   repeat' (refine And.intro (by first | rfl | omega | (simp; done)) ?_)
   refine hK _ _ (.mk (awl_live' [0, 1, 5] fun ρ hL => ?_))
   try simp only [go_sem, simprocAttr, h0, h1, h5, hi1, List.length_append, List.length_drop, List.length_cons, mrow_len, w1_, putB0] at hL
   try clear h0 h1 h5
   obtain ⟨h0, h1, h5⟩ := hL
   clear hK K
   refine awl_nil ?_
   refine blk_normal (hR1 _ _ (.mk ?_))
   have w1 : IntKind.i64.wrap ((i : Int) + 1) = ((i + 1 : Nat) : Int) := by rw [wrap64 (by omega)]; omega
   refine awl_regS _ rfl fun K hK => ?_
   try simp only [go_sem, simprocAttr, h0, h1, h5, hi1, w1, List.length_append, List.length_drop, List.length_cons, mrow_len]
   repeat' (refine And.intro (by first | rfl | omega | (simp; done)) ?_)
   refine hK _ _ (.mk (awl_live' [0, 1, 5] fun ρ hL => ?_))
   try simp only [go_sem, simprocAttr, h0, h1, h5, hi1, w1, List.length_append, List.length_drop, List.length_cons, mrow_len] at hL
   try clear h0 h1 h5
   obtain ⟨h0, h1, h5⟩ := hL
   clear hK K
   refine awl_nil ?_
   refine loop_again _ ?meas ⟨i + 1, rfl, (by omega), (by simp only [go_sem, simprocAttr, h0, h1, h5, hi1, List.length_append, List.length_drop, List.length_cons, mrow_len, e1_0]), (by rw [h1]; congr 1; omega), (h5), congrArg (fun l => [(⟨1, l, true, false⟩ : Blk)]) (mrow_rows (f := mk3) (s := 1) (xs := xs.drop (i + 1)) (by rw [hs, Nat.one_mul]) rfl)⟩
   case meas => subst hn; omega
  ·
   try simp only [cnd] at c1
   refine awl_exit ?_
   refine loop_break ?_
   exact ⟨(by simp only [go_sem, simprocAttr, h0, h1, h5, h9, List.length_append, List.length_drop, List.length_cons, mrow_len, e1_0]), (by rw [h1, show i = xs.length by omega]), by rw [show i = xs.length by omega, List.drop_length, rows_nil, List.append_nil]⟩
 case after1 =>
  obtain ⟨hL, k1, hG⟩ := hJ
  subst hG
  clear h0 h1 h5
  clear hL
  have h1 := k1
  clear k1
  refine awl_seq ?_
  refine awl_regS _ rfl fun K hK => ?_
  try simp only [go_sem, simprocAttr, h1, List.length_append, List.length_drop, List.length_cons, mrow_len]
  repeat' (refine And.intro (by first | rfl | omega | (simp; done)) ?_)
  refine hK _ _ (.mk (awl_live' [4] fun ρ hL => ?_))
  try simp only [go_sem, simprocAttr, h1, List.length_append, List.length_drop, List.length_cons, mrow_len] at hL
  try clear h1
  have h4 := hL
  clear hL
  clear hK K
  refine awl_ret ?_
  refine retK [] [0] rfl (by simp only [go_sem, simprocAttr, h4, List.length_append, List.length_drop, List.length_cons, mrow_len]; exact rfl) (by decide) (by first | rfl | (simp only [go_sem, simprocAttr, h4, List.length_append, List.length_drop, List.length_cons, mrow_len]; first | done | rfl)) (by first | rfl | (simp only [go_sem, simprocAttr, h4, List.length_append, List.length_drop, List.length_cons, mrow_len]; first | done | rfl)) ?_ ?_
  all_goals try simp only [go_sem, simprocAttr, h4, List.length_append, List.length_drop, List.length_cons, mrow_len]
  all_goals try clear hR1
  all_goals (first | done | rfl | (simp; done) | (simp [inR]; done) | (simp_all [inR]; done) | (simp [inR]; grind))
set_option maxHeartbeats 8000000 in
set_option maxRecDepth 100000 in
theorem sat_laws_heldBoolS (z : Nat) (t : Int) (c : Nat) (hb : z ≤ 1099511627776) (ht : 0 ≤ t ∧ t ≤ 1099511627776) : Sat Tryz.prog 115 [.sl z c (rows (mrow mk3 1 t z)), .int .i64 t] [] (.int .i64 (t + (z : Nat))) [] := by
 refine sat_mk [.tmp 4] 0 23 Tryz.call115 Tryz.func115 Tryz.ntmps115 rfl rfl rfl rfl rfl ?_
 refine awl_live' [0, 1] fun ρ hL => ?_
 try simp only [go_sem, simprocAttr, mrow_len] at hL
 obtain ⟨h0, h1⟩ := hL
 refine awl_seq ?_
 refine awl_regS _ rfl fun K hK => ?_
 try simp only [go_sem, simprocAttr, h0, h1, mrow_len]
 repeat' (refine And.intro (by first | rfl | omega | (simp; done)) ?_)
 refine hK _ _ (.mk (awl_live' [0, 1] fun ρ hL => ?_))
 try simp only [go_sem, simprocAttr, h0, h1, mrow_len] at hL
 try clear h0 h1
 obtain ⟨h0, h1⟩ := hL
 clear hK K
 refine awl_seq ?_
 refine awl_seq ?_
 refine awl_regS _ rfl fun K hK => ?_
 try simp only [go_sem, simprocAttr, h0, h1, mrow_len]
 repeat' (refine And.intro (by first | rfl | omega | (simp; done)) ?_)
 refine hK _ _ (.mk (awl_live' [0, 1, 5] fun ρ hL => ?_))
 try simp only [go_sem, simprocAttr, h0, h1, mrow_len] at hL
 try clear h0 h1
 obtain ⟨h0, h1, h5⟩ := hL
 clear hK K
 have e1_0 := h0
 refine awl_loopH (fun H0 n σ G => ∃ (i : Nat), n = z - i ∧ (i ≤ z) ∧ liveE [0] σ ρ ∧ σ 1 = .int .i64 (t + (i : Nat)) ∧ σ 5 = .int .i64 (i : Int) ∧ G = H0) (fun H0 σ G => liveE [] σ ρ ∧ σ 1 = .int .i64 (t + (z : Nat)) ∧ G = H0) ((fun (i : Nat) => z - i) 0) ?init1 (fun n ρ G hI => ?round1) (fun ρ G hJ => ?after1)
 case init1 => exact ⟨0, rfl, (Nat.zero_le _), liveE_refl _ _, (by rw [h1]; simp), (h5), rfl⟩
 case round1 =>
  obtain ⟨i, hn, i1_0, hL, k1, k5, hG⟩ := hI
  subst hG
  try simp only [go_sem, simprocAttr, h0, h1, h5, mrow_len] at hL
  clear h0 h1 h5
  have h0 := hL
  clear hL
  have h1 := k1
  clear k1
  have h5 := k5
  clear k5
  refine awl_seq ?_
  refine awl_seq ?_
  refine awl_regS _ rfl fun K hK => ?_
  try simp only [go_sem, simprocAttr, h0, h1, h5, mrow_len]
  repeat' (refine And.intro (by first | rfl | omega | (simp; done)) ?_)
  refine hK _ _ (.mk (awl_live' [0, 1, 5, 9] fun ρ hL => ?_))
  try simp only [go_sem, simprocAttr, h0, h1, h5, mrow_len] at hL
  try clear h0 h1 h5
  obtain ⟨h0, h1, h5, h9⟩ := hL
  clear hK K
  refine awl_cond h9 (fun c1 => ?_) (fun c1 => ?_)
  ·
   try simp only [cnd] at c1
   have hi1 : i < z := by omega
   refine awl_skip ?_
   refine awl_seq ?_
   refine awl_block fun R1 hw1 hR1 => ?_
   refine awl_seq ?_
   refine awl_seq ?_
   obtain ⟨s, hs⟩ : ∃ s : Int, s = t + (i : Nat) := ⟨_, rfl⟩
   rw [← hs] at h1
   have hm : (mrow mk3 1 t z).getD i false = mk3 s := by rw [mrow_get hi1, Nat.one_mul, hs]
   have w1_ : IntKind.i64.wrap (s + 1) = s + 1 := wrap64 (by omega)
   refine awl_regS _ rfl fun K hK => ?_
   try simp only [go_sem, simprocAttr, h0, h1, h5, h9, hi1, mrow_len, w1_, hm, mk3]
   repeat' (refine And.intro (by first | rfl | omega | (simp; done)) ?_)
   refine hK _ _ (.mk (awl_live' [0, 1, 5, 19] fun ρ hL => ?_))
   try simp only [go_sem, simprocAttr, h0, h1, h5, h9, hi1, mrow_len, w1_, hm, mk3] at hL
   try clear h0 h1 h5 h9
   obtain ⟨h0, h1, h5, h19⟩ := hL
   clear hK K
   refine awl_cond h19 (fun c2 => ?_) (fun c2 => ?_)
   ·
    try simp only [cnd] at c2
    simp at c2
   ·
    try simp only [cnd] at c2
    refine awl_skip ?_
    refine awl_regS _ rfl fun K hK => ?_
    try simp only [go_sem, simprocAttr, h0, h1, h5, h19, hi1, mrow_len, w1_, hm, mk3]
    repeat' (refine And.intro (by first | rfl | omega | (simp; done)) ?_)
    refine hK _ _ (.mk (awl_live' [0, 1, 5] fun ρ hL => ?_))
    try simp only [go_sem, simprocAttr, h0, h1, h5, h19, hi1, mrow_len, w1_, hm, mk3] at hL
    try clear h0 h1 h5 h19
    obtain ⟨h0, h1, h5⟩ := hL
    clear hK K
    refine awl_nil ?_
    refine blk_normal (hR1 _ _ (.mk ?_))
    have w1 : IntKind.i64.wrap ((i : Int) + 1) = ((i + 1 : Nat) : Int) := by rw [wrap64 (by omega)]; omega
    refine awl_regS _ rfl fun K hK => ?_
    try simp only [go_sem, simprocAttr, h0, h1, h5, hi1, w1, mrow_len]
    repeat' (refine And.intro (by first | rfl | omega | (simp; done)) ?_)
    refine hK _ _ (.mk (awl_live' [0, 1, 5] fun ρ hL => ?_))
    try simp only [go_sem, simprocAttr, h0, h1, h5, hi1, w1, mrow_len] at hL
    try clear h0 h1 h5
    obtain ⟨h0, h1, h5⟩ := hL
    clear hK K
    refine awl_nil ?_
    refine loop_again _ ?meas ⟨i + 1, rfl, (by omega), (by simp only [go_sem, simprocAttr, h0, h1, h5, hi1, mrow_len, e1_0]), (by rw [h1]; congr 1; omega), (h5), rfl⟩
    case meas => subst hn; omega
  ·
   try simp only [cnd] at c1
   refine awl_exit ?_
   refine loop_break ?_
   exact ⟨(by simp only [go_sem, simprocAttr, h0, h1, h5, h9, mrow_len, e1_0]), (by rw [h1, show i = z by omega]), rfl⟩
 case after1 =>
  obtain ⟨hL, k1, hG⟩ := hJ
  subst hG
  clear h0 h1 h5
  clear hL
  have h1 := k1
  clear k1
  refine awl_seq ?_
  refine awl_regS _ rfl fun K hK => ?_
  try simp only [go_sem, simprocAttr, h1, mrow_len]
  repeat' (refine And.intro (by first | rfl | omega | (simp; done)) ?_)
  refine hK _ _ (.mk (awl_live' [4] fun ρ hL => ?_))
  try simp only [go_sem, simprocAttr, h1, mrow_len] at hL
  try clear h1
  have h4 := hL
  clear hL
  clear hK K
  refine awl_ret ?_
  refine ret0 (by simp only [go_sem, simprocAttr, h4, mrow_len]; exact rfl) ?_
  try simp only [go_sem, simprocAttr]
  all_goals try clear hR1
  all_goals (first | done | rfl | (simp; done) | (simp [inR]; done) | (simp_all [inR]; done) | (simp [inR]; grind))
set_option maxHeartbeats 8000000 in
set_option maxRecDepth 100000 in
theorem sat_laws_markInsS (xs : List Ins) (t : Int) (c : Nat) (hb : xs.length ≤ 1099511627776) (ht : 0 ≤ t ∧ t ≤ 1099511627776) : Sat Tryz.prog 13 [.slice 0 0 xs.length c, .int .i64 t] [⟨5, rows xs, true, false⟩] (.int .i64 (t + (5 * xs.length : Nat))) [⟨5, rows (mrow markI 5 t xs.length), true, false⟩] := by
 refine sat_mk [.tmp 4] 1 48 Tryz.call13 Tryz.func13 Tryz.ntmps13 rfl rfl rfl rfl rfl ?_
 refine awl_live' [0, 1] fun ρ hL => ?_
 try simp only [go_sem, simprocAttr, List.length_append, List.length_drop, List.length_cons, mrow_len] at hL
 obtain ⟨h0, h1⟩ := hL
 refine awl_seq ?_
 refine awl_regS _ rfl fun K hK => ?_
 try simp only [go_sem, simprocAttr, h0, h1, List.length_append, List.length_drop, List.length_cons, mrow_len]
 repeat' (refine And.intro (by first | rfl | omega | (simp; done)) ?_)
 refine hK _ _ (.mk (awl_live' [0, 1] fun ρ hL => ?_))
 try simp only [go_sem, simprocAttr, h0, h1, List.length_append, List.length_drop, List.length_cons, mrow_len] at hL
 try clear h0 h1
 obtain ⟨h0, h1⟩ := hL
 clear hK K
 refine awl_seq ?_
 refine awl_seq ?_
 refine awl_regS _ rfl fun K hK => ?_
 try simp only [go_sem, simprocAttr, h0, h1, List.length_append, List.length_drop, List.length_cons, mrow_len]
 repeat' (refine And.intro (by first | rfl | omega | (simp; done)) ?_)
 refine hK _ _ (.mk (awl_live' [0, 1, 5] fun ρ hL => ?_))
 try simp only [go_sem, simprocAttr, h0, h1, List.length_append, List.length_drop, List.length_cons, mrow_len] at hL
 try clear h0 h1
 obtain ⟨h0, h1, h5⟩ := hL
 clear hK K
 have e1_0 := h0
 refine awl_loopH (fun H0 n σ G => ∃ (i : Nat), n = xs.length - i ∧ (i ≤ xs.length) ∧ liveE [0] σ ρ ∧ σ 1 = .int .i64 (t + (5 * i : Nat)) ∧ σ 5 = .int .i64 (i : Int) ∧ G = [⟨5, rows (mrow markI 5 t i) ++ rows (xs.drop i), true, false⟩]) (fun H0 σ G => liveE [] σ ρ ∧ σ 1 = .int .i64 (t + (5 * xs.length : Nat)) ∧ G = [⟨5, rows (mrow markI 5 t xs.length), true, false⟩]) ((fun (i : Nat) => xs.length - i) 0) ?init1 (fun n ρ G hI => ?round1) (fun ρ G hJ => ?after1)
 case init1 => exact ⟨0, rfl, (Nat.zero_le _), liveE_refl _ _, (by rw [h1]; simp), (h5), rfl⟩
 case round1 =>
  obtain ⟨i, hn, i1_0, hL, k1, k5, hG⟩ := hI
  subst hG
  try simp only [go_sem, simprocAttr, h0, h1, h5, List.length_append, List.length_drop, List.length_cons, mrow_len] at hL
  clear h0 h1 h5
  have h0 := hL
  clear hL
  have h1 := k1
  clear k1
  have h5 := k5
  clear k5
  refine awl_seq ?_
  refine awl_seq ?_
  refine awl_regS _ rfl fun K hK => ?_
  try simp only [go_sem, simprocAttr, h0, h1, h5, List.length_append, List.length_drop, List.length_cons, mrow_len]
  repeat' (refine And.intro (by first | rfl | omega | (simp; done)) ?_)
  refine hK _ _ (.mk (awl_live' [0, 1, 5, 9] fun ρ hL => ?_))
  try simp only [go_sem, simprocAttr, h0, h1, h5, List.length_append, List.length_drop, List.length_cons, mrow_len] at hL
  try clear h0 h1 h5
  obtain ⟨h0, h1, h5, h9⟩ := hL
  clear hK K
  refine awl_cond h9 (fun c1 => ?_) (fun c1 => ?_)
  ·
   try simp only [cnd] at c1
   have hi1 : i < xs.length := by omega
   refine awl_skip ?_
   refine awl_seq ?_
   refine awl_block fun R1 hw1 hR1 => ?_
   refine awl_seq ?_
   obtain ⟨s, hs⟩ : ∃ s : Int, s = t + (5 * i : Nat) := ⟨_, rfl⟩
   rw [← hs] at h1
   have hd : rows (xs.drop i) = Enc.cells (xs.getD i noIns) ++ rows (xs.drop (i + 1)) := rows_split hi1
   rw [hd]
   have w1_ : IntKind.i64.wrap (s + 1) = s + 1 := wrap64 (by omega)
   have w2_ : IntKind.i64.wrap (s + 1 + 1) = s + 2 := by rw [wrap64 (by omega)]; omega
   have w3_ : IntKind.i64.wrap (s + 2 + 1) = s + 3 := by rw [wrap64 (by omega)]; omega
   have w4_ : IntKind.i64.wrap (s + 3 + 1) = s + 4 := by rw [wrap64 (by omega)]; omega
   have w5_ : IntKind.i64.wrap (s + 4 + 1) = s + 5 := by rw [wrap64 (by omega)]; omega
   refine awl_regS _ rfl fun K hK => ?_
   try simp only [go_sem, simprocAttr, h0, h1, h5, h9, hi1, List.length_append, List.length_drop, List.length_cons, mrow_len, w1_, w2_, w3_, w4_, w5_, putI0, putI1]
   repeat' (refine And.intro (by first | rfl | omega | (simp; done)) ?_)
   refine hK _ _ (.mk (awl_live' [0, 1, 5] fun ρ hL => ?_))
   try simp only [go_sem, simprocAttr, h0, h1, h5, h9, hi1, List.length_append, List.length_drop, List.length_cons, mrow_len, w1_, w2_, w3_, w4_, w5_, putI0, putI1] at hL
   try clear h0 h1 h5 h9
   obtain ⟨h0, h1, h5⟩ := hL
   clear hK K
   refine awl_seq ?_
   refine awl_regS _ rfl fun K hK => ?_
   try simp only [go_sem, simprocAttr, h0, h1, h5, hi1, List.length_append, List.length_drop, List.length_cons, mrow_len, w1_, w2_, w3_, w4_, w5_, putI0, putI1]
   repeat' (refine And.intro (by first | rfl | omega | (simp; done)) ?_)
   refine hK _ _ (.mk (awl_live' [0, 1, 5] fun ρ hL => ?_))
   try simp only [go_sem, simprocAttr, h0, h1, h5, hi1, List.length_append, List.length_drop, List.length_cons, mrow_len, w1_, w2_, w3_, w4_, w5_, putI0, putI1] at hL
   try clear h0 h1 h5
   obtain ⟨h0, h1, h5⟩ := hL
   clear hK K
   refine awl_seq ?_
   refine awl_regS _ rfl fun K hK => ?_
   try simp only [go_sem, simprocAttr, h0, h1, h5, hi1, List.length_append, List.length_drop, List.length_cons, mrow_len, w1_, w2_, w3_, w4_, w5_, putI0, putI1]
   repeat' (refine And.intro (by first | rfl | omega | (simp; done)) ?_)
   refine hK _ _ (.mk (awl_live' [0, 1, 5] fun ρ hL => ?_))
   try simp only [go_sem, simprocAttr, h0, h1, h5, hi1, List.length_append, List.length_drop, List.length_cons, mrow_len, w1_, w2_, w3_, w4_, w5_, putI0, putI1] at hL
   try clear h0 h1 h5
   obtain ⟨h0, h1, h5⟩ := hL
   clear hK K
   refine awl_seq ?_
   refine awl_regS _ rfl fun K hK => ?_
   try simp only [go_sem, simprocAttr, h0, h1, h5, hi1, List.length_append, List.length_drop, List.length_cons, mrow_len, w1_, w2_, w3_, w4_, w5_, putI0, putI1]
   repeat' (refine And.intro (by first | rfl | omega | (simp; done)) ?_)
   refine hK _ _ (.mk (awl_live' [0, 1, 5] fun ρ hL => ?_))
   try simp only [go_sem, simprocAttr, h0, h1, h5, hi1, List.length_append, List.length_drop, List.length_cons, mrow_len, w1_, w2_, w3_, w4_, w5_, putI0, putI1] at hL
   try clear h0 h1 h5
   obtain ⟨h0, h1, h5⟩ := hL
   clear hK K
   refine awl_seq ?_
   refine awl_regS _ rfl fun K hK => ?_
   try simp only [go_sem, simprocAttr, h0, h1, h5, hi1, List.length_append, List.length_drop, List.length_cons, mrow_len, w1_, w2_, w3_, w4_, w5_, putI0, putI1]
   repeat' (refine And.intro (by first | rfl | omega | (simp; done)) ?_)
   refine hK _ _ (.mk (awl_live' [0, 1, 5] fun ρ hL => ?_))
   try simp only [go_sem, simprocAttr, h0, h1, h5, hi1, List.length_append, List.length_drop, List.length_cons, mrow_len, w1_, w2_, w3_, w4_, w5_, putI0, putI1] at hL
   try clear h0 h1 h5
   obtain ⟨h0, h1, h5⟩ := hL
   clear hK K
   refine awl_seq ?_
   refine awl_regS _ rfl fun K hK => ?_
   try simp only [go_sem, simprocAttr, h0, h1, h5, hi1, List.length_append, List.length_drop, List.length_cons, mrow_len, w1_, w2_, w3_, w4_, w5_, putI0, putI1]
   repeat' (refine And.intro (by first | rfl | omega | (simp; done)) ?_)
   refine hK _ _ (.mk (awl_live' [0, 1, 5] fun ρ hL => ?_))
   try simp only [go_sem, simprocAttr, h0, h1, h5, hi1, List.length_append, List.length_drop, List.length_cons, mrow_len, w1_, w2_, w3_, w4_, w5_, putI0, putI1] at hL
   try clear h0 h1 h5
   obtain ⟨h0, h1, h5⟩ := hL
   clear hK K
   refine awl_seq ?_
   refine awl_regS _ rfl fun K hK => ?_
   try simp only [go_sem, simprocAttr, h0, h1, h5, hi1, List.length_append, List.length_drop, List.length_cons, mrow_len, w1_, w2_, w3_, w4_, w5_, putI0, putI1]
   repeat' (refine And.intro (by first | rfl | omega | (simp; done)) ?_)
   refine hK _ _ (.mk (awl_live' [0, 1, 5] fun ρ hL => ?_))
   try simp only [go_sem, simprocAttr, h0, h1, h5, hi1, List.length_append, List.length_drop, List.length_cons, mrow_len, w1_, w2_, w3_, w4_, w5_, putI0, putI1] at hL
   try clear h0 h1 h5
   obtain ⟨h0, h1, h5⟩ := hL
   clear hK K
   refine awl_seq ?_
   refine awl_regS _ rfl fun K hK => ?_
   try simp only [go_sem, simprocAttr, h0, h1, h5, hi1, List.length_append, List.length_drop, List.length_cons, mrow_len, w1_, w2_, w3_, w4_, w5_, putI0, putI1]
   repeat' (refine And.intro (by first | rfl | omega | (simp; done)) ?_)
   refine hK _ _ (.mk (awl_live' [0, 1, 5] fun ρ hL => ?_))
   try simp only [go_sem, simprocAttr, h0, h1, h5, hi1, List.length_append, List.length_drop, List.length_cons, mrow_len, w1_, w2_, w3_, w4_, w5_, putI0, putI1] at hL
   try clear h0 h1 h5
   obtain ⟨h0, h1, h5⟩ := hL
   clear hK K
   refine awl_seq ?_
   refine awl_regS _ rfl fun K hK => ?_
   try simp only [go_sem, simprocAttr, h0, h1, h5, hi1, List.length_append, List.length_drop, List.length_cons, mrow_len, w1_, w2_, w3_, w4_, w5_, putI0, putI1]
   repeat' (refine And.intro (by first | rfl | omega | (simp; done)) ?_)
   refine hK _ _ (.mk (awl_live' [0, 1, 5] fun ρ hL => ?_))
   try simp only [go_sem, simprocAttr, h0, h1, h5, hi1, List.length_append, List.length_drop, List.length_cons, mrow_len, w1_, w2_, w3_, w4_, w5_, putI0, putI1] at hL
   try clear h0 h1 h5
   obtain ⟨h0, h1, h5⟩ := hL
   clear hK K
   refine awl_regS _ rfl fun K hK => ?_
   try simp only [go_sem, simprocAttr, h0, h1, h5, hi1, List.length_append, List.length_drop, List.length_cons, mrow_len, w1_, w2_, w3_, w4_, w5_, putI0, putI1]
   repeat' (refine And.intro (by first | rfl | omega | (simp; done)) ?_)
   refine hK _ _ (.mk (awl_live' [0, 1, 5] fun ρ hL => ?_))
   try simp only [go_sem, simprocAttr, h0, h1, h5, hi1, List.length_append, List.length_drop, List.length_cons, mrow_len, w1_, w2_, w3_, w4_, w5_, putI0, putI1] at hL
   try clear h0 h1 h5
   obtain ⟨h0, h1, h5⟩ := hL
   clear hK K
   refine awl_nil ?_
   refine blk_normal (hR1 _ _ (.mk ?_))
   have w1 : IntKind.i64.wrap ((i : Int) + 1) = ((i + 1 : Nat) : Int) := by rw [wrap64 (by omega)]; omega
   refine awl_regS _ rfl fun K hK => ?_
   try simp only [go_sem, simprocAttr, h0, h1, h5, hi1, w1, List.length_append, List.length_drop, List.length_cons, mrow_len]
   repeat' (refine And.intro (by first | rfl | omega | (simp; done)) ?_)
   refine hK _ _ (.mk (awl_live' [0, 1, 5] fun ρ hL => ?_))
   try simp only [go_sem, simprocAttr, h0, h1, h5, hi1, w1, List.length_append, List.length_drop, List.length_cons, mrow_len] at hL
   try clear h0 h1 h5
   obtain ⟨h0, h1, h5⟩ := hL
   clear hK K
   refine awl_nil ?_
   refine loop_again _ ?meas ⟨i + 1, rfl, (by omega), (by simp only [go_sem, simprocAttr, h0, h1, h5, hi1, List.length_append, List.length_drop, List.length_cons, mrow_len, e1_0]), (by rw [h1]; congr 1; omega), (h5), congrArg (fun l => [(⟨5, l, true, false⟩ : Blk)]) (mrow_rows (f := markI) (s := 5) (xs := xs.drop (i + 1)) hs rfl)⟩
   case meas => subst hn; omega
  ·
   try simp only [cnd] at c1
   refine awl_exit ?_
   refine loop_break ?_
   exact ⟨(by simp only [go_sem, simprocAttr, h0, h1, h5, h9, List.length_append, List.length_drop, List.length_cons, mrow_len, e1_0]), (by rw [h1, show i = xs.length by omega]), by rw [show i = xs.length by omega, List.drop_length, rows_nil, List.append_nil]⟩
 case after1 =>
  obtain ⟨hL, k1, hG⟩ := hJ
  subst hG
  clear h0 h1 h5
  clear hL
  have h1 := k1
  clear k1
  refine awl_seq ?_
  refine awl_regS _ rfl fun K hK => ?_
  try simp only [go_sem, simprocAttr, h1, List.length_append, List.length_drop, List.length_cons, mrow_len]
  repeat' (refine And.intro (by first | rfl | omega | (simp; done)) ?_)
  refine hK _ _ (.mk (awl_live' [4] fun ρ hL => ?_))
  try simp only [go_sem, simprocAttr, h1, List.length_append, List.length_drop, List.length_cons, mrow_len] at hL
  try clear h1
  have h4 := hL
  clear hL
  clear hK K
  refine awl_ret ?_
  refine retK [] [0] rfl (by simp only [go_sem, simprocAttr, h4, List.length_append, List.length_drop, List.length_cons, mrow_len]; exact rfl) (by decide) (by first | rfl | (simp only [go_sem, simprocAttr, h4, List.length_append, List.length_drop, List.length_cons, mrow_len]; first | done | rfl)) (by first | rfl | (simp only [go_sem, simprocAttr, h4, List.length_append, List.length_drop, List.length_cons, mrow_len]; first | done | rfl)) ?_ ?_
  all_goals try simp only [go_sem, simprocAttr, h4, List.length_append, List.length_drop, List.length_cons, mrow_len]
  all_goals try clear hR1
  all_goals (first | done | rfl | (simp; done) | (simp [inR]; done) | (simp_all [inR]; done) | (simp [inR]; grind))
set_option maxHeartbeats 8000000 in
set_option maxRecDepth 100000 in
theorem sat_laws_markMemory (m : Mem) (t : Int) (hf : m.fit) (ht : 0 ≤ t ∧ t ≤ 1099500000000) : Sat Tryz.prog 85 [.agg (m.own 0 1), .int .i64 t] m.blks (.int .i64 (t + (m.cost : Nat))) (m.marked t).blks := by
 refine sat_mk [.tmp 4] 2 14 Tryz.call85 Tryz.func85 Tryz.ntmps85 rfl rfl rfl rfl rfl ?_
 refine awl_live' [0, 1] fun ρ hL => ?_
 try simp only [go_sem, simprocAttr, Mem.marked] at hL
 obtain ⟨h0, h1⟩ := hL
 refine awl_seq ?_
 refine awl_regS _ rfl fun K hK => ?_
 try simp only [go_sem, simprocAttr, h0, h1, Mem.marked]
 repeat' (refine And.intro (by first | rfl | omega | (simp; done)) ?_)
 refine hK _ _ ⟨_, _, Wk.keep [0, 1, 2] rfl, awl_live' [1, 2] fun ρ hL => ?_⟩
 try simp only [go_sem, simprocAttr, h0, h1, Mem.marked] at hL
 try clear h0 h1
 obtain ⟨h1, h2⟩ := hL
 try simp only [go_sem, simprocAttr, Mem.marked]
 clear hK K
 refine awl_seq ?_
 refine awl_regS _ rfl fun K hK => ?_
 try simp only [go_sem, simprocAttr, h1, h2, Mem.marked]
 repeat' (refine And.intro (by first | rfl | omega | (simp; done)) ?_)
 refine opS_call_in [0] rfl (sat_laws_markWordS m.words t 0 (Nat.le_trans hf.1 (by decide)) (by omega)) ?ha ?hb ?hv ?hh (by decide) rfl ?_
 case ha => simp only [go_sem, simprocAttr, h1, h2, Mem.marked]; first | done | rfl
 case hb => simp only [go_sem, simprocAttr, h1, h2, Mem.marked]; first | done | rfl
 case hv => first | rfl | (simp only [go_sem]; done)
 case hh => first | rfl | (simp only [go_sem]; done)
 try simp only [go_sem, simprocAttr, h1, h2, Mem.marked]
 repeat' (refine And.intro (by first | rfl | omega | (simp; done)) ?_)
 refine hK _ _ ⟨_, _, Wk.keep [0, 1, 2] rfl, awl_live' [1, 2] fun ρ hL => ?_⟩
 try simp only [go_sem, simprocAttr, h1, h2, Mem.marked] at hL
 try clear h1 h2
 obtain ⟨h1, h2⟩ := hL
 try simp only [go_sem, simprocAttr, Mem.marked]
 clear hK K
 refine awl_seq ?_
 refine awl_regS _ rfl fun K hK => ?_
 try simp only [go_sem, simprocAttr, h1, h2, Mem.marked]
 repeat' (refine And.intro (by first | rfl | omega | (simp; done)) ?_)
 refine opS_call_in [1] rfl (sat_laws_markBoolS m.gone (t + (6 * m.words.length : Nat)) 0 (Nat.le_trans hf.2 (by decide)) (by have := hf.1; omega)) ?ha ?hb ?hv ?hh (by decide) rfl ?_
 case ha => simp only [go_sem, simprocAttr, h1, h2, Mem.marked]; first | done | rfl
 case hb => simp only [go_sem, simprocAttr, h1, h2, Mem.marked]; first | done | rfl
 case hv => first | rfl | (simp only [go_sem]; done)
 case hh => first | rfl | (simp only [go_sem]; done)
 try simp only [go_sem, simprocAttr, h1, h2, Mem.marked]
 repeat' (refine And.intro (by first | rfl | omega | (simp; done)) ?_)
 refine hK _ _ ⟨_, _, Wk.keep [0, 1] rfl, awl_live' [1] fun ρ hL => ?_⟩
 try simp only [go_sem, simprocAttr, h1, h2, Mem.marked] at hL
 try clear h1 h2
 have h1 := hL
 clear hL
 try simp only [go_sem, simprocAttr, Mem.marked]
 clear hK K
 refine awl_seq ?_
 refine awl_regS _ rfl fun K hK => ?_
 try simp only [go_sem, simprocAttr, h1, Mem.marked]
 repeat' (refine And.intro (by first | rfl | omega | (simp; done)) ?_)
 refine hK _ _ ⟨_, _, Wk.keep [0, 1] rfl, awl_live' [4] fun ρ hL => ?_⟩
 try simp only [go_sem, simprocAttr, h1, Mem.marked] at hL
 try clear h1
 have h4 := hL
 clear hL
 try simp only [go_sem, simprocAttr, Mem.marked]
 clear hK K
 refine awl_ret ?_
 refine retK [] [0, 1] rfl (by simp only [go_sem, simprocAttr, h4, Mem.marked]; exact rfl) (by decide) (by first | rfl | (simp only [go_sem, simprocAttr, h4, Mem.marked]; first | done | rfl)) (by first | rfl | (simp only [go_sem, simprocAttr, h4, Mem.marked]; first | done | rfl)) ?_ ?_
 all_goals try simp only [go_sem, simprocAttr, h4, Mem.marked]
 all_goals (first | done | rfl | (congr 1; simp only [Mem.cost, Stt.cost]; omega))
set_option maxHeartbeats 8000000 in
set_option maxRecDepth 100000 in
theorem sat_laws_markState (s : Stt) (t : Int) (hf : s.fit) (ht : 0 ≤ t ∧ t ≤ 1099400000000) : Sat Tryz.prog 41 [.agg (s.own 0 1 2), .int .i64 t] s.blks (.int .i64 (t + (s.cost : Nat))) (s.marked t).blks := by
 refine sat_mk [.tmp 4] 3 14 Tryz.call41 Tryz.func41 Tryz.ntmps41 rfl rfl rfl rfl rfl ?_
 refine awl_live' [0, 1] fun ρ hL => ?_
 try simp only [go_sem, simprocAttr, Mem.marked, Stt.marked] at hL
 obtain ⟨h0, h1⟩ := hL
 refine awl_seq ?_
 refine awl_regS _ rfl fun K hK => ?_
 try simp only [go_sem, simprocAttr, h0, h1, Mem.marked, Stt.marked]
 repeat' (refine And.intro (by first | rfl | omega | (simp; done)) ?_)
 refine hK _ _ ⟨_, _, Wk.keep [0, 1, 2, 3] rfl, awl_live' [1, 2] fun ρ hL => ?_⟩
 try simp only [go_sem, simprocAttr, h0, h1, Mem.marked, Stt.marked] at hL
 try clear h0 h1
 obtain ⟨h1, h2⟩ := hL
 try simp only [go_sem, simprocAttr, Mem.marked, Stt.marked]
 clear hK K
 refine awl_seq ?_
 refine awl_regS _ rfl fun K hK => ?_
 try simp only [go_sem, simprocAttr, h1, h2, Mem.marked, Stt.marked]
 repeat' (refine And.intro (by first | rfl | omega | (simp; done)) ?_)
 refine opS_call_in [0] rfl (sat_laws_markWordS s.regs t 0 (Nat.le_trans hf.1 (by decide)) (by omega)) ?ha ?hb ?hv ?hh (by decide) rfl ?_
 case ha => simp only [go_sem, simprocAttr, h1, h2, Mem.marked, Stt.marked]; first | done | rfl
 case hb => simp only [go_sem, simprocAttr, h1, h2, Mem.marked, Stt.marked]; first | done | rfl
 case hv => first | rfl | (simp only [go_sem]; done)
 case hh => first | rfl | (simp only [go_sem]; done)
 try simp only [go_sem, simprocAttr, h1, h2, Mem.marked, Stt.marked]
 repeat' (refine And.intro (by first | rfl | omega | (simp; done)) ?_)
 refine hK _ _ ⟨_, _, Wk.keep [0, 1, 2, 3] rfl, awl_live' [1, 2] fun ρ hL => ?_⟩
 try simp only [go_sem, simprocAttr, h1, h2, Mem.marked, Stt.marked] at hL
 try clear h1 h2
 obtain ⟨h1, h2⟩ := hL
 try simp only [go_sem, simprocAttr, Mem.marked, Stt.marked]
 clear hK K
 refine awl_seq ?_
 refine awl_regS _ rfl fun K hK => ?_
 try simp only [go_sem, simprocAttr, h1, h2, Mem.marked, Stt.marked]
 repeat' (refine And.intro (by first | rfl | omega | (simp; done)) ?_)
 refine opS_call_in [1, 2] rfl (sat_laws_markMemory s.mem (t + (6 * s.regs.length : Nat)) hf.2 (by have := hf.1; omega)) ?ha ?hb ?hv ?hh (by decide) rfl ?_
 case ha => simp only [go_sem, simprocAttr, h1, h2, Mem.marked, Stt.marked]; first | done | rfl
 case hb => simp only [go_sem, simprocAttr, h1, h2, Mem.marked, Stt.marked]; first | done | rfl
 case hv => first | rfl | (simp only [go_sem]; done)
 case hh => first | rfl | (simp only [go_sem]; done)
 try simp only [go_sem, simprocAttr, h1, h2, Mem.marked, Stt.marked]
 repeat' (refine And.intro (by first | rfl | omega | (simp; done)) ?_)
 refine hK _ _ ⟨_, _, Wk.keep [0, 1, 2] rfl, awl_live' [1] fun ρ hL => ?_⟩
 try simp only [go_sem, simprocAttr, h1, h2, Mem.marked, Stt.marked] at hL
 try clear h1 h2
 have h1 := hL
 clear hL
 try simp only [go_sem, simprocAttr, Mem.marked, Stt.marked]
 clear hK K
 refine awl_seq ?_
 refine awl_regS _ rfl fun K hK => ?_
 try simp only [go_sem, simprocAttr, h1, Mem.marked, Stt.marked]
 repeat' (refine And.intro (by first | rfl | omega | (simp; done)) ?_)
 refine hK _ _ ⟨_, _, Wk.keep [0, 1, 2] rfl, awl_live' [4] fun ρ hL => ?_⟩
 try simp only [go_sem, simprocAttr, h1, Mem.marked, Stt.marked] at hL
 try clear h1
 have h4 := hL
 clear hL
 try simp only [go_sem, simprocAttr, Mem.marked, Stt.marked]
 clear hK K
 refine awl_ret ?_
 refine retK [] [0, 1, 2] rfl (by simp only [go_sem, simprocAttr, h4, Mem.marked, Stt.marked]; exact rfl) (by decide) (by first | rfl | (simp only [go_sem, simprocAttr, h4, Mem.marked, Stt.marked]; first | done | rfl)) (by first | rfl | (simp only [go_sem, simprocAttr, h4, Mem.marked, Stt.marked]; first | done | rfl)) ?_ ?_
 all_goals try simp only [go_sem, simprocAttr, h4, Mem.marked, Stt.marked]
 all_goals (first | done | rfl | (congr 1; simp only [Mem.cost, Stt.cost]; omega))
set_option maxHeartbeats 8000000 in
set_option maxRecDepth 100000 in
theorem sat_laws_heldMemory (m : Mem) (t : Int) (hf : m.fit) (ht : 0 ≤ t ∧ t ≤ 1099500000000) : Sat Tryz.prog 87 [.agg (Mem.cells (m.marked t)), .int .i64 t] [] (.int .i64 (t + (m.cost : Nat))) [] := by
 refine sat_mk [.tmp 4] 0 18 Tryz.call87 Tryz.func87 Tryz.ntmps87 rfl rfl rfl rfl rfl ?_
 refine awl_live' [0, 1] fun ρ hL => ?_
 try simp only [go_sem, simprocAttr, Mem.marked, mrow_len] at hL
 obtain ⟨h0, h1⟩ := hL
 refine awl_seq ?_
 refine awl_regS _ rfl fun K hK => ?_
 try simp only [go_sem, simprocAttr, h0, h1, Mem.marked, mrow_len]
 repeat' (refine And.intro (by first | rfl | omega | (simp; done)) ?_)
 refine hK _ _ (.mk (awl_live' [1, 2] fun ρ hL => ?_))
 try simp only [go_sem, simprocAttr, h0, h1, Mem.marked, mrow_len] at hL
 try clear h0 h1
 obtain ⟨h1, h2⟩ := hL
 clear hK K
 refine awl_seq ?_
 refine awl_regS _ rfl fun K hK => ?_
 try simp only [go_sem, simprocAttr, h1, h2, Mem.marked, mrow_len]
 repeat' (refine And.intro (by first | rfl | omega | (simp; done)) ?_)
 refine opS_call_ro rfl (sat_laws_heldWordS m.words.length t m.words.length (Nat.le_trans hf.1 (by decide)) (by omega)) ?ha ?hv ?hh ?_
 case ha => simp only [go_sem, simprocAttr, h1, h2, Mem.marked, mrow_len]; first | done | rfl
 case hv => first | rfl | (simp only [go_sem]; done)
 case hh => first | rfl | (simp only [go_sem]; done)
 try simp only [go_sem, simprocAttr, h1, h2, Mem.marked, mrow_len]
 repeat' (refine And.intro (by first | rfl | omega | (simp; done)) ?_)
 refine hK _ _ (.mk (awl_live' [1, 2] fun ρ hL => ?_))
 try simp only [go_sem, simprocAttr, h1, h2, Mem.marked, mrow_len] at hL
 try clear h1 h2
 obtain ⟨h1, h2⟩ := hL
 clear hK K
 refine awl_seq ?_
 refine awl_seq ?_
 refine awl_regS _ rfl fun K hK => ?_
 try simp only [go_sem, simprocAttr, h1, h2, Mem.marked, mrow_len]
 repeat' (refine And.intro (by first | rfl | omega | (simp; done)) ?_)
 refine hK _ _ (.mk (awl_live' [1, 2, 10] fun ρ hL => ?_))
 try simp only [go_sem, simprocAttr, h1, h2, Mem.marked, mrow_len] at hL
 try clear h1 h2
 obtain ⟨h1, h2, h10⟩ := hL
 clear hK K
 refine awl_cond h10 (fun c1 => ?_) (fun c1 => ?_)
 ·
  try simp only [cnd] at c1
  omega
 ·
  try simp only [cnd] at c1
  refine awl_skip ?_
  refine awl_seq ?_
  refine awl_regS _ rfl fun K hK => ?_
  try simp only [go_sem, simprocAttr, h1, h2, h10, Mem.marked, mrow_len]
  repeat' (refine And.intro (by first | rfl | omega | (simp; done)) ?_)
  refine opS_call_ro rfl (sat_laws_heldBoolS m.gone.length (t + (6 * m.words.length : Nat)) m.gone.length (Nat.le_trans hf.2 (by decide)) (by have := hf.1; omega)) ?ha ?hv ?hh ?_
  case ha => simp only [go_sem, simprocAttr, h1, h2, h10, Mem.marked, mrow_len]; first | done | rfl
  case hv => first | rfl | (simp only [go_sem]; done)
  case hh => first | rfl | (simp only [go_sem]; done)
  try simp only [go_sem, simprocAttr, h1, h2, h10, Mem.marked, mrow_len]
  repeat' (refine And.intro (by first | rfl | omega | (simp; done)) ?_)
  refine hK _ _ (.mk (awl_live' [1] fun ρ hL => ?_))
  try simp only [go_sem, simprocAttr, h1, h2, h10, Mem.marked, mrow_len] at hL
  try clear h1 h2 h10
  have h1 := hL
  clear hL
  clear hK K
  refine awl_seq ?_
  refine awl_seq ?_
  refine awl_regS _ rfl fun K hK => ?_
  try simp only [go_sem, simprocAttr, h1, Mem.marked, mrow_len]
  repeat' (refine And.intro (by first | rfl | omega | (simp; done)) ?_)
  refine hK _ _ (.mk (awl_live' [1, 16] fun ρ hL => ?_))
  try simp only [go_sem, simprocAttr, h1, Mem.marked, mrow_len] at hL
  try clear h1
  obtain ⟨h1, h16⟩ := hL
  clear hK K
  refine awl_cond h16 (fun c2 => ?_) (fun c2 => ?_)
  ·
   try simp only [cnd] at c2
   omega
  ·
   try simp only [cnd] at c2
   refine awl_skip ?_
   refine awl_seq ?_
   refine awl_regS _ rfl fun K hK => ?_
   try simp only [go_sem, simprocAttr, h1, h16, Mem.marked, mrow_len]
   repeat' (refine And.intro (by first | rfl | omega | (simp; done)) ?_)
   refine hK _ _ (.mk (awl_live' [4] fun ρ hL => ?_))
   try simp only [go_sem, simprocAttr, h1, h16, Mem.marked, mrow_len] at hL
   try clear h1 h16
   have h4 := hL
   clear hL
   clear hK K
   refine awl_ret ?_
   refine ret0 (by simp only [go_sem, simprocAttr, h4, Mem.marked, mrow_len]; exact rfl) ?_
   try simp only [go_sem, simprocAttr]
   all_goals (first | done | rfl | (congr 1; simp only [Mem.cost, Stt.cost]; omega))
set_option maxHeartbeats 8000000 in
set_option maxRecDepth 100000 in
theorem sat_laws_heldState (s : Stt) (t : Int) (hf : s.fit) (ht : 0 ≤ t ∧ t ≤ 1099400000000) : Sat Tryz.prog 44 [.agg (Stt.cells (s.marked t)), .int .i64 t] [] (.int .i64 (t + (s.cost : Nat))) [] := by
 refine sat_mk [.tmp 4] 0 18 Tryz.call44 Tryz.func44 Tryz.ntmps44 rfl rfl rfl rfl rfl ?_
 refine awl_live' [0, 1] fun ρ hL => ?_
 try simp only [go_sem, simprocAttr, Mem.marked, Stt.marked, mrow_len] at hL
 obtain ⟨h0, h1⟩ := hL
 refine awl_seq ?_
 refine awl_regS _ rfl fun K hK => ?_
 try simp only [go_sem, simprocAttr, h0, h1, Mem.marked, Stt.marked, mrow_len]
 repeat' (refine And.intro (by first | rfl | omega | (simp; done)) ?_)
 refine hK _ _ (.mk (awl_live' [1, 2] fun ρ hL => ?_))
 try simp only [go_sem, simprocAttr, h0, h1, Mem.marked, Stt.marked, mrow_len] at hL
 try clear h0 h1
 obtain ⟨h1, h2⟩ := hL
 clear hK K
 refine awl_seq ?_
 refine awl_regS _ rfl fun K hK => ?_
 try simp only [go_sem, simprocAttr, h1, h2, Mem.marked, Stt.marked, mrow_len]
 repeat' (refine And.intro (by first | rfl | omega | (simp; done)) ?_)
 refine opS_call_ro rfl (sat_laws_heldWordS s.regs.length t s.regs.length (Nat.le_trans hf.1 (by decide)) (by omega)) ?ha ?hv ?hh ?_
 case ha => simp only [go_sem, simprocAttr, h1, h2, Mem.marked, Stt.marked, mrow_len]; first | done | rfl
 case hv => first | rfl | (simp only [go_sem]; done)
 case hh => first | rfl | (simp only [go_sem]; done)
 try simp only [go_sem, simprocAttr, h1, h2, Mem.marked, Stt.marked, mrow_len]
 repeat' (refine And.intro (by first | rfl | omega | (simp; done)) ?_)
 refine hK _ _ (.mk (awl_live' [1, 2] fun ρ hL => ?_))
 try simp only [go_sem, simprocAttr, h1, h2, Mem.marked, Stt.marked, mrow_len] at hL
 try clear h1 h2
 obtain ⟨h1, h2⟩ := hL
 clear hK K
 refine awl_seq ?_
 refine awl_seq ?_
 refine awl_regS _ rfl fun K hK => ?_
 try simp only [go_sem, simprocAttr, h1, h2, Mem.marked, Stt.marked, mrow_len]
 repeat' (refine And.intro (by first | rfl | omega | (simp; done)) ?_)
 refine hK _ _ (.mk (awl_live' [1, 2, 10] fun ρ hL => ?_))
 try simp only [go_sem, simprocAttr, h1, h2, Mem.marked, Stt.marked, mrow_len] at hL
 try clear h1 h2
 obtain ⟨h1, h2, h10⟩ := hL
 clear hK K
 refine awl_cond h10 (fun c1 => ?_) (fun c1 => ?_)
 ·
  try simp only [cnd] at c1
  omega
 ·
  try simp only [cnd] at c1
  refine awl_skip ?_
  refine awl_seq ?_
  refine awl_regS _ rfl fun K hK => ?_
  try simp only [go_sem, simprocAttr, h1, h2, h10, Mem.marked, Stt.marked, mrow_len]
  repeat' (refine And.intro (by first | rfl | omega | (simp; done)) ?_)
  refine opS_call_ro rfl (sat_laws_heldMemory s.mem (t + (6 * s.regs.length : Nat)) hf.2 (by have := hf.1; omega)) ?ha ?hv ?hh ?_
  case ha => simp only [go_sem, simprocAttr, h1, h2, h10, Mem.marked, Stt.marked, mrow_len]; first | done | rfl
  case hv => first | rfl | (simp only [go_sem]; done)
  case hh => first | rfl | (simp only [go_sem]; done)
  try simp only [go_sem, simprocAttr, h1, h2, h10, Mem.marked, Stt.marked, mrow_len]
  repeat' (refine And.intro (by first | rfl | omega | (simp; done)) ?_)
  refine hK _ _ (.mk (awl_live' [1] fun ρ hL => ?_))
  try simp only [go_sem, simprocAttr, h1, h2, h10, Mem.marked, Stt.marked, mrow_len] at hL
  try clear h1 h2 h10
  have h1 := hL
  clear hL
  clear hK K
  refine awl_seq ?_
  refine awl_seq ?_
  refine awl_regS _ rfl fun K hK => ?_
  try simp only [go_sem, simprocAttr, h1, Mem.marked, Stt.marked, mrow_len]
  repeat' (refine And.intro (by first | rfl | omega | (simp; done)) ?_)
  refine hK _ _ (.mk (awl_live' [1, 16] fun ρ hL => ?_))
  try simp only [go_sem, simprocAttr, h1, Mem.marked, Stt.marked, mrow_len] at hL
  try clear h1
  obtain ⟨h1, h16⟩ := hL
  clear hK K
  refine awl_cond h16 (fun c2 => ?_) (fun c2 => ?_)
  ·
   try simp only [cnd] at c2
   omega
  ·
   try simp only [cnd] at c2
   refine awl_skip ?_
   refine awl_seq ?_
   refine awl_regS _ rfl fun K hK => ?_
   try simp only [go_sem, simprocAttr, h1, h16, Mem.marked, Stt.marked, mrow_len]
   repeat' (refine And.intro (by first | rfl | omega | (simp; done)) ?_)
   refine hK _ _ (.mk (awl_live' [4] fun ρ hL => ?_))
   try simp only [go_sem, simprocAttr, h1, h16, Mem.marked, Stt.marked, mrow_len] at hL
   try clear h1 h16
   have h4 := hL
   clear hL
   clear hK K
   refine awl_ret ?_
   refine ret0 (by simp only [go_sem, simprocAttr, h4, Mem.marked, Stt.marked, mrow_len]; exact rfl) ?_
   try simp only [go_sem, simprocAttr]
   all_goals (first | done | rfl | (congr 1; simp only [Mem.cost, Stt.cost]; omega))
end Go.Proofs.YtopjagninmjkbaaGreat.AM
