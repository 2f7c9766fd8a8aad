/- Rows copied. No conditions but those each theorem bears. -/
import Derived.Test.YtopjagninmjkbaaGreatFa
import Derived.Test.YtopjagninmjkbaaGreatSp7
import Derived.Test.YtopjagninmjkbaaGreatCa3
set_option linter.unusedSimpArgs false
set_option linter.unusedVariables false
namespace Go.Proofs.YtopjagninmjkbaaGreat.AM
open Go

set_option maxHeartbeats 8000000 in
set_option maxRecDepth 100000 in
theorem sat_slices_Clone_impl_Word_impl_Word_N   : Sat Tryz.prog 105 [.nilsl] [] .nilsl [] := by
 refine sat_mk [.tmp 2] 0 8 Tryz.call105 Tryz.func105 Tryz.ntmps105 rfl rfl rfl rfl rfl ?_
 refine awl_live' [0] fun ρ hL => ?_
 try simp only [go_sem, simprocAttr] at hL
 have h0 := hL
 clear hL
 refine awl_seq ?_
 refine awl_regS _ rfl fun K hK => ?_
 try simp only [go_sem, simprocAttr, h0]
 repeat' (refine And.intro (by first | rfl | omega | (simp; done)) ?_)
 refine hK _ _ (.mk (awl_live' [0] fun ρ hL => ?_))
 try simp only [go_sem, simprocAttr, h0] at hL
 try clear h0
 have h0 := hL
 clear hL
 clear hK K
 refine awl_seq ?_
 refine awl_seq ?_
 refine awl_regS _ rfl fun K hK => ?_
 try simp only [go_sem, simprocAttr, h0]
 repeat' (refine And.intro (by first | rfl | omega | (simp; done)) ?_)
 refine hK _ _ (.mk (awl_live' [0, 4] fun ρ hL => ?_))
 try simp only [go_sem, simprocAttr, h0] at hL
 try clear h0
 obtain ⟨h0, h4⟩ := hL
 clear hK K
 refine awl_cond h4 (fun c1 => ?_) (fun c1 => ?_)
 ·
  try simp only [cnd] at c1
  refine awl_seq ?_
  refine awl_regS _ rfl fun K hK => ?_
  try simp only [go_sem, simprocAttr, h0, h4]
  repeat' (refine And.intro (by first | rfl | omega | (simp; done)) ?_)
  refine hK _ _ (.mk (awl_live' [2] fun ρ hL => ?_))
  try simp only [go_sem, simprocAttr, h0, h4] at hL
  try clear h0 h4
  have h2 := hL
  clear hL
  clear hK K
  refine awl_ret ?_
  refine ret0 (by simp only [go_sem, simprocAttr, h2]; exact rfl) ?_
  try simp only [go_sem, simprocAttr]
  all_goals (first | done | rfl | (simp; done) | (simp [inR]; done) | (simp_all [inR]; done) | (simp [inR]; grind))
 ·
  try simp only [cnd] at c1
  simp at c1
set_option maxHeartbeats 8000000 in
set_option maxRecDepth 100000 in
theorem sat_slices_Clone_impl_Word_impl_Word_S (xs : List Word) (c : Nat) (hb : xs.length ≤ 1099511627776) : Sat Tryz.prog 105 [.nnsl xs.length c (rows xs)] [] (.slice 0 0 xs.length 0) [⟨6, rows xs, true, false⟩] := by
 refine sat_mk [.tmp 2] 0 8 Tryz.call105 Tryz.func105 Tryz.ntmps105 rfl rfl rfl rfl rfl ?_
 refine awl_live' [0] fun ρ hL => ?_
 try simp only [go_sem, simprocAttr] at hL
 have h0 := hL
 clear hL
 refine awl_seq ?_
 refine awl_regS _ rfl fun K hK => ?_
 try simp only [go_sem, simprocAttr, h0]
 repeat' (refine And.intro (by first | rfl | omega | (simp; done)) ?_)
 refine hK _ _ (.mk (awl_live' [0] fun ρ hL => ?_))
 try simp only [go_sem, simprocAttr, h0] at hL
 try clear h0
 have h0 := hL
 clear hL
 clear hK K
 refine awl_seq ?_
 refine awl_seq ?_
 refine awl_regS _ rfl fun K hK => ?_
 try simp only [go_sem, simprocAttr, h0]
 repeat' (refine And.intro (by first | rfl | omega | (simp; done)) ?_)
 refine hK _ _ (.mk (awl_live' [0, 4] fun ρ hL => ?_))
 try simp only [go_sem, simprocAttr, h0] at hL
 try clear h0
 obtain ⟨h0, h4⟩ := hL
 clear hK K
 refine awl_cond h4 (fun c1 => ?_) (fun c1 => ?_)
 ·
  try simp only [cnd] at c1
  simp at c1
 ·
  try simp only [cnd] at c1
  refine awl_skip ?_
  refine awl_seq ?_
  refine awl_regS _ rfl fun K hK => ?_
  try simp only [go_sem, simprocAttr, h0, h4]
  repeat' (refine And.intro (by first | rfl | omega | (simp; done)) ?_)
  refine hK _ _ (.mk (awl_live' [2] fun ρ hL => ?_))
  try simp only [go_sem, simprocAttr, h0, h4] at hL
  try clear h0 h4
  have h2 := hL
  clear hL
  clear hK K
  refine awl_ret ?_
  refine retK [0] [0] rfl (by simp only [go_sem, simprocAttr, h2]; exact rfl) (by decide) (by first | rfl | (simp only [go_sem, simprocAttr, h2]; first | done | rfl)) (by first | rfl | (simp only [go_sem, simprocAttr, h2]; first | done | rfl)) ?_ ?_
  all_goals try simp only [go_sem, simprocAttr, h2]
  all_goals (first | done | rfl | (simp; done) | (simp [inR]; done) | (simp_all [inR]; done) | (simp [inR]; grind))
theorem sat_slices_Clone_impl_Word_impl_Word (xs : List Word) (c : Nat) (hb : xs.length ≤ 1099511627776) : Sat Tryz.prog 105 [.sl xs.length c (rows xs)] [] (.slice 0 0 xs.length 0) [⟨6, rows xs, true, false⟩] := by
  refine sat_sl (fun h0 _ => ?_) (sat_slices_Clone_impl_Word_impl_Word_S xs c hb)
  obtain rfl : xs = [] := List.eq_nil_of_length_eq_zero h0
  exact sat_nil_back sat_slices_Clone_impl_Word_impl_Word_N
set_option maxHeartbeats 8000000 in
set_option maxRecDepth 100000 in
theorem sat_slices_Clone_bool_bool_N   : Sat Tryz.prog 122 [.nilsl] [] .nilsl [] := by
 refine sat_mk [.tmp 2] 0 8 Tryz.call122 Tryz.func122 Tryz.ntmps122 rfl rfl rfl rfl rfl ?_
 refine awl_live' [0] fun ρ hL => ?_
 try simp only [go_sem, simprocAttr] at hL
 have h0 := hL
 clear hL
 refine awl_seq ?_
 refine awl_regS _ rfl fun K hK => ?_
 try simp only [go_sem, simprocAttr, h0]
 repeat' (refine And.intro (by first | rfl | omega | (simp; done)) ?_)
 refine hK _ _ (.mk (awl_live' [0] fun ρ hL => ?_))
 try simp only [go_sem, simprocAttr, h0] at hL
 try clear h0
 have h0 := hL
 clear hL
 clear hK K
 refine awl_seq ?_
 refine awl_seq ?_
 refine awl_regS _ rfl fun K hK => ?_
 try simp only [go_sem, simprocAttr, h0]
 repeat' (refine And.intro (by first | rfl | omega | (simp; done)) ?_)
 refine hK _ _ (.mk (awl_live' [0, 4] fun ρ hL => ?_))
 try simp only [go_sem, simprocAttr, h0] at hL
 try clear h0
 obtain ⟨h0, h4⟩ := hL
 clear hK K
 refine awl_cond h4 (fun c1 => ?_) (fun c1 => ?_)
 ·
  try simp only [cnd] at c1
  refine awl_seq ?_
  refine awl_regS _ rfl fun K hK => ?_
  try simp only [go_sem, simprocAttr, h0, h4]
  repeat' (refine And.intro (by first | rfl | omega | (simp; done)) ?_)
  refine hK _ _ (.mk (awl_live' [2] fun ρ hL => ?_))
  try simp only [go_sem, simprocAttr, h0, h4] at hL
  try clear h0 h4
  have h2 := hL
  clear hL
  clear hK K
  refine awl_ret ?_
  refine ret0 (by simp only [go_sem, simprocAttr, h2]; exact rfl) ?_
  try simp only [go_sem, simprocAttr]
  all_goals (first | done | rfl | (simp; done) | (simp [inR]; done) | (simp_all [inR]; done) | (simp [inR]; grind))
 ·
  try simp only [cnd] at c1
  simp at c1
set_option maxHeartbeats 8000000 in
set_option maxRecDepth 100000 in
theorem sat_slices_Clone_bool_bool_S (xs : List Bool) (c : Nat) (hb : xs.length ≤ 1099511627776) : Sat Tryz.prog 122 [.nnsl xs.length c (rows xs)] [] (.slice 0 0 xs.length 0) [⟨1, rows xs, true, false⟩] := by
 refine sat_mk [.tmp 2] 0 8 Tryz.call122 Tryz.func122 Tryz.ntmps122 rfl rfl rfl rfl rfl ?_
 refine awl_live' [0] fun ρ hL => ?_
 try simp only [go_sem, simprocAttr] at hL
 have h0 := hL
 clear hL
 refine awl_seq ?_
 refine awl_regS _ rfl fun K hK => ?_
 try simp only [go_sem, simprocAttr, h0]
 repeat' (refine And.intro (by first | rfl | omega | (simp; done)) ?_)
 refine hK _ _ (.mk (awl_live' [0] fun ρ hL => ?_))
 try simp only [go_sem, simprocAttr, h0] at hL
 try clear h0
 have h0 := hL
 clear hL
 clear hK K
 refine awl_seq ?_
 refine awl_seq ?_
 refine awl_regS _ rfl fun K hK => ?_
 try simp only [go_sem, simprocAttr, h0]
 repeat' (refine And.intro (by first | rfl | omega | (simp; done)) ?_)
 refine hK _ _ (.mk (awl_live' [0, 4] fun ρ hL => ?_))
 try simp only [go_sem, simprocAttr, h0] at hL
 try clear h0
 obtain ⟨h0, h4⟩ := hL
 clear hK K
 refine awl_cond h4 (fun c1 => ?_) (fun c1 => ?_)
 ·
  try simp only [cnd] at c1
  simp at c1
 ·
  try simp only [cnd] at c1
  refine awl_skip ?_
  refine awl_seq ?_
  refine awl_regS _ rfl fun K hK => ?_
  try simp only [go_sem, simprocAttr, h0, h4]
  repeat' (refine And.intro (by first | rfl | omega | (simp; done)) ?_)
  refine hK _ _ (.mk (awl_live' [2] fun ρ hL => ?_))
  try simp only [go_sem, simprocAttr, h0, h4] at hL
  try clear h0 h4
  have h2 := hL
  clear hL
  clear hK K
  refine awl_ret ?_
  refine retK [0] [0] rfl (by simp only [go_sem, simprocAttr, h2]; exact rfl) (by decide) (by first | rfl | (simp only [go_sem, simprocAttr, h2]; first | done | rfl)) (by first | rfl | (simp only [go_sem, simprocAttr, h2]; first | done | rfl)) ?_ ?_
  all_goals try simp only [go_sem, simprocAttr, h2]
  all_goals (first | done | rfl | (simp; done) | (simp [inR]; done) | (simp_all [inR]; done) | (simp [inR]; grind))
theorem sat_slices_Clone_bool_bool (xs : List Bool) (c : Nat) (hb : xs.length ≤ 1099511627776) : Sat Tryz.prog 122 [.sl xs.length c (rows xs)] [] (.slice 0 0 xs.length 0) [⟨1, rows xs, true, false⟩] := by
  refine sat_sl (fun h0 _ => ?_) (sat_slices_Clone_bool_bool_S xs c hb)
  obtain rfl : xs = [] := List.eq_nil_of_length_eq_zero h0
  exact sat_nil_back sat_slices_Clone_bool_bool_N
end Go.Proofs.YtopjagninmjkbaaGreat.AM
