/- Words, and what is learnt. No conditions but those each theorem bears. -/
import Derived.Test.YtopjagninmjkbaaGreatFa
import Derived.Test.YtopjagninmjkbaaGreatM4
import Derived.Test.YtopjagninmjkbaaGreatM3
import Derived.Test.YtopjagninmjkbaaGreatCa2
set_option linter.unusedSimpArgs false
set_option linter.unusedVariables false
namespace Go.Proofs.YtopjagninmjkbaaGreat.AM
open Go

set_option maxHeartbeats 8000000 in
set_option maxRecDepth 100000 in
theorem sat_laws_toKey (k : Key)  : Sat Tryz.prog 66 [.agg k.cells] [] (.agg k.cells) [] := by
 refine sat_mk [.cell 2 40] 0 17 Tryz.call66 Tryz.func66 Tryz.ntmps66 rfl rfl rfl rfl rfl ?_
 refine awl_live' [0] fun ρ hL => ?_
 try simp only [go_sem, simprocAttr] at hL
 have h0 := hL
 clear hL
 refine awl_seq ?_
 refine awl_regS _ rfl fun K hK => ?_
 try simp only [go_sem, simprocAttr, h0]
 repeat' (refine And.intro (by first | rfl | omega | (simp; done)) ?_)
 refine hK _ _ (.mk (awl_live' [1, 2] fun ρ hL => ?_))
 try simp only [go_sem, simprocAttr, h0] at hL
 try clear h0
 obtain ⟨h1, h2⟩ := hL
 clear hK K
 refine awl_seq ?_
 refine awl_regS _ rfl fun K hK => ?_
 try simp only [go_sem, simprocAttr, h1, h2]
 repeat' (refine And.intro (by first | rfl | omega | (simp; done)) ?_)
 refine hK _ _ (.mk (awl_live' [1, 2, 3] fun ρ hL => ?_))
 try simp only [go_sem, simprocAttr, h1, h2] at hL
 try clear h1 h2
 obtain ⟨h1, h2, h3⟩ := hL
 clear hK K
 refine awl_seq ?_
 refine awl_regS _ rfl fun K hK => ?_
 try simp only [go_sem, simprocAttr, h1, h2, h3]
 repeat' (refine And.intro (by first | rfl | omega | (simp; done)) ?_)
 refine hK _ _ (.mk (awl_live' [1, 2, 3] fun ρ hL => ?_))
 try simp only [go_sem, simprocAttr, h1, h2, h3] at hL
 try clear h1 h2 h3
 obtain ⟨h1, h2, h3⟩ := hL
 clear hK K
 refine awl_seq ?_
 refine awl_regS _ rfl fun K hK => ?_
 try simp only [go_sem, simprocAttr, h1, h2, h3]
 repeat' (refine And.intro (by first | rfl | omega | (simp; done)) ?_)
 refine hK _ _ (.mk (awl_live' [1, 2, 3] fun ρ hL => ?_))
 try simp only [go_sem, simprocAttr, h1, h2, h3] at hL
 try clear h1 h2 h3
 obtain ⟨h1, h2, h3⟩ := hL
 clear hK K
 refine awl_seq ?_
 refine awl_regS _ rfl fun K hK => ?_
 try simp only [go_sem, simprocAttr, h1, h2, h3]
 repeat' (refine And.intro (by first | rfl | omega | (simp; done)) ?_)
 refine hK _ _ (.mk (awl_live' [1, 2, 3] fun ρ hL => ?_))
 try simp only [go_sem, simprocAttr, h1, h2, h3] at hL
 try clear h1 h2 h3
 obtain ⟨h1, h2, h3⟩ := hL
 clear hK K
 refine awl_seq ?_
 refine awl_regS _ rfl fun K hK => ?_
 try simp only [go_sem, simprocAttr, h1, h2, h3]
 repeat' (refine And.intro (by first | rfl | omega | (simp; done)) ?_)
 refine hK _ _ (.mk (awl_live' [2, 3] fun ρ hL => ?_))
 try simp only [go_sem, simprocAttr, h1, h2, h3] at hL
 try clear h1 h2 h3
 obtain ⟨h2, h3⟩ := hL
 clear hK K
 refine awl_seq ?_
 refine awl_regS _ rfl fun K hK => ?_
 try simp only [go_sem, simprocAttr, h2, h3]
 repeat' (refine And.intro (by first | rfl | omega | (simp; done)) ?_)
 refine hK _ _ (.mk (awl_live' [2] fun ρ hL => ?_))
 try simp only [go_sem, simprocAttr, h2, h3] at hL
 try clear h2 h3
 have h2 := hL
 clear hL
 clear hK K
 refine awl_ret ?_
 refine ret0 (by simp only [go_sem, simprocAttr, h2]; exact rfl) ?_
 try simp only [go_sem, simprocAttr]
 all_goals (first | done | rfl | (simp; done) | (simp [inR]; done) | (simp_all [inR]; done) | (simp [inR]; grind))
set_option maxHeartbeats 8000000 in
set_option maxRecDepth 100000 in
theorem sat_laws_toWord (w : Word)  : Sat Tryz.prog 29 [.agg w.cells] [] (.agg w.cells) [] := by
 refine sat_mk [.cell 2 42] 0 15 Tryz.call29 Tryz.func29 Tryz.ntmps29 rfl rfl rfl rfl rfl ?_
 refine awl_live' [0] fun ρ hL => ?_
 try simp only [go_sem, simprocAttr] at hL
 have h0 := hL
 clear hL
 refine awl_seq ?_
 refine awl_regS _ rfl fun K hK => ?_
 try simp only [go_sem, simprocAttr, h0]
 repeat' (refine And.intro (by first | rfl | omega | (simp; done)) ?_)
 refine hK _ _ (.mk (awl_live' [1, 2] fun ρ hL => ?_))
 try simp only [go_sem, simprocAttr, h0] at hL
 try clear h0
 obtain ⟨h1, h2⟩ := hL
 clear hK K
 refine awl_seq ?_
 refine awl_regS _ rfl fun K hK => ?_
 try simp only [go_sem, simprocAttr, h1, h2]
 repeat' (refine And.intro (by first | rfl | omega | (simp; done)) ?_)
 refine hK _ _ (.mk (awl_live' [1, 2, 3] fun ρ hL => ?_))
 try simp only [go_sem, simprocAttr, h1, h2] at hL
 try clear h1 h2
 obtain ⟨h1, h2, h3⟩ := hL
 clear hK K
 refine awl_seq ?_
 refine awl_regS _ rfl fun K hK => ?_
 try simp only [go_sem, simprocAttr, h1, h2, h3]
 repeat' (refine And.intro (by first | rfl | omega | (simp; done)) ?_)
 refine hK _ _ (.mk (awl_live' [1, 2, 3] fun ρ hL => ?_))
 try simp only [go_sem, simprocAttr, h1, h2, h3] at hL
 try clear h1 h2 h3
 obtain ⟨h1, h2, h3⟩ := hL
 clear hK K
 refine awl_seq ?_
 refine awl_regS _ rfl fun K hK => ?_
 try simp only [go_sem, simprocAttr, h1, h2, h3]
 repeat' (refine And.intro (by first | rfl | omega | (simp; done)) ?_)
 refine hK _ _ (.mk (awl_live' [1, 2, 3] fun ρ hL => ?_))
 try simp only [go_sem, simprocAttr, h1, h2, h3] at hL
 try clear h1 h2 h3
 obtain ⟨h1, h2, h3⟩ := hL
 clear hK K
 refine awl_seq ?_
 refine awl_regS _ rfl fun K hK => ?_
 try simp only [go_sem, simprocAttr, h1, h2, h3]
 repeat' (refine And.intro (by first | rfl | omega | (simp; done)) ?_)
 refine opS_call_ro rfl (sat_laws_toKey ?_) ?ha ?hv ?hh ?_
 case ha => simp only [go_sem, simprocAttr, h1, h2, h3]; first | done | rfl
 case hv => first | rfl | (simp only [go_sem]; done)
 case hh => first | rfl | (simp only [go_sem]; done)
 try simp only [go_sem, simprocAttr, h1, h2, h3]
 repeat' (refine And.intro (by first | rfl | omega | (simp; done)) ?_)
 refine hK _ _ (.mk (awl_live' [2, 3] fun ρ hL => ?_))
 try simp only [go_sem, simprocAttr, h1, h2, h3] at hL
 try clear h1 h2 h3
 obtain ⟨h2, h3⟩ := hL
 clear hK K
 refine awl_seq ?_
 refine awl_regS _ rfl fun K hK => ?_
 try simp only [go_sem, simprocAttr, h2, h3]
 repeat' (refine And.intro (by first | rfl | omega | (simp; done)) ?_)
 refine hK _ _ (.mk (awl_live' [2] fun ρ hL => ?_))
 try simp only [go_sem, simprocAttr, h2, h3] at hL
 try clear h2 h3
 have h2 := hL
 clear hL
 clear hK K
 refine awl_ret ?_
 refine ret0 (by simp only [go_sem, simprocAttr, h2]; exact rfl) ?_
 try simp only [go_sem, simprocAttr]
 all_goals (first | done | rfl | (simp; done) | (simp [inR]; done) | (simp_all [inR]; done) | (simp [inR]; grind))
set_option maxHeartbeats 8000000 in
set_option maxRecDepth 100000 in
theorem sat_spec_Plain (n : Int)  : Sat Tryz.prog 88 [.int .i64 n] [] (.agg (plain n).cells) [] := by
 refine sat_mk [.cell 2 42] 0 6 Tryz.call88 Tryz.func88 Tryz.ntmps88 rfl rfl rfl rfl rfl ?_
 refine awl_live' [0] fun ρ hL => ?_
 try simp only [go_sem, simprocAttr] at hL
 have h0 := hL
 clear hL
 refine awl_seq ?_
 refine awl_regS _ rfl fun K hK => ?_
 try simp only [go_sem, simprocAttr, h0]
 repeat' (refine And.intro (by first | rfl | omega | (simp; done)) ?_)
 refine hK _ _ (.mk (awl_live' [0, 2] fun ρ hL => ?_))
 try simp only [go_sem, simprocAttr, h0] at hL
 try clear h0
 obtain ⟨h0, h2⟩ := hL
 clear hK K
 refine awl_seq ?_
 refine awl_regS _ rfl fun K hK => ?_
 try simp only [go_sem, simprocAttr, h0, h2]
 repeat' (refine And.intro (by first | rfl | omega | (simp; done)) ?_)
 refine hK _ _ (.mk (awl_live' [2] fun ρ hL => ?_))
 try simp only [go_sem, simprocAttr, h0, h2] at hL
 try clear h0 h2
 have h2 := hL
 clear hL
 clear hK K
 refine awl_ret ?_
 refine ret0 (by simp only [go_sem, simprocAttr, h2]; exact rfl) ?_
 try simp only [go_sem, simprocAttr]
 all_goals (first | done | rfl | (simp; done) | (simp [inR]; done) | (simp_all [inR]; done) | (simp [inR]; grind))
set_option maxHeartbeats 8000000 in
set_option maxRecDepth 100000 in
theorem sat_impl_Plain (n : Int)  : Sat Tryz.prog 110 [.int .i64 n] [] (.agg (plain n).cells) [] := by
 refine sat_mk [.cell 2 42] 0 6 Tryz.call110 Tryz.func110 Tryz.ntmps110 rfl rfl rfl rfl rfl ?_
 refine awl_live' [0] fun ρ hL => ?_
 try simp only [go_sem, simprocAttr] at hL
 have h0 := hL
 clear hL
 refine awl_seq ?_
 refine awl_regS _ rfl fun K hK => ?_
 try simp only [go_sem, simprocAttr, h0]
 repeat' (refine And.intro (by first | rfl | omega | (simp; done)) ?_)
 refine hK _ _ (.mk (awl_live' [0, 2] fun ρ hL => ?_))
 try simp only [go_sem, simprocAttr, h0] at hL
 try clear h0
 obtain ⟨h0, h2⟩ := hL
 clear hK K
 refine awl_seq ?_
 refine awl_regS _ rfl fun K hK => ?_
 try simp only [go_sem, simprocAttr, h0, h2]
 repeat' (refine And.intro (by first | rfl | omega | (simp; done)) ?_)
 refine hK _ _ (.mk (awl_live' [2] fun ρ hL => ?_))
 try simp only [go_sem, simprocAttr, h0, h2] at hL
 try clear h0 h2
 have h2 := hL
 clear hL
 clear hK K
 refine awl_ret ?_
 refine ret0 (by simp only [go_sem, simprocAttr, h2]; exact rfl) ?_
 try simp only [go_sem, simprocAttr]
 all_goals (first | done | rfl | (simp; done) | (simp [inR]; done) | (simp_all [inR]; done) | (simp [inR]; grind))
set_option maxHeartbeats 8000000 in
set_option maxRecDepth 100000 in
theorem sat_impl_Bare (w : Word)  : Sat Tryz.prog 89 [.agg w.cells] [] (.agg (plain w.n).cells) [] := by
 refine sat_mk [.cell 2 42] 0 6 Tryz.call89 Tryz.func89 Tryz.ntmps89 rfl rfl rfl rfl rfl ?_
 refine awl_live' [0] fun ρ hL => ?_
 try simp only [go_sem, simprocAttr] at hL
 have h0 := hL
 clear hL
 refine awl_seq ?_
 refine awl_regS _ rfl fun K hK => ?_
 try simp only [go_sem, simprocAttr, h0]
 repeat' (refine And.intro (by first | rfl | omega | (simp; done)) ?_)
 refine hK _ _ (.mk (awl_live' [1, 2] fun ρ hL => ?_))
 try simp only [go_sem, simprocAttr, h0] at hL
 try clear h0
 obtain ⟨h1, h2⟩ := hL
 clear hK K
 refine awl_seq ?_
 refine awl_regS _ rfl fun K hK => ?_
 try simp only [go_sem, simprocAttr, h1, h2]
 repeat' (refine And.intro (by first | rfl | omega | (simp; done)) ?_)
 refine opS_call_ro rfl (sat_impl_Plain ?_) ?ha ?hv ?hh ?_
 case ha => simp only [go_sem, simprocAttr, h1, h2]; first | done | rfl
 case hv => first | rfl | (simp only [go_sem]; done)
 case hh => first | rfl | (simp only [go_sem]; done)
 try simp only [go_sem, simprocAttr, h1, h2]
 repeat' (refine And.intro (by first | rfl | omega | (simp; done)) ?_)
 refine hK _ _ (.mk (awl_live' [2] fun ρ hL => ?_))
 try simp only [go_sem, simprocAttr, h1, h2] at hL
 try clear h1 h2
 have h2 := hL
 clear hL
 clear hK K
 refine awl_ret ?_
 refine ret0 (by simp only [go_sem, simprocAttr, h2]; exact rfl) ?_
 try simp only [go_sem, simprocAttr]
 all_goals (first | done | rfl | (simp; done) | (simp [inR]; done) | (simp_all [inR]; done) | (simp [inR]; grind))
set_option maxHeartbeats 8000000 in
set_option maxRecDepth 100000 in
theorem sat_slices_Clone_int_int_N   : Sat Tryz.prog 75 [.nilsl] [] .nilsl [] := by
 refine sat_mk [.tmp 2] 0 8 Tryz.call75 Tryz.func75 Tryz.ntmps75 rfl rfl rfl rfl rfl ?_
 refine awl_live' [0] fun ρ hL => ?_
 try simp only [go_sem, simprocAttr] at hL
 have h0 := hL
 clear hL
 refine awl_seq ?_
 refine awl_regS _ rfl fun K hK => ?_
 try simp only [go_sem, simprocAttr, h0]
 repeat' (refine And.intro (by first | rfl | omega | (simp; done)) ?_)
 refine hK _ _ (.mk (awl_live' [0] fun ρ hL => ?_))
 try simp only [go_sem, simprocAttr, h0] at hL
 try clear h0
 have h0 := hL
 clear hL
 clear hK K
 refine awl_seq ?_
 refine awl_seq ?_
 refine awl_regS _ rfl fun K hK => ?_
 try simp only [go_sem, simprocAttr, h0]
 repeat' (refine And.intro (by first | rfl | omega | (simp; done)) ?_)
 refine hK _ _ (.mk (awl_live' [0, 4] fun ρ hL => ?_))
 try simp only [go_sem, simprocAttr, h0] at hL
 try clear h0
 obtain ⟨h0, h4⟩ := hL
 clear hK K
 refine awl_cond h4 (fun c1 => ?_) (fun c1 => ?_)
 ·
  try simp only [cnd] at c1
  refine awl_seq ?_
  refine awl_regS _ rfl fun K hK => ?_
  try simp only [go_sem, simprocAttr, h0, h4]
  repeat' (refine And.intro (by first | rfl | omega | (simp; done)) ?_)
  refine hK _ _ (.mk (awl_live' [2] fun ρ hL => ?_))
  try simp only [go_sem, simprocAttr, h0, h4] at hL
  try clear h0 h4
  have h2 := hL
  clear hL
  clear hK K
  refine awl_ret ?_
  refine ret0 (by simp only [go_sem, simprocAttr, h2]; exact rfl) ?_
  try simp only [go_sem, simprocAttr]
  all_goals (first | done | rfl | (simp; done) | (simp [inR]; done) | (simp_all [inR]; done) | (simp [inR]; grind))
 ·
  try simp only [cnd] at c1
  simp at c1
set_option maxHeartbeats 8000000 in
set_option maxRecDepth 100000 in
theorem sat_slices_Clone_int_int_S (xs : List Int) (c : Nat) (hb : xs.length ≤ 1099511627776) : Sat Tryz.prog 75 [.nnsl xs.length c (ints xs)] [] (.slice 0 0 xs.length 0) [⟨1, ints xs, true, false⟩] := by
 refine sat_mk [.tmp 2] 0 8 Tryz.call75 Tryz.func75 Tryz.ntmps75 rfl rfl rfl rfl rfl ?_
 refine awl_live' [0] fun ρ hL => ?_
 try simp only [go_sem, simprocAttr] at hL
 have h0 := hL
 clear hL
 refine awl_seq ?_
 refine awl_regS _ rfl fun K hK => ?_
 try simp only [go_sem, simprocAttr, h0]
 repeat' (refine And.intro (by first | rfl | omega | (simp; done)) ?_)
 refine hK _ _ (.mk (awl_live' [0] fun ρ hL => ?_))
 try simp only [go_sem, simprocAttr, h0] at hL
 try clear h0
 have h0 := hL
 clear hL
 clear hK K
 refine awl_seq ?_
 refine awl_seq ?_
 refine awl_regS _ rfl fun K hK => ?_
 try simp only [go_sem, simprocAttr, h0]
 repeat' (refine And.intro (by first | rfl | omega | (simp; done)) ?_)
 refine hK _ _ (.mk (awl_live' [0, 4] fun ρ hL => ?_))
 try simp only [go_sem, simprocAttr, h0] at hL
 try clear h0
 obtain ⟨h0, h4⟩ := hL
 clear hK K
 refine awl_cond h4 (fun c1 => ?_) (fun c1 => ?_)
 ·
  try simp only [cnd] at c1
  simp at c1
 ·
  try simp only [cnd] at c1
  refine awl_skip ?_
  refine awl_seq ?_
  refine awl_regS _ rfl fun K hK => ?_
  try simp only [go_sem, simprocAttr, h0, h4]
  repeat' (refine And.intro (by first | rfl | omega | (simp; done)) ?_)
  refine hK _ _ (.mk (awl_live' [2] fun ρ hL => ?_))
  try simp only [go_sem, simprocAttr, h0, h4] at hL
  try clear h0 h4
  have h2 := hL
  clear hL
  clear hK K
  refine awl_ret ?_
  refine retK [0] [0] rfl (by simp only [go_sem, simprocAttr, h2]; exact rfl) (by decide) (by first | rfl | (simp only [go_sem, simprocAttr, h2]; first | done | rfl)) (by first | rfl | (simp only [go_sem, simprocAttr, h2]; first | done | rfl)) ?_ ?_
  all_goals try simp only [go_sem, simprocAttr, h2]
  all_goals (first | done | rfl | (simp; done) | (simp [inR]; done) | (simp_all [inR]; done) | (simp [inR]; grind))
theorem sat_slices_Clone_int_int (xs : List Int) (c : Nat) (hb : xs.length ≤ 1099511627776) : Sat Tryz.prog 75 [.sl xs.length c (ints xs)] [] (.slice 0 0 xs.length 0) [⟨1, ints xs, true, false⟩] := by
  refine sat_sl (fun h0 _ => ?_) (sat_slices_Clone_int_int_S xs c hb)
  obtain rfl : xs = [] := List.eq_nil_of_length_eq_zero h0
  exact sat_nil_back sat_slices_Clone_int_int_N
set_option maxHeartbeats 8000000 in
set_option maxRecDepth 100000 in
theorem sat_spec_Learn (xs : List Int) (w : Word) (v : Word) (c : Nat) (hb : xs.length ≤ 1099511627776) : Sat Tryz.prog 48 [.sl xs.length c (ints xs), .agg w.cells, .agg v.cells] [] (.slice 0 0 xs.length 0) [⟨1, ints (learn xs w v), true, false⟩] := by
 refine sat_mk [.tmp 6] 0 26 Tryz.call48 Tryz.func48 Tryz.ntmps48 rfl rfl rfl rfl rfl ?_
 refine awl_live' [0, 1, 2] fun ρ hL => ?_
 try simp only [go_sem, simprocAttr] at hL
 obtain ⟨h0, h1, h2⟩ := hL
 refine awl_seq ?_
 refine awl_regS _ rfl fun K hK => ?_
 try simp only [go_sem, simprocAttr, h0, h1, h2]
 repeat' (refine And.intro (by first | rfl | omega | (simp; done)) ?_)
 refine hK _ _ (.mk (awl_live' [0, 4, 5] fun ρ hL => ?_))
 try simp only [go_sem, simprocAttr, h0, h1, h2] at hL
 try clear h0 h1 h2
 obtain ⟨h0, h4, h5⟩ := hL
 clear hK K
 refine awl_seq ?_
 refine awl_regS _ rfl fun K hK => ?_
 try simp only [go_sem, simprocAttr, h0, h4, h5]
 repeat' (refine And.intro (by first | rfl | omega | (simp; done)) ?_)
 refine hK _ _ (.mk (awl_live' [0, 4, 5, 7] fun ρ hL => ?_))
 try simp only [go_sem, simprocAttr, h0, h4, h5] at hL
 try clear h0 h4 h5
 obtain ⟨h0, h4, h5, h7⟩ := hL
 clear hK K
 refine awl_seq ?_
 refine awl_seq ?_
 have w0 : IntKind.i64.wrap ((xs.length : Int) - 1) = (xs.length : Int) - 1 := wrap64 (by omega)
 refine awl_regS _ rfl fun K hK => ?_
 try simp only [go_sem, simprocAttr, h0, h4, h5, h7, w0]
 repeat' (refine And.intro (by first | rfl | omega | (simp; done)) ?_)
 refine opS_call_ro rfl (sat_spec_l1In ?_ ?_ ?_) ?ha ?hv ?hh ?_
 case ha => simp only [go_sem, simprocAttr, h0, h4, h5, h7, w0]; first | done | rfl
 case hv => first | rfl | (simp only [go_sem]; done)
 case hh => first | rfl | (simp only [go_sem]; done)
 try simp only [go_sem, simprocAttr, h0, h4, h5, h7, w0]
 repeat' (refine And.intro (by first | rfl | omega | (simp; done)) ?_)
 refine hK _ _ (.mk (awl_live' [4, 5, 7, 16] fun ρ hL => ?_))
 try simp only [go_sem, simprocAttr, h0, h4, h5, h7, w0] at hL
 try clear h0 h4 h5 h7
 obtain ⟨h4, h5, h7, h16⟩ := hL
 clear hK K
 refine awl_cond h16 (fun c1 => ?_) (fun c1 => ?_)
 ·
  try simp only [cnd] at c1
  have hw := inR_iff.1 c1
  obtain ⟨k, hk⟩ := Int.eq_ofNat_of_zero_le hw.1
  have hk2 : k < xs.length := by omega
  refine awl_regD mixed _ rfl fun K hK => ?_
  try simp only [go_sem, simprocAttr, h4, h5, h7, h16, hk, put_ints hk2]
  repeat' (refine And.intro (by first | omega | (exact ⟨[0, 0, 2, 0, 8, 24, 56, 127, 255], by kernel_rfl⟩) | kernel_rfl) ?_)
  refine dS_call_ro rfl (sat_spec_Plain ?_) ?ha ?hv ?hh ?_
  case ha => simp only [go_sem, simprocAttr, h4, h5, h7, h16, hk, put_ints hk2]; first | done | rfl
  case hv => first | rfl | (simp only [go_sem]; done)
  case hh => first | rfl | (simp only [go_sem]; done)
  try simp only [go_sem, simprocAttr, h4, h5, h7, h16, hk, put_ints hk2]
  repeat' (refine And.intro (by first | omega | (exact ⟨[0, 0, 2, 0, 8, 24, 56, 127, 255], by kernel_rfl⟩) | kernel_rfl) ?_)
  refine hK _ _ (.mk (awl_live' [7] fun ρ hL => ?_))
  try simp only [go_sem, simprocAttr, h4, h5, h7, h16, hk, put_ints hk2] at hL
  try clear h4 h5 h7 h16
  have h7 := hL
  clear hL
  clear hK K
  refine awl_seq ?_
  refine awl_regS _ rfl fun K hK => ?_
  try simp only [go_sem, simprocAttr, h7]
  repeat' (refine And.intro (by first | rfl | omega | (simp; done)) ?_)
  refine hK _ _ (.mk (awl_live' [6] fun ρ hL => ?_))
  try simp only [go_sem, simprocAttr, h7] at hL
  try clear h7
  have h6 := hL
  clear hL
  clear hK K
  refine awl_ret ?_
  refine retK [2] [2] rfl (by simp only [go_sem, simprocAttr, h6]; exact rfl) (by decide) (by first | rfl | (simp only [go_sem, simprocAttr, h6]; first | done | rfl)) (by first | rfl | (simp only [go_sem, simprocAttr, h6]; first | done | rfl)) ?_ ?_
  all_goals try simp only [go_sem, simprocAttr, h6]
  all_goals (rw [learn, if_pos c1, hk, Int.toNat_natCast]; first | done | rfl)
 ·
  try simp only [cnd] at c1
  refine awl_skip ?_
  refine awl_seq ?_
  refine awl_regS _ rfl fun K hK => ?_
  try simp only [go_sem, simprocAttr, h4, h5, h7, h16]
  repeat' (refine And.intro (by first | rfl | omega | (simp; done)) ?_)
  refine hK _ _ (.mk (awl_live' [6] fun ρ hL => ?_))
  try simp only [go_sem, simprocAttr, h4, h5, h7, h16] at hL
  try clear h4 h5 h7 h16
  have h6 := hL
  clear hL
  clear hK K
  refine awl_ret ?_
  refine retK [2] [2] rfl (by simp only [go_sem, simprocAttr, h6]; exact rfl) (by decide) (by first | rfl | (simp only [go_sem, simprocAttr, h6]; first | done | rfl)) (by first | rfl | (simp only [go_sem, simprocAttr, h6]; first | done | rfl)) ?_ ?_
  all_goals try simp only [go_sem, simprocAttr, h6]
  all_goals (rw [learn, if_neg (by simp [c1])])
set_option maxHeartbeats 8000000 in
set_option maxRecDepth 100000 in
theorem sat_impl_Learn (xs : List Int) (w : Word) (v : Word) (c : Nat) (hb : xs.length ≤ 1099511627776) : Sat Tryz.prog 51 [.sl xs.length c (ints xs), .agg w.cells, .agg v.cells] [] (.slice 0 0 xs.length 0) [⟨1, ints (learn xs w v), true, false⟩] := by
 refine sat_mk [.tmp 6] 0 24 Tryz.call51 Tryz.func51 Tryz.ntmps51 rfl rfl rfl rfl rfl ?_
 refine awl_live' [0, 1, 2] fun ρ hL => ?_
 try simp only [go_sem, simprocAttr] at hL
 obtain ⟨h0, h1, h2⟩ := hL
 refine awl_seq ?_
 refine awl_regS _ rfl fun K hK => ?_
 try simp only [go_sem, simprocAttr, h0, h1, h2]
 repeat' (refine And.intro (by first | rfl | omega | (simp; done)) ?_)
 refine hK _ _ (.mk (awl_live' [0, 4, 5] fun ρ hL => ?_))
 try simp only [go_sem, simprocAttr, h0, h1, h2] at hL
 try clear h0 h1 h2
 obtain ⟨h0, h4, h5⟩ := hL
 clear hK K
 refine awl_seq ?_
 refine awl_regS _ rfl fun K hK => ?_
 try simp only [go_sem, simprocAttr, h0, h4, h5]
 repeat' (refine And.intro (by first | rfl | omega | (simp; done)) ?_)
 refine opS_call_ro rfl (sat_slices_Clone_int_int ?_ ?_ ?hp0) ?ha ?hv ?hh ?_
 case ha => simp only [go_sem, simprocAttr, h0, h4, h5]; first | done | rfl
 case hp0 => first | assumption | omega | (simp; done)
 case hv => first | rfl | (simp only [go_sem]; done)
 case hh => first | rfl | (simp only [go_sem]; done)
 try simp only [go_sem, simprocAttr, h0, h4, h5]
 repeat' (refine And.intro (by first | rfl | omega | (simp; done)) ?_)
 refine hK _ _ (.mk (awl_live' [0, 4, 5, 7] fun ρ hL => ?_))
 try simp only [go_sem, simprocAttr, h0, h4, h5] at hL
 try clear h0 h4 h5
 obtain ⟨h0, h4, h5, h7⟩ := hL
 clear hK K
 refine awl_seq ?_
 refine awl_seq ?_
 have w0 : IntKind.i64.wrap ((xs.length : Int) - 1) = (xs.length : Int) - 1 := wrap64 (by omega)
 refine awl_regS _ rfl fun K hK => ?_
 try simp only [go_sem, simprocAttr, h0, h4, h5, h7, w0]
 repeat' (refine And.intro (by first | rfl | omega | (simp; done)) ?_)
 refine opS_call_ro rfl (sat_impl_in ?_ ?_ ?_) ?ha ?hv ?hh ?_
 case ha => simp only [go_sem, simprocAttr, h0, h4, h5, h7, w0]; first | done | rfl
 case hv => first | rfl | (simp only [go_sem]; done)
 case hh => first | rfl | (simp only [go_sem]; done)
 try simp only [go_sem, simprocAttr, h0, h4, h5, h7, w0]
 repeat' (refine And.intro (by first | rfl | omega | (simp; done)) ?_)
 refine hK _ _ (.mk (awl_live' [4, 5, 7, 15] fun ρ hL => ?_))
 try simp only [go_sem, simprocAttr, h0, h4, h5, h7, w0] at hL
 try clear h0 h4 h5 h7
 obtain ⟨h4, h5, h7, h15⟩ := hL
 clear hK K
 refine awl_cond h15 (fun c1 => ?_) (fun c1 => ?_)
 ·
  try simp only [cnd] at c1
  have hw := inR_iff.1 c1
  obtain ⟨k, hk⟩ := Int.eq_ofNat_of_zero_le hw.1
  have hk2 : k < xs.length := by omega
  refine awl_regD mixed _ rfl fun K hK => ?_
  try simp only [go_sem, simprocAttr, h4, h5, h7, h15, hk, put_ints hk2]
  repeat' (refine And.intro (by first | omega | (exact ⟨[0, 0, 2, 0, 8, 24, 63, 127], by kernel_rfl⟩) | kernel_rfl) ?_)
  refine dS_call_ro rfl (sat_impl_Bare ?_) ?ha ?hv ?hh ?_
  case ha => simp only [go_sem, simprocAttr, h4, h5, h7, h15, hk, put_ints hk2]; first | done | rfl
  case hv => first | rfl | (simp only [go_sem]; done)
  case hh => first | rfl | (simp only [go_sem]; done)
  try simp only [go_sem, simprocAttr, h4, h5, h7, h15, hk, put_ints hk2]
  repeat' (refine And.intro (by first | omega | (exact ⟨[0, 0, 2, 0, 8, 24, 63, 127], by kernel_rfl⟩) | kernel_rfl) ?_)
  refine hK _ _ (.mk (awl_live' [7] fun ρ hL => ?_))
  try simp only [go_sem, simprocAttr, h4, h5, h7, h15, hk, put_ints hk2] at hL
  try clear h4 h5 h7 h15
  have h7 := hL
  clear hL
  clear hK K
  refine awl_seq ?_
  refine awl_regS _ rfl fun K hK => ?_
  try simp only [go_sem, simprocAttr, h7]
  repeat' (refine And.intro (by first | rfl | omega | (simp; done)) ?_)
  refine hK _ _ (.mk (awl_live' [6] fun ρ hL => ?_))
  try simp only [go_sem, simprocAttr, h7] at hL
  try clear h7
  have h6 := hL
  clear hL
  clear hK K
  refine awl_ret ?_
  refine retK [2] [2] rfl (by simp only [go_sem, simprocAttr, h6]; exact rfl) (by decide) (by first | rfl | (simp only [go_sem, simprocAttr, h6]; first | done | rfl)) (by first | rfl | (simp only [go_sem, simprocAttr, h6]; first | done | rfl)) ?_ ?_
  all_goals try simp only [go_sem, simprocAttr, h6]
  all_goals (rw [learn, if_pos c1, hk, Int.toNat_natCast]; first | done | rfl)
 ·
  try simp only [cnd] at c1
  refine awl_skip ?_
  refine awl_seq ?_
  refine awl_regS _ rfl fun K hK => ?_
  try simp only [go_sem, simprocAttr, h4, h5, h7, h15]
  repeat' (refine And.intro (by first | rfl | omega | (simp; done)) ?_)
  refine hK _ _ (.mk (awl_live' [6] fun ρ hL => ?_))
  try simp only [go_sem, simprocAttr, h4, h5, h7, h15] at hL
  try clear h4 h5 h7 h15
  have h6 := hL
  clear hL
  clear hK K
  refine awl_ret ?_
  refine retK [2] [2] rfl (by simp only [go_sem, simprocAttr, h6]; exact rfl) (by decide) (by first | rfl | (simp only [go_sem, simprocAttr, h6]; first | done | rfl)) (by first | rfl | (simp only [go_sem, simprocAttr, h6]; first | done | rfl)) ?_ ?_
  all_goals try simp only [go_sem, simprocAttr, h6]
  all_goals (rw [learn, if_neg (by simp [c1])])
set_option maxHeartbeats 8000000 in
set_option maxRecDepth 100000 in
theorem sat_laws_markIntS (xs : List Int) (t : Int) (c : Nat) (hb : xs.length ≤ 1099511627776) (ht : 0 ≤ t ∧ t ≤ 1099511627776) : Sat Tryz.prog 43 [.slice 0 0 xs.length c, .int .i64 t] [⟨1, ints xs, true, false⟩] (.int .i64 (t + xs.length)) [⟨1, ints (marks t xs.length), true, false⟩] := by
 refine sat_mk [.tmp 4] 1 19 Tryz.call43 Tryz.func43 Tryz.ntmps43 rfl rfl rfl rfl rfl ?_
 refine awl_live' [0, 1] fun ρ hL => ?_
 try simp only [go_sem, simprocAttr, List.length_append, List.length_drop, marks_len] at hL
 obtain ⟨h0, h1⟩ := hL
 refine awl_seq ?_
 refine awl_regS _ rfl fun K hK => ?_
 try simp only [go_sem, simprocAttr, h0, h1, List.length_append, List.length_drop, marks_len]
 repeat' (refine And.intro (by first | rfl | omega | (simp; done)) ?_)
 refine hK _ _ (.mk (awl_live' [0, 1] fun ρ hL => ?_))
 try simp only [go_sem, simprocAttr, h0, h1, List.length_append, List.length_drop, marks_len] at hL
 try clear h0 h1
 obtain ⟨h0, h1⟩ := hL
 clear hK K
 refine awl_seq ?_
 refine awl_seq ?_
 refine awl_regS _ rfl fun K hK => ?_
 try simp only [go_sem, simprocAttr, h0, h1, List.length_append, List.length_drop, marks_len]
 repeat' (refine And.intro (by first | rfl | omega | (simp; done)) ?_)
 refine hK _ _ (.mk (awl_live' [0, 1, 5] fun ρ hL => ?_))
 try simp only [go_sem, simprocAttr, h0, h1, List.length_append, List.length_drop, marks_len] at hL
 try clear h0 h1
 obtain ⟨h0, h1, h5⟩ := hL
 clear hK K
 have e1_0 := h0
 refine awl_loopH (fun H0 n σ G => ∃ (i : Nat), n = xs.length - i ∧ (i ≤ xs.length) ∧ liveE [0] σ ρ ∧ σ 1 = .int .i64 (t + (i : Int)) ∧ σ 5 = .int .i64 (i : Int) ∧ G = [⟨1, ints (marks t i ++ xs.drop i), true, false⟩]) (fun H0 σ G => liveE [] σ ρ ∧ σ 1 = .int .i64 (t + (xs.length : Int)) ∧ G = [⟨1, ints (marks t xs.length), true, false⟩]) ((fun (i : Nat) => xs.length - i) 0) ?init1 (fun n ρ G hI => ?round1) (fun ρ G hJ => ?after1)
 case init1 => exact ⟨0, rfl, (Nat.zero_le _), liveE_refl _ _, (by rw [h1]; simp), (h5), rfl⟩
 case round1 =>
  obtain ⟨i, hn, i1_0, hL, k1, k5, hG⟩ := hI
  subst hG
  try simp only [go_sem, simprocAttr, h0, h1, h5, List.length_append, List.length_drop, marks_len] at hL
  clear h0 h1 h5
  have h0 := hL
  clear hL
  have h1 := k1
  clear k1
  have h5 := k5
  clear k5
  refine awl_seq ?_
  refine awl_seq ?_
  refine awl_regS _ rfl fun K hK => ?_
  try simp only [go_sem, simprocAttr, h0, h1, h5, List.length_append, List.length_drop, marks_len]
  repeat' (refine And.intro (by first | rfl | omega | (simp; done)) ?_)
  refine hK _ _ (.mk (awl_live' [0, 1, 5, 9] fun ρ hL => ?_))
  try simp only [go_sem, simprocAttr, h0, h1, h5, List.length_append, List.length_drop, marks_len] at hL
  try clear h0 h1 h5
  obtain ⟨h0, h1, h5, h9⟩ := hL
  clear hK K
  refine awl_cond h9 (fun c1 => ?_) (fun c1 => ?_)
  ·
   try simp only [cnd] at c1
   have hi1 : i < xs.length := by omega
   refine awl_skip ?_
   refine awl_seq ?_
   refine awl_block fun R1 hw1 hR1 => ?_
   refine awl_seq ?_
   refine awl_regS _ rfl fun K hK => ?_
   try simp only [go_sem, simprocAttr, h0, h1, h5, h9, hi1, List.length_append, List.length_drop, marks_len]
   repeat' (refine And.intro (by first | rfl | omega | (simp; done)) ?_)
   refine hK _ _ (.mk (awl_live' [0, 1, 5] fun ρ hL => ?_))
   try simp only [go_sem, simprocAttr, h0, h1, h5, h9, hi1, List.length_append, List.length_drop, marks_len] at hL
   try clear h0 h1 h5 h9
   obtain ⟨h0, h1, h5⟩ := hL
   clear hK K
   have w5 : IntKind.i64.wrap (t + (i : Int) + 1) = t + (i : Int) + 1 := wrap64 (by omega)
   refine awl_regS _ rfl fun K hK => ?_
   try simp only [go_sem, simprocAttr, h0, h1, h5, hi1, List.length_append, List.length_drop, marks_len, w5]
   repeat' (refine And.intro (by first | rfl | omega | (simp; done)) ?_)
   refine hK _ _ (.mk (awl_live' [0, 1, 5] fun ρ hL => ?_))
   try simp only [go_sem, simprocAttr, h0, h1, h5, hi1, List.length_append, List.length_drop, marks_len, w5] at hL
   try clear h0 h1 h5
   obtain ⟨h0, h1, h5⟩ := hL
   clear hK K
   refine awl_nil ?_
   refine blk_normal (hR1 _ _ (.mk ?_))
   have w1 : IntKind.i64.wrap ((i : Int) + 1) = ((i + 1 : Nat) : Int) := by rw [wrap64 (by omega)]; omega
   refine awl_regS _ rfl fun K hK => ?_
   try simp only [go_sem, simprocAttr, h0, h1, h5, hi1, w1, List.length_append, List.length_drop, marks_len]
   repeat' (refine And.intro (by first | rfl | omega | (simp; done)) ?_)
   refine hK _ _ (.mk (awl_live' [0, 1, 5] fun ρ hL => ?_))
   try simp only [go_sem, simprocAttr, h0, h1, h5, hi1, w1, List.length_append, List.length_drop, marks_len] at hL
   try clear h0 h1 h5
   obtain ⟨h0, h1, h5⟩ := hL
   clear hK K
   refine awl_nil ?_
   refine loop_again _ ?meas ⟨i + 1, rfl, (by omega), (by simp only [go_sem, simprocAttr, h0, h1, h5, hi1, List.length_append, List.length_drop, marks_len, e1_0]), (by rw [h1]; congr 1; omega), (h5), by rw [put_ints (by simp [marks_len]; omega), marks_set hi1]⟩
   case meas => subst hn; omega
  ·
   try simp only [cnd] at c1
   refine awl_exit ?_
   refine loop_break ?_
   exact ⟨(by simp only [go_sem, simprocAttr, h0, h1, h5, h9, List.length_append, List.length_drop, marks_len, e1_0]), (by rw [h1, show i = xs.length by omega]), by rw [show i = xs.length by omega]; simp⟩
 case after1 =>
  obtain ⟨hL, k1, hG⟩ := hJ
  subst hG
  clear h0 h1 h5
  clear hL
  have h1 := k1
  clear k1
  refine awl_seq ?_
  refine awl_regS _ rfl fun K hK => ?_
  try simp only [go_sem, simprocAttr, h1, List.length_append, List.length_drop, marks_len]
  repeat' (refine And.intro (by first | rfl | omega | (simp; done)) ?_)
  refine hK _ _ (.mk (awl_live' [4] fun ρ hL => ?_))
  try simp only [go_sem, simprocAttr, h1, List.length_append, List.length_drop, marks_len] at hL
  try clear h1
  have h4 := hL
  clear hL
  clear hK K
  refine awl_ret ?_
  refine retK [] [0] rfl (by simp only [go_sem, simprocAttr, h4, List.length_append, List.length_drop, marks_len]; exact rfl) (by decide) (by first | rfl | (simp only [go_sem, simprocAttr, h4, List.length_append, List.length_drop, marks_len]; first | done | rfl)) (by first | rfl | (simp only [go_sem, simprocAttr, h4, List.length_append, List.length_drop, marks_len]; first | done | rfl)) ?_ ?_
  all_goals try simp only [go_sem, simprocAttr, h4, List.length_append, List.length_drop, marks_len]
  all_goals try clear hR1
  all_goals (first | done | rfl | (simp; done) | (simp [inR]; done) | (simp_all [inR]; done) | (simp [inR]; grind))
set_option maxHeartbeats 8000000 in
set_option maxRecDepth 100000 in
theorem sat_laws_heldIntS (z : Nat) (t : Int) (c : Nat) (hb : z ≤ 1099511627776) (ht : 0 ≤ t ∧ t ≤ 1099511627776) : Sat Tryz.prog 46 [.sl z c (ints (marks t z)), .int .i64 t] [] (.int .i64 (t + z)) [] := by
 refine sat_mk [.tmp 4] 0 21 Tryz.call46 Tryz.func46 Tryz.ntmps46 rfl rfl rfl rfl rfl ?_
 refine awl_live' [0, 1] fun ρ hL => ?_
 try simp only [go_sem, simprocAttr, marks_len] at hL
 obtain ⟨h0, h1⟩ := hL
 refine awl_seq ?_
 refine awl_regS _ rfl fun K hK => ?_
 try simp only [go_sem, simprocAttr, h0, h1, marks_len]
 repeat' (refine And.intro (by first | rfl | omega | (simp; done)) ?_)
 refine hK _ _ (.mk (awl_live' [0, 1] fun ρ hL => ?_))
 try simp only [go_sem, simprocAttr, h0, h1, marks_len] at hL
 try clear h0 h1
 obtain ⟨h0, h1⟩ := hL
 clear hK K
 refine awl_seq ?_
 refine awl_seq ?_
 refine awl_regS _ rfl fun K hK => ?_
 try simp only [go_sem, simprocAttr, h0, h1, marks_len]
 repeat' (refine And.intro (by first | rfl | omega | (simp; done)) ?_)
 refine hK _ _ (.mk (awl_live' [0, 1, 5] fun ρ hL => ?_))
 try simp only [go_sem, simprocAttr, h0, h1, marks_len] at hL
 try clear h0 h1
 obtain ⟨h0, h1, h5⟩ := hL
 clear hK K
 have e1_0 := h0
 refine awl_loopH (fun H0 n σ G => ∃ (i : Nat), n = z - i ∧ (i ≤ z) ∧ liveE [0] σ ρ ∧ σ 1 = .int .i64 (t + (i : Int)) ∧ σ 5 = .int .i64 (i : Int) ∧ G = H0) (fun H0 σ G => liveE [] σ ρ ∧ σ 1 = .int .i64 (t + (z : Int)) ∧ G = H0) ((fun (i : Nat) => z - i) 0) ?init1 (fun n ρ G hI => ?round1) (fun ρ G hJ => ?after1)
 case init1 => exact ⟨0, rfl, (Nat.zero_le _), liveE_refl _ _, (by rw [h1]; simp), (h5), rfl⟩
 case round1 =>
  obtain ⟨i, hn, i1_0, hL, k1, k5, hG⟩ := hI
  subst hG
  try simp only [go_sem, simprocAttr, h0, h1, h5, marks_len] at hL
  clear h0 h1 h5
  have h0 := hL
  clear hL
  have h1 := k1
  clear k1
  have h5 := k5
  clear k5
  refine awl_seq ?_
  refine awl_seq ?_
  refine awl_regS _ rfl fun K hK => ?_
  try simp only [go_sem, simprocAttr, h0, h1, h5, marks_len]
  repeat' (refine And.intro (by first | rfl | omega | (simp; done)) ?_)
  refine hK _ _ (.mk (awl_live' [0, 1, 5, 9] fun ρ hL => ?_))
  try simp only [go_sem, simprocAttr, h0, h1, h5, marks_len] at hL
  try clear h0 h1 h5
  obtain ⟨h0, h1, h5, h9⟩ := hL
  clear hK K
  refine awl_cond h9 (fun c1 => ?_) (fun c1 => ?_)
  ·
   try simp only [cnd] at c1
   have hi1 : i < z := by omega
   refine awl_skip ?_
   refine awl_seq ?_
   refine awl_block fun R1 hw1 hR1 => ?_
   refine awl_seq ?_
   refine awl_seq ?_
   have hm : (marks t z).getD i 0 = t + (i : Int) := marks_get hi1
   refine awl_regS _ rfl fun K hK => ?_
   try simp only [go_sem, simprocAttr, h0, h1, h5, h9, hi1, marks_len, hm]
   repeat' (refine And.intro (by first | rfl | omega | (simp; done)) ?_)
   refine hK _ _ (.mk (awl_live' [0, 1, 5, 17] fun ρ hL => ?_))
   try simp only [go_sem, simprocAttr, h0, h1, h5, h9, hi1, marks_len, hm] at hL
   try clear h0 h1 h5 h9
   obtain ⟨h0, h1, h5, h17⟩ := hL
   clear hK K
   refine awl_cond h17 (fun c2 => ?_) (fun c2 => ?_)
   ·
    try simp only [cnd] at c2
    simp at c2
   ·
    try simp only [cnd] at c2
    refine awl_skip ?_
    have w5 : IntKind.i64.wrap (t + (i : Int) + 1) = t + (i : Int) + 1 := wrap64 (by omega)
    refine awl_regS _ rfl fun K hK => ?_
    try simp only [go_sem, simprocAttr, h0, h1, h5, h17, hi1, marks_len, w5]
    repeat' (refine And.intro (by first | rfl | omega | (simp; done)) ?_)
    refine hK _ _ (.mk (awl_live' [0, 1, 5] fun ρ hL => ?_))
    try simp only [go_sem, simprocAttr, h0, h1, h5, h17, hi1, marks_len, w5] at hL
    try clear h0 h1 h5 h17
    obtain ⟨h0, h1, h5⟩ := hL
    clear hK K
    refine awl_nil ?_
    refine blk_normal (hR1 _ _ (.mk ?_))
    have w1 : IntKind.i64.wrap ((i : Int) + 1) = ((i + 1 : Nat) : Int) := by rw [wrap64 (by omega)]; omega
    refine awl_regS _ rfl fun K hK => ?_
    try simp only [go_sem, simprocAttr, h0, h1, h5, hi1, w1, marks_len]
    repeat' (refine And.intro (by first | rfl | omega | (simp; done)) ?_)
    refine hK _ _ (.mk (awl_live' [0, 1, 5] fun ρ hL => ?_))
    try simp only [go_sem, simprocAttr, h0, h1, h5, hi1, w1, marks_len] at hL
    try clear h0 h1 h5
    obtain ⟨h0, h1, h5⟩ := hL
    clear hK K
    refine awl_nil ?_
    refine loop_again _ ?meas ⟨i + 1, rfl, (by omega), (by simp only [go_sem, simprocAttr, h0, h1, h5, hi1, marks_len, e1_0]), (by rw [h1]; congr 1; omega), (h5), rfl⟩
    case meas => subst hn; omega
  ·
   try simp only [cnd] at c1
   refine awl_exit ?_
   refine loop_break ?_
   exact ⟨(by simp only [go_sem, simprocAttr, h0, h1, h5, h9, marks_len, e1_0]), (by rw [h1, show i = z by omega]), rfl⟩
 case after1 =>
  obtain ⟨hL, k1, hG⟩ := hJ
  subst hG
  clear h0 h1 h5
  clear hL
  have h1 := k1
  clear k1
  refine awl_seq ?_
  refine awl_regS _ rfl fun K hK => ?_
  try simp only [go_sem, simprocAttr, h1, marks_len]
  repeat' (refine And.intro (by first | rfl | omega | (simp; done)) ?_)
  refine hK _ _ (.mk (awl_live' [4] fun ρ hL => ?_))
  try simp only [go_sem, simprocAttr, h1, marks_len] at hL
  try clear h1
  have h4 := hL
  clear hL
  clear hK K
  refine awl_ret ?_
  refine ret0 (by simp only [go_sem, simprocAttr, h4, marks_len]; exact rfl) ?_
  try simp only [go_sem, simprocAttr]
  all_goals try clear hR1
  all_goals (first | done | rfl | (simp; done) | (simp [inR]; done) | (simp_all [inR]; done) | (simp [inR]; grind))
end Go.Proofs.YtopjagninmjkbaaGreat.AM
