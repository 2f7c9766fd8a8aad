/- Committing. No conditions but those each theorem bears. -/
import Derived.Test.YtopjagninmjkbaaGreatFa
import Derived.Test.YtopjagninmjkbaaGreatSp15
import Derived.Test.YtopjagninmjkbaaGreatCa14
import Derived.Test.YtopjagninmjkbaaGreatCa34
import Derived.Test.YtopjagninmjkbaaGreatCa29x
set_option linter.unusedSimpArgs false
set_option linter.unusedVariables false
namespace Go.Proofs.YtopjagninmjkbaaGreat.AM
open Go

set_option maxHeartbeats 8000000 in
set_option maxRecDepth 100000 in
theorem sat_slices_Delete_impl_Entry_impl_Entry (xs : List Ent) (hp : 0 < xs.length) (hb : xs.length ≤ 1048576) : Sat Tryz.prog 50 [.slice 0 0 xs.length 0, .int .i64 0, .int .i64 1] [⟨40, rows xs, true, false⟩] (.slice 0 0 (xs.length - 1) 0) [⟨40, rows (xs.drop 1), true, false⟩] := by
 refine sat_mk [.tmp 6] 1 33 Tryz.call50 Tryz.func50 Tryz.ntmps50 rfl rfl rfl rfl rfl ?_
 refine awl_live' [0, 1, 2] fun ρ hL => ?_
 try simp only [go_sem, simprocAttr] at hL
 obtain ⟨h0, h1, h2⟩ := hL
 refine awl_seq ?_
 refine awl_regS _ rfl fun K hK => ?_
 try simp only [go_sem, simprocAttr, h0, h1, h2]
 repeat' (refine And.intro (by first | rfl | omega | (simp; done)) ?_)
 refine hK _ _ (.mk (awl_live' [0, 1, 2] fun ρ hL => ?_))
 try simp only [go_sem, simprocAttr, h0, h1, h2] at hL
 try clear h0 h1 h2
 obtain ⟨h0, h1, h2⟩ := hL
 clear hK K
 refine awl_seq ?_
 have q1 : (0 : Int) ≤ (xs.length : Int) := by omega
 have q2 : (1 : Int) ≤ (xs.length : Int) := by omega
 have q3 : (xs.length : Int) ≤ (xs.length : Int) := by omega
 have q4 : 1 ≤ xs.length := hp
 refine awl_regS _ rfl fun K hK => ?_
 try simp only [go_sem, simprocAttr, h0, h1, h2, q1, q2, q3, q4, Int.le_refl, Option.isSome_some, Option.isNone_some, Nat.sub_zero, Nat.sub_self, Nat.max_zero, Nat.zero_max, Nat.max_self, Option.isSome_none, Option.isNone_some, Option.isNone_none]
 repeat' (refine And.intro (by first | rfl | omega | (simp; done)) ?_)
 refine hK _ _ (.mk (awl_live' [0, 1, 2] fun ρ hL => ?_))
 try simp only [go_sem, simprocAttr, h0, h1, h2, q1, q2, q3, q4, Int.le_refl, Option.isSome_some, Option.isNone_some, Nat.sub_zero, Nat.sub_self, Nat.max_zero, Nat.zero_max, Nat.max_self, Option.isSome_none, Option.isNone_some, Option.isNone_none] at hL
 try clear h0 h1 h2
 obtain ⟨h0, h1, h2⟩ := hL
 clear hK K
 refine awl_seq ?_
 refine awl_seq ?_
 refine awl_regS _ rfl fun K hK => ?_
 try simp only [go_sem, simprocAttr, h0, h1, h2]
 repeat' (refine And.intro (by first | rfl | omega | (simp; done)) ?_)
 refine hK _ _ (.mk (awl_live' [0, 1, 2, 16] fun ρ hL => ?_))
 try simp only [go_sem, simprocAttr, h0, h1, h2] at hL
 try clear h0 h1 h2
 obtain ⟨h0, h1, h2, h16⟩ := hL
 clear hK K
 refine awl_cond h16 (fun c1 => ?_) (fun c1 => ?_)
 ·
  try simp only [cnd] at c1
  first | done | omega | simp at c1
 ·
  try simp only [cnd] at c1
  refine awl_skip ?_
  refine awl_seq ?_
  refine awl_regS _ rfl fun K hK => ?_
  try simp only [go_sem, simprocAttr, h0, h1, h2, h16]
  repeat' (refine And.intro (by first | rfl | omega | (simp; done)) ?_)
  refine hK _ _ (.mk (awl_live' [0, 1, 2, 7] fun ρ hL => ?_))
  try simp only [go_sem, simprocAttr, h0, h1, h2, h16] at hL
  try clear h0 h1 h2 h16
  obtain ⟨h0, h1, h2, h7⟩ := hL
  clear hK K
  refine awl_seq ?_
  have q5 : xs.length - 1 ≤ xs.length := by omega
  have q6 : (xs.length - 1) * 40 ≤ xs.length * 40 := by omega
  have q7 := ents_putHead hp
  have q8 : 1 + (xs.length - 1) = xs.length := by omega
  have q9 : 40 + (xs.length - 1) * 40 ≤ xs.length * 40 := by omega
  refine awl_regD mixed _ rfl fun K hK => ?_
  try simp only [go_sem, simprocAttr, h0, h1, h2, h7, q1, q2, q5, q6, q7, q9, hp, ents_drop1, ents_takeD rfl, Nat.sub_zero, Nat.sub_self, Nat.max_zero, Nat.zero_max, Nat.max_self, Option.isSome_none, Option.isNone_some, Option.isNone_none]
  repeat' (refine And.intro (by first | omega | (exact ⟨[0, 0, 3, 0, 0, 24, 63, 127], by kernel_rfl⟩) | kernel_rfl) ?_)
  refine hK _ _ (.mk (awl_live' [0, 7] fun ρ hL => ?_))
  try simp only [go_sem, simprocAttr, h0, h1, h2, h7, q1, q2, q5, q6, q7, q9, hp, ents_drop1, ents_takeD rfl, Nat.sub_zero, Nat.sub_self, Nat.max_zero, Nat.zero_max, Nat.max_self, Option.isSome_none, Option.isNone_some, Option.isNone_none] at hL
  try clear h0 h1 h2 h7
  obtain ⟨h0, h7⟩ := hL
  clear hK K
  refine awl_seq ?_
  have r1 : (0 : Int) ≤ ((xs.length - 1 : Nat) : Int) := by omega
  have r2 : ((xs.length - 1 : Nat) : Int) ≤ (xs.length : Int) := by omega
  have r3 : xs.length - (xs.length - 1) = 1 := by omega
  have r4 : max (xs.length - 1) xs.length = xs.length := by omega
  have r5 : (xs.length - 1) * 40 + 40 ≤ (xs.length - 1 + 1) * 40 := by omega
  refine awl_regS _ rfl fun K hK => ?_
  try simp only [go_sem, simprocAttr, h0, h7, r1, r2, r3, r4, q1, q3, List.length_append, List.length_drop, Nat.sub_zero, Nat.sub_self, Nat.max_zero, Nat.zero_max, Nat.max_self, Option.isSome_none, Option.isNone_some, Option.isNone_none]
  repeat' (refine And.intro (by first | rfl | omega | (simp; done)) ?_)
  refine hK _ _ (.mk (awl_live' [0] fun ρ hL => ?_))
  try simp only [go_sem, simprocAttr, h0, h7, r1, r2, r3, r4, q1, q3, List.length_append, List.length_drop, Nat.sub_zero, Nat.sub_self, Nat.max_zero, Nat.zero_max, Nat.max_self, Option.isSome_none, Option.isNone_some, Option.isNone_none] at hL
  try clear h0 h7
  have h0 := hL
  clear hL
  clear hK K
  refine awl_seq ?_
  refine awl_regS _ rfl fun K hK => ?_
  try simp only [go_sem, simprocAttr, h0]
  repeat' (refine And.intro (by first | rfl | omega | (simp; done)) ?_)
  refine hK _ _ (.mk (awl_live' [6] fun ρ hL => ?_))
  try simp only [go_sem, simprocAttr, h0] at hL
  try clear h0
  have h6 := hL
  clear hL
  clear hK K
  refine awl_ret ?_
  refine ret_wk (Wk.norm [] (RefE.refl.upd h6 (Ref.cap _ _ _ _ 0 (Nat.zero_le _)))) ?_
  refine ret_wk (Wk.trunc 0 ((xs.length - 1) * 40) rfl) ?_
  refine retK [] [0] rfl (by simp only [go_sem, simprocAttr, h6]; exact rfl) (by decide) (by first | rfl | (simp only [go_sem, simprocAttr, h6]; first | done | rfl)) (by first | rfl | (simp only [go_sem, simprocAttr, h6]; first | done | rfl)) ?_ ?_
  all_goals try simp only [go_sem, simprocAttr, h6]
  all_goals (first | done | rfl | (rw [take_put (by rw [ents_len, List.length_append, List.length_drop]; omega), ents_takeN, List.take_left' (by rw [List.length_drop]), bor_rows]))
set_option maxHeartbeats 8000000 in
set_option maxRecDepth 100000 in
theorem sat_putC (x : Cor) (e : Fx) (hk : sttOk x.s = true) : Sat Tryz.prog 49 [.ptr 0 0, .agg e.cells] (⟨19, x.own 1 2 3 4 5, true, false⟩ :: x.blks) (.tuple []) (⟨19, (withS x (applyFx x.s e)).own 1 2 3 4 5, true, false⟩ :: (withS x (applyFx x.s e)).blks) := by
 refine sat_mk [] 6 45 Tryz.call49 Tryz.func49 Tryz.ntmps49 rfl rfl rfl rfl rfl ?_
 refine awl_live' [0, 1] fun ρ hL => ?_
 try simp only [go_sem, simprocAttr] at hL
 obtain ⟨h0, h1⟩ := hL
 refine awl_seq ?_
 refine awl_regS _ rfl fun K hK => ?_
 try simp only [go_sem, simprocAttr, h0, h1]
 repeat' (refine And.intro (by first | rfl | omega | (simp; done)) ?_)
 refine hK _ _ (.mk (awl_live' [0, 3] fun ρ hL => ?_))
 try simp only [go_sem, simprocAttr, h0, h1] at hL
 try clear h0 h1
 obtain ⟨h0, h3⟩ := hL
 clear hK K
 refine awl_seq ?_
 refine awl_seq ?_
 refine awl_regS _ rfl fun K hK => ?_
 try simp only [go_sem, simprocAttr, h0, h3]
 repeat' (refine And.intro (by first | rfl | omega | (simp; done)) ?_)
 refine opS_call_ro rfl (sat_impl_in ?_ ?_ ?_) ?ha ?hv ?hh ?_
 case ha => simp only [go_sem, simprocAttr, h0, h3]; first | done | rfl
 case hv => first | rfl | (simp only [go_sem]; done)
 case hh => first | rfl | (simp only [go_sem]; done)
 try simp only [go_sem, simprocAttr, h0, h3]
 repeat' (refine And.intro (by first | rfl | omega | (simp; done)) ?_)
 refine hK _ _ (.mk (awl_live' [0, 3, 6] fun ρ hL => ?_))
 try simp only [go_sem, simprocAttr, h0, h3] at hL
 try clear h0 h3
 obtain ⟨h0, h3, h6⟩ := hL
 clear hK K
 refine awl_cond h6 (fun c1 => ?_) (fun c1 => ?_)
 ·
  try simp only [cnd] at c1
  have hr_r := inR_iff.1 (show inR e.r 0 7 = true by assumption)
  have h8_r := (sttOk_parts hk).2.1
  have h24_r := memOk_parts (sttOk_parts hk).2.2.2.1
  have hn_r : (e.r).toNat < x.s.regs.length := by omega
  refine awl_regD mixed _ rfl fun K hK => ?_
  try simp only [go_sem, simprocAttr, h0, h3, h6, words_put hn_r, hn_r]
  repeat' (refine And.intro (by first | omega | (exact ⟨[0, 1, 3, 7, 0, 16, 0, 64, 255, 511], by kernel_rfl⟩) | kernel_rfl) ?_)
  refine hK _ _ (.mk (awl_live' [0, 3] fun ρ hL => ?_))
  try simp only [go_sem, simprocAttr, h0, h3, h6, words_put hn_r, hn_r] at hL
  try clear h0 h3 h6
  obtain ⟨h0, h3⟩ := hL
  clear hK K
  refine awl_seq ?_
  refine awl_seq ?_
  refine awl_regS _ rfl fun K hK => ?_
  try simp only [go_sem, simprocAttr, h0, h3]
  repeat' (refine And.intro (by first | rfl | omega | (simp; done)) ?_)
  refine opS_call_ro rfl (sat_impl_in ?_ ?_ ?_) ?ha ?hv ?hh ?_
  case ha => simp only [go_sem, simprocAttr, h0, h3]; first | done | rfl
  case hv => first | rfl | (simp only [go_sem]; done)
  case hh => first | rfl | (simp only [go_sem]; done)
  try simp only [go_sem, simprocAttr, h0, h3]
  repeat' (refine And.intro (by first | rfl | omega | (simp; done)) ?_)
  refine hK _ _ (.mk (awl_live' [0, 3, 18] fun ρ hL => ?_))
  try simp only [go_sem, simprocAttr, h0, h3] at hL
  try clear h0 h3
  obtain ⟨h0, h3, h18⟩ := hL
  clear hK K
  refine awl_cond h18 (fun c2 => ?_) (fun c2 => ?_)
  ·
   try simp only [cnd] at c2
   have hr_a := inR_iff.1 (show inR e.adr 0 23 = true by assumption)
   have h8_a := (sttOk_parts hk).2.1
   have h24_a := memOk_parts (sttOk_parts hk).2.2.2.1
   have hn_a : (e.adr).toNat < x.s.mem.words.length := by omega
   refine awl_regD mixed _ rfl fun K hK => ?_
   try simp only [go_sem, simprocAttr, h0, h3, h18, words_put hn_a, hn_a]
   repeat' (refine And.intro (by first | omega | (exact ⟨[0, 1, 3, 7, 15, 0, 32, 0, 128, 511, 1023], by kernel_rfl⟩) | kernel_rfl) ?_)
   refine hK _ _ (.mk (awl_live' [0, 3] fun ρ hL => ?_))
   try simp only [go_sem, simprocAttr, h0, h3, h18, words_put hn_a, hn_a] at hL
   try clear h0 h3 h18
   obtain ⟨h0, h3⟩ := hL
   clear hK K
   refine awl_seq ?_
   refine awl_seq ?_
   refine awl_regS _ rfl fun K hK => ?_
   try simp only [go_sem, simprocAttr, h0, h3]
   repeat' (refine And.intro (by first | rfl | omega | (simp; done)) ?_)
   refine opS_call_ro rfl (sat_impl_in ?_ ?_ ?_) ?ha ?hv ?hh ?_
   case ha => simp only [go_sem, simprocAttr, h0, h3]; first | done | rfl
   case hv => first | rfl | (simp only [go_sem]; done)
   case hh => first | rfl | (simp only [go_sem]; done)
   try simp only [go_sem, simprocAttr, h0, h3]
   repeat' (refine And.intro (by first | rfl | omega | (simp; done)) ?_)
   refine hK _ _ (.mk (awl_live' [0, 3, 31] fun ρ hL => ?_))
   try simp only [go_sem, simprocAttr, h0, h3] at hL
   try clear h0 h3
   obtain ⟨h0, h3, h31⟩ := hL
   clear hK K
   refine awl_cond h31 (fun c3 => ?_) (fun c3 => ?_)
   ·
    try simp only [cnd] at c3
    have hr_d := inR_iff.1 (show inR e.drop 0 23 = true by assumption)
    have h8_d := (sttOk_parts hk).2.1
    have h24_d := memOk_parts (sttOk_parts hk).2.2.2.1
    have hn_d : (e.drop).toNat < x.s.mem.gone.length := by omega
    refine awl_regD mixed _ rfl fun K hK => ?_
    try simp only [go_sem, simprocAttr, h0, h3, h31, bools_put hn_d, hn_d]
    repeat' (refine And.intro (by first | omega | (exact ⟨[0, 1, 3, 7, 15, 0, 32, 127, 255], by kernel_rfl⟩) | kernel_rfl) ?_)
    refine hK _ _ (.mk (awl_live' [0, 3] fun ρ hL => ?_))
    try simp only [go_sem, simprocAttr, h0, h3, h31, bools_put hn_d, hn_d] at hL
    try clear h0 h3 h31
    obtain ⟨h0, h3⟩ := hL
    clear hK K
    refine awl_regS _ rfl fun K hK => ?_
    try simp only [go_sem, simprocAttr, h0, h3]
    repeat' (refine And.intro (by first | rfl | omega | (simp; done)) ?_)
    refine hK _ _ (.mk (awl_live' [] fun ρ hL => ?_))
    clear hL h0 h3
    clear hK K
    refine awl_nil ?_
    refine end_mk ?_
    refine retK [] [0, 1, 2, 3, 4, 5] rfl (by simp only [go_sem, simprocAttr]; exact rfl) (by decide) (by first | rfl | (simp only [go_sem, simprocAttr]; first | done | rfl)) (by first | rfl | (simp only [go_sem, simprocAttr]; first | done | rfl)) ?_ ?_
    all_goals try simp only [go_sem, simprocAttr]
    all_goals ((try simp only [withS, applyFx, c1, c2, c3, if_true, if_false, Bool.false_eq_true, List.length_set]) <;> first | done | rfl)
   ·
    try simp only [cnd] at c3
    refine awl_skip ?_
    refine awl_regS _ rfl fun K hK => ?_
    try simp only [go_sem, simprocAttr, h0, h3, h31]
    repeat' (refine And.intro (by first | rfl | omega | (simp; done)) ?_)
    refine hK _ _ (.mk (awl_live' [] fun ρ hL => ?_))
    clear hL h0 h3 h31
    clear hK K
    refine awl_nil ?_
    refine end_mk ?_
    refine retK [] [0, 1, 2, 3, 4, 5] rfl (by simp only [go_sem, simprocAttr]; exact rfl) (by decide) (by first | rfl | (simp only [go_sem, simprocAttr]; first | done | rfl)) (by first | rfl | (simp only [go_sem, simprocAttr]; first | done | rfl)) ?_ ?_
    all_goals try simp only [go_sem, simprocAttr]
    all_goals ((try simp only [withS, applyFx, c1, c2, c3, if_true, if_false, Bool.false_eq_true, List.length_set]) <;> first | done | rfl)
  ·
   try simp only [cnd] at c2
   refine awl_skip ?_
   refine awl_seq ?_
   refine awl_seq ?_
   refine awl_regS _ rfl fun K hK => ?_
   try simp only [go_sem, simprocAttr, h0, h3, h18]
   repeat' (refine And.intro (by first | rfl | omega | (simp; done)) ?_)
   refine opS_call_ro rfl (sat_impl_in ?_ ?_ ?_) ?ha ?hv ?hh ?_
   case ha => simp only [go_sem, simprocAttr, h0, h3, h18]; first | done | rfl
   case hv => first | rfl | (simp only [go_sem]; done)
   case hh => first | rfl | (simp only [go_sem]; done)
   try simp only [go_sem, simprocAttr, h0, h3, h18]
   repeat' (refine And.intro (by first | rfl | omega | (simp; done)) ?_)
   refine hK _ _ (.mk (awl_live' [0, 3, 31] fun ρ hL => ?_))
   try simp only [go_sem, simprocAttr, h0, h3, h18] at hL
   try clear h0 h3 h18
   obtain ⟨h0, h3, h31⟩ := hL
   clear hK K
   refine awl_cond h31 (fun c4 => ?_) (fun c4 => ?_)
   ·
    try simp only [cnd] at c4
    have hr_d := inR_iff.1 (show inR e.drop 0 23 = true by assumption)
    have h8_d := (sttOk_parts hk).2.1
    have h24_d := memOk_parts (sttOk_parts hk).2.2.2.1
    have hn_d : (e.drop).toNat < x.s.mem.gone.length := by omega
    refine awl_regD mixed _ rfl fun K hK => ?_
    try simp only [go_sem, simprocAttr, h0, h3, h31, bools_put hn_d, hn_d]
    repeat' (refine And.intro (by first | omega | (exact ⟨[0, 1, 3, 7, 15, 0, 32, 127, 255], by kernel_rfl⟩) | kernel_rfl) ?_)
    refine hK _ _ (.mk (awl_live' [0, 3] fun ρ hL => ?_))
    try simp only [go_sem, simprocAttr, h0, h3, h31, bools_put hn_d, hn_d] at hL
    try clear h0 h3 h31
    obtain ⟨h0, h3⟩ := hL
    clear hK K
    refine awl_regS _ rfl fun K hK => ?_
    try simp only [go_sem, simprocAttr, h0, h3]
    repeat' (refine And.intro (by first | rfl | omega | (simp; done)) ?_)
    refine hK _ _ (.mk (awl_live' [] fun ρ hL => ?_))
    clear hL h0 h3
    clear hK K
    refine awl_nil ?_
    refine end_mk ?_
    refine retK [] [0, 1, 2, 3, 4, 5] rfl (by simp only [go_sem, simprocAttr]; exact rfl) (by decide) (by first | rfl | (simp only [go_sem, simprocAttr]; first | done | rfl)) (by first | rfl | (simp only [go_sem, simprocAttr]; first | done | rfl)) ?_ ?_
    all_goals try simp only [go_sem, simprocAttr]
    all_goals ((try simp only [withS, applyFx, c1, c2, c4, if_true, if_false, Bool.false_eq_true, List.length_set]) <;> first | done | rfl)
   ·
    try simp only [cnd] at c4
    refine awl_skip ?_
    refine awl_regS _ rfl fun K hK => ?_
    try simp only [go_sem, simprocAttr, h0, h3, h31]
    repeat' (refine And.intro (by first | rfl | omega | (simp; done)) ?_)
    refine hK _ _ (.mk (awl_live' [] fun ρ hL => ?_))
    clear hL h0 h3 h31
    clear hK K
    refine awl_nil ?_
    refine end_mk ?_
    refine retK [] [0, 1, 2, 3, 4, 5] rfl (by simp only [go_sem, simprocAttr]; exact rfl) (by decide) (by first | rfl | (simp only [go_sem, simprocAttr]; first | done | rfl)) (by first | rfl | (simp only [go_sem, simprocAttr]; first | done | rfl)) ?_ ?_
    all_goals try simp only [go_sem, simprocAttr]
    all_goals ((try simp only [withS, applyFx, c1, c2, c4, if_true, if_false, Bool.false_eq_true, List.length_set]) <;> first | done | rfl)
 ·
  try simp only [cnd] at c1
  refine awl_skip ?_
  refine awl_seq ?_
  refine awl_seq ?_
  refine awl_regS _ rfl fun K hK => ?_
  try simp only [go_sem, simprocAttr, h0, h3, h6]
  repeat' (refine And.intro (by first | rfl | omega | (simp; done)) ?_)
  refine opS_call_ro rfl (sat_impl_in ?_ ?_ ?_) ?ha ?hv ?hh ?_
  case ha => simp only [go_sem, simprocAttr, h0, h3, h6]; first | done | rfl
  case hv => first | rfl | (simp only [go_sem]; done)
  case hh => first | rfl | (simp only [go_sem]; done)
  try simp only [go_sem, simprocAttr, h0, h3, h6]
  repeat' (refine And.intro (by first | rfl | omega | (simp; done)) ?_)
  refine hK _ _ (.mk (awl_live' [0, 3, 18] fun ρ hL => ?_))
  try simp only [go_sem, simprocAttr, h0, h3, h6] at hL
  try clear h0 h3 h6
  obtain ⟨h0, h3, h18⟩ := hL
  clear hK K
  refine awl_cond h18 (fun c5 => ?_) (fun c5 => ?_)
  ·
   try simp only [cnd] at c5
   have hr_a := inR_iff.1 (show inR e.adr 0 23 = true by assumption)
   have h8_a := (sttOk_parts hk).2.1
   have h24_a := memOk_parts (sttOk_parts hk).2.2.2.1
   have hn_a : (e.adr).toNat < x.s.mem.words.length := by omega
   refine awl_regD mixed _ rfl fun K hK => ?_
   try simp only [go_sem, simprocAttr, h0, h3, h18, words_put hn_a, hn_a]
   repeat' (refine And.intro (by first | omega | (exact ⟨[0, 1, 3, 7, 15, 0, 32, 0, 128, 511, 1023], by kernel_rfl⟩) | kernel_rfl) ?_)
   refine hK _ _ (.mk (awl_live' [0, 3] fun ρ hL => ?_))
   try simp only [go_sem, simprocAttr, h0, h3, h18, words_put hn_a, hn_a] at hL
   try clear h0 h3 h18
   obtain ⟨h0, h3⟩ := hL
   clear hK K
   refine awl_seq ?_
   refine awl_seq ?_
   refine awl_regS _ rfl fun K hK => ?_
   try simp only [go_sem, simprocAttr, h0, h3]
   repeat' (refine And.intro (by first | rfl | omega | (simp; done)) ?_)
   refine opS_call_ro rfl (sat_impl_in ?_ ?_ ?_) ?ha ?hv ?hh ?_
   case ha => simp only [go_sem, simprocAttr, h0, h3]; first | done | rfl
   case hv => first | rfl | (simp only [go_sem]; done)
   case hh => first | rfl | (simp only [go_sem]; done)
   try simp only [go_sem, simprocAttr, h0, h3]
   repeat' (refine And.intro (by first | rfl | omega | (simp; done)) ?_)
   refine hK _ _ (.mk (awl_live' [0, 3, 31] fun ρ hL => ?_))
   try simp only [go_sem, simprocAttr, h0, h3] at hL
   try clear h0 h3
   obtain ⟨h0, h3, h31⟩ := hL
   clear hK K
   refine awl_cond h31 (fun c6 => ?_) (fun c6 => ?_)
   ·
    try simp only [cnd] at c6
    have hr_d := inR_iff.1 (show inR e.drop 0 23 = true by assumption)
    have h8_d := (sttOk_parts hk).2.1
    have h24_d := memOk_parts (sttOk_parts hk).2.2.2.1
    have hn_d : (e.drop).toNat < x.s.mem.gone.length := by omega
    refine awl_regD mixed _ rfl fun K hK => ?_
    try simp only [go_sem, simprocAttr, h0, h3, h31, bools_put hn_d, hn_d]
    repeat' (refine And.intro (by first | omega | (exact ⟨[0, 1, 3, 7, 15, 0, 32, 127, 255], by kernel_rfl⟩) | kernel_rfl) ?_)
    refine hK _ _ (.mk (awl_live' [0, 3] fun ρ hL => ?_))
    try simp only [go_sem, simprocAttr, h0, h3, h31, bools_put hn_d, hn_d] at hL
    try clear h0 h3 h31
    obtain ⟨h0, h3⟩ := hL
    clear hK K
    refine awl_regS _ rfl fun K hK => ?_
    try simp only [go_sem, simprocAttr, h0, h3]
    repeat' (refine And.intro (by first | rfl | omega | (simp; done)) ?_)
    refine hK _ _ (.mk (awl_live' [] fun ρ hL => ?_))
    clear hL h0 h3
    clear hK K
    refine awl_nil ?_
    refine end_mk ?_
    refine retK [] [0, 1, 2, 3, 4, 5] rfl (by simp only [go_sem, simprocAttr]; exact rfl) (by decide) (by first | rfl | (simp only [go_sem, simprocAttr]; first | done | rfl)) (by first | rfl | (simp only [go_sem, simprocAttr]; first | done | rfl)) ?_ ?_
    all_goals try simp only [go_sem, simprocAttr]
    all_goals ((try simp only [withS, applyFx, c1, c5, c6, if_true, if_false, Bool.false_eq_true, List.length_set]) <;> first | done | rfl)
   ·
    try simp only [cnd] at c6
    refine awl_skip ?_
    refine awl_regS _ rfl fun K hK => ?_
    try simp only [go_sem, simprocAttr, h0, h3, h31]
    repeat' (refine And.intro (by first | rfl | omega | (simp; done)) ?_)
    refine hK _ _ (.mk (awl_live' [] fun ρ hL => ?_))
    clear hL h0 h3 h31
    clear hK K
    refine awl_nil ?_
    refine end_mk ?_
    refine retK [] [0, 1, 2, 3, 4, 5] rfl (by simp only [go_sem, simprocAttr]; exact rfl) (by decide) (by first | rfl | (simp only [go_sem, simprocAttr]; first | done | rfl)) (by first | rfl | (simp only [go_sem, simprocAttr]; first | done | rfl)) ?_ ?_
    all_goals try simp only [go_sem, simprocAttr]
    all_goals ((try simp only [withS, applyFx, c1, c5, c6, if_true, if_false, Bool.false_eq_true, List.length_set]) <;> first | done | rfl)
  ·
   try simp only [cnd] at c5
   refine awl_skip ?_
   refine awl_seq ?_
   refine awl_seq ?_
   refine awl_regS _ rfl fun K hK => ?_
   try simp only [go_sem, simprocAttr, h0, h3, h18]
   repeat' (refine And.intro (by first | rfl | omega | (simp; done)) ?_)
   refine opS_call_ro rfl (sat_impl_in ?_ ?_ ?_) ?ha ?hv ?hh ?_
   case ha => simp only [go_sem, simprocAttr, h0, h3, h18]; first | done | rfl
   case hv => first | rfl | (simp only [go_sem]; done)
   case hh => first | rfl | (simp only [go_sem]; done)
   try simp only [go_sem, simprocAttr, h0, h3, h18]
   repeat' (refine And.intro (by first | rfl | omega | (simp; done)) ?_)
   refine hK _ _ (.mk (awl_live' [0, 3, 31] fun ρ hL => ?_))
   try simp only [go_sem, simprocAttr, h0, h3, h18] at hL
   try clear h0 h3 h18
   obtain ⟨h0, h3, h31⟩ := hL
   clear hK K
   refine awl_cond h31 (fun c7 => ?_) (fun c7 => ?_)
   ·
    try simp only [cnd] at c7
    have hr_d := inR_iff.1 (show inR e.drop 0 23 = true by assumption)
    have h8_d := (sttOk_parts hk).2.1
    have h24_d := memOk_parts (sttOk_parts hk).2.2.2.1
    have hn_d : (e.drop).toNat < x.s.mem.gone.length := by omega
    refine awl_regD mixed _ rfl fun K hK => ?_
    try simp only [go_sem, simprocAttr, h0, h3, h31, bools_put hn_d, hn_d]
    repeat' (refine And.intro (by first | omega | (exact ⟨[0, 1, 3, 7, 15, 0, 32, 127, 255], by kernel_rfl⟩) | kernel_rfl) ?_)
    refine hK _ _ (.mk (awl_live' [0, 3] fun ρ hL => ?_))
    try simp only [go_sem, simprocAttr, h0, h3, h31, bools_put hn_d, hn_d] at hL
    try clear h0 h3 h31
    obtain ⟨h0, h3⟩ := hL
    clear hK K
    refine awl_regS _ rfl fun K hK => ?_
    try simp only [go_sem, simprocAttr, h0, h3]
    repeat' (refine And.intro (by first | rfl | omega | (simp; done)) ?_)
    refine hK _ _ (.mk (awl_live' [] fun ρ hL => ?_))
    clear hL h0 h3
    clear hK K
    refine awl_nil ?_
    refine end_mk ?_
    refine retK [] [0, 1, 2, 3, 4, 5] rfl (by simp only [go_sem, simprocAttr]; exact rfl) (by decide) (by first | rfl | (simp only [go_sem, simprocAttr]; first | done | rfl)) (by first | rfl | (simp only [go_sem, simprocAttr]; first | done | rfl)) ?_ ?_
    all_goals try simp only [go_sem, simprocAttr]
    all_goals ((try simp only [withS, applyFx, c1, c5, c7, if_true, if_false, Bool.false_eq_true, List.length_set]) <;> first | done | rfl)
   ·
    try simp only [cnd] at c7
    refine awl_skip ?_
    refine awl_regS _ rfl fun K hK => ?_
    try simp only [go_sem, simprocAttr, h0, h3, h31]
    repeat' (refine And.intro (by first | rfl | omega | (simp; done)) ?_)
    refine hK _ _ (.mk (awl_live' [] fun ρ hL => ?_))
    clear hL h0 h3 h31
    clear hK K
    refine awl_nil ?_
    refine end_mk ?_
    refine retK [] [0, 1, 2, 3, 4, 5] rfl (by simp only [go_sem, simprocAttr]; exact rfl) (by decide) (by first | rfl | (simp only [go_sem, simprocAttr]; first | done | rfl)) (by first | rfl | (simp only [go_sem, simprocAttr]; first | done | rfl)) ?_ ?_
    all_goals try simp only [go_sem, simprocAttr]
    all_goals ((try simp only [withS, applyFx, c1, c5, c7, if_true, if_false, Bool.false_eq_true, List.length_set]) <;> first | done | rfl)
set_option maxHeartbeats 8000000 in
set_option maxRecDepth 100000 in
theorem sat_spec_Commit (c : Cor) (hf : c.fit) : Sat Tryz.prog 16 [.agg c.cells] [] (.tuple [.agg ((commit c).1.own 0 1 2 3 4), .bool (commit c).2]) (commit c).1.blks := by
 refine sat_mk [.cell 2 49, .tmp 3] 0 83 Tryz.call16 Tryz.func16 Tryz.ntmps16 rfl rfl rfl rfl rfl ?_
 refine awl_live' [0] fun ρ hL => ?_
 try simp only [go_sem, simprocAttr, withS] at hL
 have h0 := hL
 clear hL
 refine awl_seq ?_
 refine awl_regS _ rfl fun K hK => ?_
 try simp only [go_sem, simprocAttr, h0, withS]
 repeat' (refine And.intro (by first | rfl | omega | (simp; done)) ?_)
 refine hK _ _ (.mk (awl_live' [1, 2] fun ρ hL => ?_))
 try simp only [go_sem, simprocAttr, h0, withS] at hL
 try clear h0
 obtain ⟨h1, h2⟩ := hL
 clear hK K
 refine awl_seq ?_
 refine awl_seq ?_
 refine awl_regS _ rfl fun K hK => ?_
 try simp only [go_sem, simprocAttr, h1, h2, withS]
 repeat' (refine And.intro (by first | rfl | omega | (simp; done)) ?_)
 refine opS_call_ro rfl (sat_spec_CoreOk c hf) ?ha ?hv ?hh ?_
 case ha => simp only [go_sem, simprocAttr, h1, h2, withS]; first | done | rfl
 case hv => first | rfl | (simp only [go_sem]; done)
 case hh => first | rfl | (simp only [go_sem]; done)
 try simp only [go_sem, simprocAttr, h1, h2, withS]
 repeat' (refine And.intro (by first | rfl | omega | (simp; done)) ?_)
 refine hK _ _ (.mk (awl_live' [1, 2, 8] fun ρ hL => ?_))
 try simp only [go_sem, simprocAttr, h1, h2, withS] at hL
 try clear h1 h2
 obtain ⟨h1, h2, h8⟩ := hL
 clear hK K
 refine awl_cond h8 (fun c1 => ?_) (fun c1 => ?_)
 ·
  try simp only [cnd] at c1
  refine awl_seq ?_
  refine awl_regS _ rfl fun K hK => ?_
  try simp only [go_sem, simprocAttr, h1, h2, h8, withS]
  repeat' (refine And.intro (by first | rfl | omega | (simp; done)) ?_)
  refine hK _ _ (.mk (awl_live' [2, 3] fun ρ hL => ?_))
  try simp only [go_sem, simprocAttr, h1, h2, h8, withS] at hL
  try clear h1 h2 h8
  obtain ⟨h2, h3⟩ := hL
  clear hK K
  refine awl_ret ?_
  refine retN (v := .tuple [.agg [.nilsl, .int .i64 0, .bool false, .int .i64 0, .int .i64 0, .int .i64 0, .int .i64 0, .nilsl, .nilsl, .int .i64 0, .nilsl, .int .i64 0, .bool false, .int .i64 0, .int .i64 0, .int .i64 0, .int .i64 0, .bool false, .nilsl], .bool false]) [6, 6, 1, 40, 1] [2, 3, 4, 5, 6] [2, 3, 4, 5, 6] rfl (by simp only [go_sem, simprocAttr, h2, h3, withS]; exact rfl) (by first | rfl | (simp only [go_sem, simprocAttr, h2, h3, withS]; first | done | rfl)) (Ref.tuple (RefL.cons (Ref.agg (RefL.cons (Ref.nil 2 ⟨Nat.le_of_ble_eq_true rfl, Nat.le_of_ble_eq_true rfl⟩) (RefL.cons (Ref.refl _) (RefL.cons (Ref.refl _) (RefL.cons (Ref.refl _) (RefL.cons (Ref.refl _) (RefL.cons (Ref.refl _) (RefL.cons (Ref.refl _) (RefL.cons (Ref.nil 3 ⟨Nat.le_of_ble_eq_true rfl, Nat.le_of_ble_eq_true rfl⟩) (RefL.cons (Ref.nil 4 ⟨Nat.le_of_ble_eq_true rfl, Nat.le_of_ble_eq_true rfl⟩) (RefL.cons (Ref.refl _) (RefL.cons (Ref.nil 5 ⟨Nat.le_of_ble_eq_true rfl, Nat.le_of_ble_eq_true rfl⟩) (RefL.cons (Ref.refl _) (RefL.cons (Ref.refl _) (RefL.cons (Ref.refl _) (RefL.cons (Ref.refl _) (RefL.cons (Ref.refl _) (RefL.cons (Ref.refl _) (RefL.cons (Ref.refl _) (RefL.cons (Ref.nil 6 ⟨Nat.le_of_ble_eq_true rfl, Nat.le_of_ble_eq_true rfl⟩) (RefL.same []))))))))))))))))))))) (RefL.same _))) rfl (by decide) rfl rfl ?_ ?_
  all_goals try simp only [go_sem, simprocAttr, h2, h3, withS]
  all_goals (rw [commit_no c1] <;> rfl)
 ·
  try simp only [cnd] at c1
  refine awl_skip ?_
  refine awl_seq ?_
  refine awl_regS _ rfl fun K hK => ?_
  try simp only [go_sem, simprocAttr, h1, h2, h8, withS]
  repeat' (refine And.intro (by first | rfl | omega | (simp; done)) ?_)
  refine opS_call_ro rfl (sat_spec_l12Copy c hf) ?ha ?hv ?hh ?_
  case ha => simp only [go_sem, simprocAttr, h1, h2, h8, withS]; first | done | rfl
  case hv => first | rfl | (simp only [go_sem]; done)
  case hh => first | rfl | (simp only [go_sem]; done)
  try simp only [go_sem, simprocAttr, h1, h2, h8, withS]
  repeat' (refine And.intro (by first | rfl | omega | (simp; done)) ?_)
  refine hK _ _ (.mk (awl_live' [1, 2, 4] fun ρ hL => ?_))
  try simp only [go_sem, simprocAttr, h1, h2, h8, withS] at hL
  try clear h1 h2 h8
  obtain ⟨h1, h2, h4⟩ := hL
  clear hK K
  refine awl_seq ?_
  refine awl_seq ?_
  refine awl_regS _ rfl fun K hK => ?_
  try simp only [go_sem, simprocAttr, h1, h2, h4, withS]
  repeat' (refine And.intro (by first | rfl | omega | (simp; done)) ?_)
  refine awpS_live [1, 2, 4, 16] fun ρ hL => ?_
  try simp only [go_sem, simprocAttr, h1, h2, h4, withS] at hL
  try clear h1 h2 h4
  obtain ⟨h1, h2, h4, h16⟩ := hL
  refine grp_orN (tc := 16) (tv := 22) (td := 23) (v := ?v1) 6 rfl [1, 2, 4] h16 rfl (fun hb K1 hK1 => ?run) (fun hb => ?skip) (fun ρ hP hL => ?_)
  case skip =>
   exact awpS_skip (want := false) (b := _) (by rw [hb]; rfl) _ [] ρ h16 (fun _ _ => rfl) (by simp) rfl
  case run =>
   simp only [List.take_succ_cons, List.take_zero]
   rw [hb] at h16
   have hp : 0 < c.rob.length := Nat.pos_of_ne_zero (fun h => by rw [h] at hb; simp at hb)
   have hpi : (0 : Int) < (c.rob.length : Int) := by omega
   have hd11 := ents_done0 hp
   try simp only [go_sem, simprocAttr, h1, h2, h4, h16, hd11, hpi, Int.le_refl, Nat.zero_mul, Int.toNat_zero, withS]
   repeat' (refine And.intro (by first | rfl | omega | (simp; done)) ?_)
   exact hK1 _ (by simp only [go_sem, simprocAttr, h1, h2, h4, h16, hd11, hpi, Int.le_refl, Nat.zero_mul, Int.toNat_zero, withS]) (by simp only [go_sem, simprocAttr, h1, h2, h4, h16, hd11, hpi, Int.le_refl, Nat.zero_mul, Int.toNat_zero, withS]; exact rfl) (by simp only [go_sem, simprocAttr, h1, h2, h4, h16, hd11, hpi, Int.le_refl, Nat.zero_mul, Int.toNat_zero, withS])
  simp only [List.drop_succ_cons, List.drop_zero]
  try simp only [go_sem, simprocAttr, h1, h2, h4, h16, withS] at hL
  try clear h1 h2 h4 h16
  obtain ⟨h1, h2, h4⟩ := hL
  have h23 := hP
  clear hP
  try simp only [go_sem, simprocAttr, h1, h2, h4, h23, withS]
  repeat' (refine And.intro (by first | rfl | omega | (simp; done)) ?_)
  refine awpS_live [1, 2, 4, 24] fun ρ hL => ?_
  try simp only [go_sem, simprocAttr, h1, h2, h4, h23, withS] at hL
  try clear h1 h2 h4 h23
  obtain ⟨h1, h2, h4, h24⟩ := hL
  refine grp_orN (tc := 24) (tv := 28) (td := 29) (v := ?v2) 4 rfl [1, 2, 4] h24 rfl (fun hb K1 hK1 => ?run) (fun hb => ?skip) (fun ρ hP hL => ?_)
  case skip =>
   exact awpS_skip (want := false) (b := _) (by rw [hb]; rfl) _ [] ρ h24 (fun _ _ => rfl) (by simp) rfl
  case run =>
   simp only [List.take_succ_cons, List.take_zero]
   rw [hb] at h24
   try simp only [go_sem, simprocAttr, h1, h2, h4, h24, withS]
   repeat' (refine And.intro (by first | rfl | omega | (simp; done)) ?_)
   exact hK1 _ (by simp only [go_sem, simprocAttr, h1, h2, h4, h24, withS]) (by simp only [go_sem, simprocAttr, h1, h2, h4, h24, withS]; exact rfl) (by simp only [go_sem, simprocAttr, h1, h2, h4, h24, withS])
  simp only [List.drop_succ_cons, List.drop_zero]
  try simp only [go_sem, simprocAttr, h1, h2, h4, h24, withS] at hL
  try clear h1 h2 h4 h24
  obtain ⟨h1, h2, h4⟩ := hL
  have h29 := hP
  clear hP
  try simp only [go_sem, simprocAttr, h1, h2, h4, h29, withS]
  repeat' (refine And.intro (by first | rfl | omega | (simp; done)) ?_)
  refine hK _ _ (.mk (awl_live' [1, 2, 4, 29] fun ρ hL => ?_))
  try simp only [go_sem, simprocAttr, h1, h2, h4, h29, withS] at hL
  try clear h1 h2 h4 h29
  obtain ⟨h1, h2, h4, h29⟩ := hL
  clear hK K
  refine awl_cond h29 (fun c2 => ?_) (fun c2 => ?_)
  ·
   try simp only [cnd] at c2
   refine awl_seq ?_
   refine awl_regS _ rfl fun K hK => ?_
   try simp only [go_sem, simprocAttr, h1, h2, h4, h29, withS]
   repeat' (refine And.intro (by first | rfl | omega | (simp; done)) ?_)
   refine hK _ _ (.mk (awl_live' [2, 3] fun ρ hL => ?_))
   try simp only [go_sem, simprocAttr, h1, h2, h4, h29, withS] at hL
   try clear h1 h2 h4 h29
   obtain ⟨h2, h3⟩ := hL
   clear hK K
   refine awl_ret ?_
   refine retK [2, 3, 4, 5, 6] [2, 3, 4, 5, 6] rfl (by simp only [go_sem, simprocAttr, h2, h3, withS]; exact rfl) (by decide) (by first | rfl | (simp only [go_sem, simprocAttr, h2, h3, withS]; first | done | rfl)) (by first | rfl | (simp only [go_sem, simprocAttr, h2, h3, withS]; first | done | rfl)) ?_ ?_
   all_goals try simp only [go_sem, simprocAttr, h2, h3, withS]
   all_goals (rw [commit_idle c1 (c2.elim (fun h => h.elim (fun h => Or.inl (List.eq_nil_of_length_eq_zero (by omega))) (fun h => Or.inr (Or.inl h))) (fun h => Or.inr (Or.inr h)))] <;> rfl)
  ·
   try simp only [cnd] at c2
   refine awl_skip ?_
   refine awl_seq ?_
   have hp : 0 < c.rob.length := by omega
   have hpi : (0 : Int) < (c.rob.length : Int) := by omega
   have ht40 := ents_take0 hp
   have hl40 : 40 ≤ c.rob.length * 40 := by omega
   have q1 : (1 : Int) ≤ (c.rob.length : Int) := by omega
   refine awl_regS _ rfl fun K hK => ?_
   try simp only [go_sem, simprocAttr, h1, h2, h4, h29, withS, ht40, hpi, hl40, Int.le_refl, Nat.zero_mul, Int.toNat_zero]
   repeat' (refine And.intro (by first | rfl | omega | (simp; done)) ?_)
   refine hK _ _ (.mk (awl_live' [1, 2, 4, 5] fun ρ hL => ?_))
   try simp only [go_sem, simprocAttr, h1, h2, h4, h29, withS, ht40, hpi, hl40, Int.le_refl, Nat.zero_mul, Int.toNat_zero] at hL
   try clear h1 h2 h4 h29
   obtain ⟨h1, h2, h4, h5⟩ := hL
   clear hK K
   refine awl_seq ?_
   refine awl_seq ?_
   refine awl_regS _ rfl fun K hK => ?_
   try simp only [go_sem, simprocAttr, h1, h2, h4, h5, withS]
   repeat' (refine And.intro (by first | rfl | omega | (simp; done)) ?_)
   refine hK _ _ (.mk (awl_live' [1, 2, 4, 5, 38] fun ρ hL => ?_))
   try simp only [go_sem, simprocAttr, h1, h2, h4, h5, withS] at hL
   try clear h1 h2 h4 h5
   obtain ⟨h1, h2, h4, h5, h38⟩ := hL
   clear hK K
   refine awl_cond h38 (fun c3 => ?_) (fun c3 => ?_)
   ·
    try simp only [cnd] at c3
    refine awl_seq ?_
    refine awl_regS _ rfl fun K hK => ?_
    try simp only [go_sem, simprocAttr, h1, h2, h4, h5, h38, withS]
    repeat' (refine And.intro (by first | rfl | omega | (simp; done)) ?_)
    refine hK _ _ (.mk (awl_live' [2, 4, 5] fun ρ hL => ?_))
    try simp only [go_sem, simprocAttr, h1, h2, h4, h5, h38, withS] at hL
    try clear h1 h2 h4 h5 h38
    obtain ⟨h2, h4, h5⟩ := hL
    clear hK K
    refine awl_seq ?_
    refine awl_regS _ rfl fun K hK => ?_
    try simp only [go_sem, simprocAttr, h2, h4, h5, withS]
    repeat' (refine And.intro (by first | rfl | omega | (simp; done)) ?_)
    refine hK _ _ (.mk (awl_live' [2, 4] fun ρ hL => ?_))
    try simp only [go_sem, simprocAttr, h2, h4, h5, withS] at hL
    try clear h2 h4 h5
    obtain ⟨h2, h4⟩ := hL
    clear hK K
    refine awl_seq ?_
    refine awl_regS _ rfl fun K hK => ?_
    try simp only [go_sem, simprocAttr, h2, h4, withS]
    repeat' (refine And.intro (by first | rfl | omega | (simp; done)) ?_)
    refine hK _ _ (.mk (awl_live' [2, 4] fun ρ hL => ?_))
    try simp only [go_sem, simprocAttr, h2, h4, withS] at hL
    try clear h2 h4
    obtain ⟨h2, h4⟩ := hL
    clear hK K
    refine awl_seq ?_
    refine awl_regS _ rfl fun K hK => ?_
    try simp only [go_sem, simprocAttr, h2, h4, withS]
    repeat' (refine And.intro (by first | rfl | omega | (simp; done)) ?_)
    refine hK _ _ (.mk (awl_live' [2, 4] fun ρ hL => ?_))
    try simp only [go_sem, simprocAttr, h2, h4, withS] at hL
    try clear h2 h4
    obtain ⟨h2, h4⟩ := hL
    clear hK K
    refine awl_seq ?_
    refine awl_regS _ rfl fun K hK => ?_
    try simp only [go_sem, simprocAttr, h2, h4, withS]
    repeat' (refine And.intro (by first | rfl | omega | (simp; done)) ?_)
    refine hK _ _ (.mk (awl_live' [2, 3] fun ρ hL => ?_))
    try simp only [go_sem, simprocAttr, h2, h4, withS] at hL
    try clear h2 h4
    obtain ⟨h2, h3⟩ := hL
    clear hK K
    refine awl_ret ?_
    refine retN (v := .tuple [.agg [.slice 2 0 c.s.regs.length 0, .int .i64 (c.rob.getD 0 noEnt).pc.n, .bool (c.rob.getD 0 noEnt).pc.is, .int .i64 (c.rob.getD 0 noEnt).pc.key.base, .int .i64 (c.rob.getD 0 noEnt).pc.key.top, .int .i64 (c.rob.getD 0 noEnt).pc.key.perms, .int .i64 (c.rob.getD 0 noEnt).pc.key.lock, .slice 3 0 c.s.mem.words.length 0, .slice 4 0 c.s.mem.gone.length 0, .int .i64 (c.rob.getD 0 noEnt).e.trap, .nilsl, .int .i64 c.next.n, .bool c.next.is, .int .i64 c.next.key.base, .int .i64 c.next.key.top, .int .i64 c.next.key.perms, .int .i64 c.next.key.lock, .bool true, .slice 6 0 c.guesses.length 0], .bool true]) [40] [2, 3, 4, 9, 6] [2, 3, 4, 9, 6] rfl (by simp only [go_sem, simprocAttr, h2, h3, withS]; exact rfl) (by first | rfl | (simp only [go_sem, simprocAttr, h2, h3, withS]; first | done | rfl)) (Ref.tuple (RefL.cons (Ref.agg (RefL.cons (Ref.refl _) (RefL.cons (Ref.refl _) (RefL.cons (Ref.refl _) (RefL.cons (Ref.refl _) (RefL.cons (Ref.refl _) (RefL.cons (Ref.refl _) (RefL.cons (Ref.refl _) (RefL.cons (Ref.refl _) (RefL.cons (Ref.refl _) (RefL.cons (Ref.refl _) (RefL.cons (Ref.nil 9 ⟨Nat.le_of_ble_eq_true rfl, Nat.le_of_ble_eq_true rfl⟩) (RefL.cons (Ref.refl _) (RefL.cons (Ref.refl _) (RefL.cons (Ref.refl _) (RefL.cons (Ref.refl _) (RefL.cons (Ref.refl _) (RefL.cons (Ref.refl _) (RefL.cons (Ref.refl _) (RefL.cons (Ref.refl _) (RefL.same []))))))))))))))))))))) (RefL.same _))) rfl (by decide) rfl rfl ?_ ?_
    all_goals try simp only [go_sem, simprocAttr, h2, h3, withS]
    all_goals (rw [commit_on c1 (fun h => h.elim (fun h => by rw [h] at hp; simp at hp) (fun h => h.elim (fun h => by rw [c2.1.2] at h; cases h) (fun h => h c2.2))), commitE_trap c3] <;> rfl)
   ·
    try simp only [cnd] at c3
    refine awl_skip ?_
    refine awl_seq ?_
    refine awl_regS _ rfl fun K hK => ?_
    try simp only [go_sem, simprocAttr, h1, h2, h4, h5, h38, withS]
    repeat' (refine And.intro (by first | rfl | omega | (simp; done)) ?_)
    refine opS_call_in [2, 3, 4] rfl (sat_spec_l9Apply c.s (c.rob.getD 0 noEnt).e (corOk_parts c1).2.1) ?ha ?hb ?hv ?hh (by decide) rfl ?_
    case ha => simp only [go_sem, simprocAttr, h1, h2, h4, h5, h38, withS]; first | done | rfl
    case hb => simp only [go_sem, simprocAttr, h1, h2, h4, h5, h38, withS]; first | done | rfl
    case hv => first | rfl | (simp only [go_sem]; done)
    case hh => first | rfl | (simp only [go_sem]; done)
    try simp only [go_sem, simprocAttr, h1, h2, h4, h5, h38, withS]
    repeat' (refine And.intro (by first | rfl | omega | (simp; done)) ?_)
    refine hK _ _ (.mk (awl_live' [1, 2, 4, 5] fun ρ hL => ?_))
    try simp only [go_sem, simprocAttr, h1, h2, h4, h5, h38, withS] at hL
    try clear h1 h2 h4 h5 h38
    obtain ⟨h1, h2, h4, h5⟩ := hL
    clear hK K
    refine awl_seq ?_
    have hb2 := hf.2.1
    refine awl_regS _ rfl fun K hK => ?_
    try simp only [go_sem, simprocAttr, h1, h2, h4, h5, withS, q1, ents_drop1, ents_takeD (xs := c.rob) rfl, List.length_drop, Nat.sub_zero, Nat.sub_self, Nat.max_zero, Nat.zero_max, Nat.max_self, Option.isSome_none, Option.isNone_some, Option.isNone_none]
    repeat' (refine And.intro (by first | rfl | omega | (simp; done)) ?_)
    refine hK _ _ (.mk (awl_live' [1, 2, 4, 5] fun ρ hL => ?_))
    try simp only [go_sem, simprocAttr, h1, h2, h4, h5, withS, q1, ents_drop1, ents_takeD (xs := c.rob) rfl, List.length_drop, Nat.sub_zero, Nat.sub_self, Nat.max_zero, Nat.zero_max, Nat.max_self, Option.isSome_none, Option.isNone_some, Option.isNone_none] at hL
    try clear h1 h2 h4 h5
    obtain ⟨h1, h2, h4, h5⟩ := hL
    clear hK K
    refine awl_seq ?_
    refine awl_regS _ rfl fun K hK => ?_
    try simp only [go_sem, simprocAttr, h1, h2, h4, h5, withS]
    repeat' (refine And.intro (by first | rfl | omega | (simp; done)) ?_)
    refine opS_call_ro rfl (sat_spec_Learn c.guesses (c.rob.getD 0 noEnt).pc (c.rob.getD 0 noEnt).e.next c.guesses.length (Nat.le_trans hf.2.2 (by decide))) ?ha ?hv ?hh ?_
    case ha => simp only [go_sem, simprocAttr, h1, h2, h4, h5, withS]; first | done | rfl
    case hv => first | rfl | (simp only [go_sem]; done)
    case hh => first | rfl | (simp only [go_sem]; done)
    try simp only [go_sem, simprocAttr, h1, h2, h4, h5, withS]
    repeat' (refine And.intro (by first | rfl | omega | (simp; done)) ?_)
    refine hK _ _ (.mk (awl_live' [2, 4, 5] fun ρ hL => ?_))
    try simp only [go_sem, simprocAttr, h1, h2, h4, h5, withS] at hL
    try clear h1 h2 h4 h5
    obtain ⟨h2, h4, h5⟩ := hL
    clear hK K
    refine awl_seq ?_
    refine awl_seq ?_
    refine awl_regS _ rfl fun K hK => ?_
    try simp only [go_sem, simprocAttr, h2, h4, h5, withS]
    repeat' (refine And.intro (by first | rfl | omega | (simp; done)) ?_)
    refine hK _ _ (.mk (awl_live' [2, 4, 75] fun ρ hL => ?_))
    try simp only [go_sem, simprocAttr, h2, h4, h5, withS] at hL
    try clear h2 h4 h5
    obtain ⟨h2, h4, h75⟩ := hL
    clear hK K
    refine awl_cond h75 (fun c4 => ?_) (fun c4 => ?_)
    ·
     try simp only [cnd] at c4
     refine awl_seq ?_
     refine awl_regS _ rfl fun K hK => ?_
     try simp only [go_sem, simprocAttr, h2, h4, h75, withS]
     repeat' (refine And.intro (by first | rfl | omega | (simp; done)) ?_)
     refine hK _ _ (.mk (awl_live' [2, 4] fun ρ hL => ?_))
     try simp only [go_sem, simprocAttr, h2, h4, h75, withS] at hL
     try clear h2 h4 h75
     obtain ⟨h2, h4⟩ := hL
     clear hK K
     refine awl_seq ?_
     refine awl_regS _ rfl fun K hK => ?_
     try simp only [go_sem, simprocAttr, h2, h4, withS]
     repeat' (refine And.intro (by first | rfl | omega | (simp; done)) ?_)
     refine hK _ _ (.mk (awl_live' [2, 4] fun ρ hL => ?_))
     try simp only [go_sem, simprocAttr, h2, h4, withS] at hL
     try clear h2 h4
     obtain ⟨h2, h4⟩ := hL
     clear hK K
     refine awl_regS _ rfl fun K hK => ?_
     try simp only [go_sem, simprocAttr, h2, h4, withS]
     repeat' (refine And.intro (by first | rfl | omega | (simp; done)) ?_)
     refine hK _ _ (.mk (awl_live' [2, 4] fun ρ hL => ?_))
     try simp only [go_sem, simprocAttr, h2, h4, withS] at hL
     try clear h2 h4
     obtain ⟨h2, h4⟩ := hL
     clear hK K
     refine awl_seq ?_
     refine awl_regS _ rfl fun K hK => ?_
     try simp only [go_sem, simprocAttr, h2, h4, withS]
     repeat' (refine And.intro (by first | rfl | omega | (simp; done)) ?_)
     refine hK _ _ (.mk (awl_live' [2, 3] fun ρ hL => ?_))
     try simp only [go_sem, simprocAttr, h2, h4, withS] at hL
     try clear h2 h4
     obtain ⟨h2, h3⟩ := hL
     clear hK K
     refine awl_ret ?_
     refine retN (v := .tuple [.agg [.slice 2 0 (applyFx c.s (c.rob.getD 0 noEnt).e).regs.length 0, .int .i64 (applyFx c.s (c.rob.getD 0 noEnt).e).pc.n, .bool (applyFx c.s (c.rob.getD 0 noEnt).e).pc.is, .int .i64 (applyFx c.s (c.rob.getD 0 noEnt).e).pc.key.base, .int .i64 (applyFx c.s (c.rob.getD 0 noEnt).e).pc.key.top, .int .i64 (applyFx c.s (c.rob.getD 0 noEnt).e).pc.key.perms, .int .i64 (applyFx c.s (c.rob.getD 0 noEnt).e).pc.key.lock, .slice 3 0 (applyFx c.s (c.rob.getD 0 noEnt).e).mem.words.length 0, .slice 4 0 (applyFx c.s (c.rob.getD 0 noEnt).e).mem.gone.length 0, .int .i64 (applyFx c.s (c.rob.getD 0 noEnt).e).trap, .nilsl, .int .i64 (applyFx c.s (c.rob.getD 0 noEnt).e).pc.n, .bool (applyFx c.s (c.rob.getD 0 noEnt).e).pc.is, .int .i64 (applyFx c.s (c.rob.getD 0 noEnt).e).pc.key.base, .int .i64 (applyFx c.s (c.rob.getD 0 noEnt).e).pc.key.top, .int .i64 (applyFx c.s (c.rob.getD 0 noEnt).e).pc.key.perms, .int .i64 (applyFx c.s (c.rob.getD 0 noEnt).e).pc.key.lock, .bool false, .slice 10 0 c.guesses.length 0], .bool true]) [40] [2, 3, 4, 11, 10] [2, 3, 4, 11, 10] rfl (by simp only [go_sem, simprocAttr, h2, h3, withS]; exact rfl) (by first | rfl | (simp only [go_sem, simprocAttr, h2, h3, withS]; first | done | rfl)) (Ref.tuple (RefL.cons (Ref.agg (RefL.cons (Ref.refl _) (RefL.cons (Ref.refl _) (RefL.cons (Ref.refl _) (RefL.cons (Ref.refl _) (RefL.cons (Ref.refl _) (RefL.cons (Ref.refl _) (RefL.cons (Ref.refl _) (RefL.cons (Ref.refl _) (RefL.cons (Ref.refl _) (RefL.cons (Ref.refl _) (RefL.cons (Ref.nil 11 ⟨Nat.le_of_ble_eq_true rfl, Nat.le_of_ble_eq_true rfl⟩) (RefL.cons (Ref.refl _) (RefL.cons (Ref.refl _) (RefL.cons (Ref.refl _) (RefL.cons (Ref.refl _) (RefL.cons (Ref.refl _) (RefL.cons (Ref.refl _) (RefL.cons (Ref.refl _) (RefL.cons (Ref.refl _) (RefL.same []))))))))))))))))))))) (RefL.same _))) rfl (by decide) rfl rfl ?_ ?_
     all_goals try simp only [go_sem, simprocAttr, h2, h3, withS]
     all_goals (rw [commit_on c1 (fun h => h.elim (fun h => by rw [h] at hp; simp at hp) (fun h => h.elim (fun h => by rw [c2.1.2] at h; cases h) (fun h => h c2.2))), commitE_drop c3 c4] <;> (try simp only [learn_len]) <;> first | done | rfl)
    ·
     try simp only [cnd] at c4
     refine awl_skip ?_
     refine awl_seq ?_
     refine awl_regS _ rfl fun K hK => ?_
     try simp only [go_sem, simprocAttr, h2, h4, h75, withS]
     repeat' (refine And.intro (by first | rfl | omega | (simp; done)) ?_)
     refine hK _ _ (.mk (awl_live' [2, 3] fun ρ hL => ?_))
     try simp only [go_sem, simprocAttr, h2, h4, h75, withS] at hL
     try clear h2 h4 h75
     obtain ⟨h2, h3⟩ := hL
     clear hK K
     refine awl_ret ?_
     refine retK [2, 3, 4, 9, 10] [2, 3, 4, 9, 10] rfl (by simp only [go_sem, simprocAttr, h2, h3, withS]; exact rfl) (by decide) (by first | rfl | (simp only [go_sem, simprocAttr, h2, h3, withS]; first | done | rfl)) (by first | rfl | (simp only [go_sem, simprocAttr, h2, h3, withS]; first | done | rfl)) ?_ ?_
     all_goals try simp only [go_sem, simprocAttr, h2, h3, withS]
     all_goals (rw [commit_on c1 (fun h => h.elim (fun h => by rw [h] at hp; simp at hp) (fun h => h.elim (fun h => by rw [c2.1.2] at h; cases h) (fun h => h c2.2))), commitE_go c3 c4] <;> (try simp only [learn_len, List.length_drop]) <;> first | done | rfl)
set_option maxHeartbeats 8000000 in
set_option maxRecDepth 100000 in
theorem sat_impl_Commit (c : Cor) (hf : c.fit) : Sat Tryz.prog 17 [.agg c.cells] [] (.tuple [.agg ((commit c).1.own 0 1 2 3 4), .bool (commit c).2]) (commit c).1.blks := by
 refine sat_mk [.cell 2 49, .tmp 3] 0 79 Tryz.call17 Tryz.func17 Tryz.ntmps17 rfl rfl rfl rfl rfl ?_
 refine awl_live' [0] fun ρ hL => ?_
 try simp only [go_sem, simprocAttr, withS] at hL
 have h0 := hL
 clear hL
 refine awl_seq ?_
 refine awl_regS _ rfl fun K hK => ?_
 try simp only [go_sem, simprocAttr, h0, withS]
 repeat' (refine And.intro (by first | rfl | omega | (simp; done)) ?_)
 refine hK _ _ (.mk (awl_live' [1, 2] fun ρ hL => ?_))
 try simp only [go_sem, simprocAttr, h0, withS] at hL
 try clear h0
 obtain ⟨h1, h2⟩ := hL
 clear hK K
 refine awl_seq ?_
 refine awl_seq ?_
 refine awl_regS _ rfl fun K hK => ?_
 try simp only [go_sem, simprocAttr, h1, h2, withS]
 repeat' (refine And.intro (by first | rfl | omega | (simp; done)) ?_)
 refine opS_call_ro rfl (sat_impl_CoreOk c hf) ?ha ?hv ?hh ?_
 case ha => simp only [go_sem, simprocAttr, h1, h2, withS]; first | done | rfl
 case hv => first | rfl | (simp only [go_sem]; done)
 case hh => first | rfl | (simp only [go_sem]; done)
 try simp only [go_sem, simprocAttr, h1, h2, withS]
 repeat' (refine And.intro (by first | rfl | omega | (simp; done)) ?_)
 refine hK _ _ (.mk (awl_live' [1, 2, 8] fun ρ hL => ?_))
 try simp only [go_sem, simprocAttr, h1, h2, withS] at hL
 try clear h1 h2
 obtain ⟨h1, h2, h8⟩ := hL
 clear hK K
 refine awl_cond h8 (fun c1 => ?_) (fun c1 => ?_)
 ·
  try simp only [cnd] at c1
  refine awl_seq ?_
  refine awl_regS _ rfl fun K hK => ?_
  try simp only [go_sem, simprocAttr, h1, h2, h8, withS]
  repeat' (refine And.intro (by first | rfl | omega | (simp; done)) ?_)
  refine hK _ _ (.mk (awl_live' [2, 3] fun ρ hL => ?_))
  try simp only [go_sem, simprocAttr, h1, h2, h8, withS] at hL
  try clear h1 h2 h8
  obtain ⟨h2, h3⟩ := hL
  clear hK K
  refine awl_ret ?_
  refine retN (v := .tuple [.agg [.nilsl, .int .i64 0, .bool false, .int .i64 0, .int .i64 0, .int .i64 0, .int .i64 0, .nilsl, .nilsl, .int .i64 0, .nilsl, .int .i64 0, .bool false, .int .i64 0, .int .i64 0, .int .i64 0, .int .i64 0, .bool false, .nilsl], .bool false]) [6, 6, 1, 40, 1] [2, 3, 4, 5, 6] [2, 3, 4, 5, 6] rfl (by simp only [go_sem, simprocAttr, h2, h3, withS]; exact rfl) (by first | rfl | (simp only [go_sem, simprocAttr, h2, h3, withS]; first | done | rfl)) (Ref.tuple (RefL.cons (Ref.agg (RefL.cons (Ref.nil 2 ⟨Nat.le_of_ble_eq_true rfl, Nat.le_of_ble_eq_true rfl⟩) (RefL.cons (Ref.refl _) (RefL.cons (Ref.refl _) (RefL.cons (Ref.refl _) (RefL.cons (Ref.refl _) (RefL.cons (Ref.refl _) (RefL.cons (Ref.refl _) (RefL.cons (Ref.nil 3 ⟨Nat.le_of_ble_eq_true rfl, Nat.le_of_ble_eq_true rfl⟩) (RefL.cons (Ref.nil 4 ⟨Nat.le_of_ble_eq_true rfl, Nat.le_of_ble_eq_true rfl⟩) (RefL.cons (Ref.refl _) (RefL.cons (Ref.nil 5 ⟨Nat.le_of_ble_eq_true rfl, Nat.le_of_ble_eq_true rfl⟩) (RefL.cons (Ref.refl _) (RefL.cons (Ref.refl _) (RefL.cons (Ref.refl _) (RefL.cons (Ref.refl _) (RefL.cons (Ref.refl _) (RefL.cons (Ref.refl _) (RefL.cons (Ref.refl _) (RefL.cons (Ref.nil 6 ⟨Nat.le_of_ble_eq_true rfl, Nat.le_of_ble_eq_true rfl⟩) (RefL.same []))))))))))))))))))))) (RefL.same _))) rfl (by decide) rfl rfl ?_ ?_
  all_goals try simp only [go_sem, simprocAttr, h2, h3, withS]
  all_goals (rw [commit_no c1] <;> rfl)
 ·
  try simp only [cnd] at c1
  refine awl_skip ?_
  refine awl_seq ?_
  refine awl_regS _ rfl fun K hK => ?_
  try simp only [go_sem, simprocAttr, h1, h2, h8, withS]
  repeat' (refine And.intro (by first | rfl | omega | (simp; done)) ?_)
  refine opS_call_ro rfl (sat_impl_cloneCore c hf) ?ha ?hv ?hh ?_
  case ha => simp only [go_sem, simprocAttr, h1, h2, h8, withS]; first | done | rfl
  case hv => first | rfl | (simp only [go_sem]; done)
  case hh => first | rfl | (simp only [go_sem]; done)
  try simp only [go_sem, simprocAttr, h1, h2, h8, withS]
  repeat' (refine And.intro (by first | rfl | omega | (simp; done)) ?_)
  refine hK _ _ (.mk (awl_live' [1, 2, 4] fun ρ hL => ?_))
  try simp only [go_sem, simprocAttr, h1, h2, h8, withS] at hL
  try clear h1 h2 h8
  obtain ⟨h1, h2, h4⟩ := hL
  clear hK K
  refine awl_seq ?_
  refine awl_seq ?_
  refine awl_regS _ rfl fun K hK => ?_
  try simp only [go_sem, simprocAttr, h1, h2, h4, withS]
  repeat' (refine And.intro (by first | rfl | omega | (simp; done)) ?_)
  refine awpS_live [1, 2, 4, 16] fun ρ hL => ?_
  try simp only [go_sem, simprocAttr, h1, h2, h4, withS] at hL
  try clear h1 h2 h4
  obtain ⟨h1, h2, h4, h16⟩ := hL
  refine grp_orN (tc := 16) (tv := 22) (td := 23) (v := ?v1) 6 rfl [1, 2, 4] h16 rfl (fun hb K1 hK1 => ?run) (fun hb => ?skip) (fun ρ hP hL => ?_)
  case skip =>
   exact awpS_skip (want := false) (b := _) (by rw [hb]; rfl) _ [] ρ h16 (fun _ _ => rfl) (by simp) rfl
  case run =>
   simp only [List.take_succ_cons, List.take_zero]
   rw [hb] at h16
   have hp : 0 < c.rob.length := Nat.pos_of_ne_zero (fun h => by rw [h] at hb; simp at hb)
   have hpi : (0 : Int) < (c.rob.length : Int) := by omega
   have hd11 := ents_done0 hp
   try simp only [go_sem, simprocAttr, h1, h2, h4, h16, hd11, hpi, Int.le_refl, Nat.zero_mul, Int.toNat_zero, withS]
   repeat' (refine And.intro (by first | rfl | omega | (simp; done)) ?_)
   exact hK1 _ (by simp only [go_sem, simprocAttr, h1, h2, h4, h16, hd11, hpi, Int.le_refl, Nat.zero_mul, Int.toNat_zero, withS]) (by simp only [go_sem, simprocAttr, h1, h2, h4, h16, hd11, hpi, Int.le_refl, Nat.zero_mul, Int.toNat_zero, withS]; exact rfl) (by simp only [go_sem, simprocAttr, h1, h2, h4, h16, hd11, hpi, Int.le_refl, Nat.zero_mul, Int.toNat_zero, withS])
  simp only [List.drop_succ_cons, List.drop_zero]
  try simp only [go_sem, simprocAttr, h1, h2, h4, h16, withS] at hL
  try clear h1 h2 h4 h16
  obtain ⟨h1, h2, h4⟩ := hL
  have h23 := hP
  clear hP
  try simp only [go_sem, simprocAttr, h1, h2, h4, h23, withS]
  repeat' (refine And.intro (by first | rfl | omega | (simp; done)) ?_)
  refine awpS_live [1, 2, 4, 24] fun ρ hL => ?_
  try simp only [go_sem, simprocAttr, h1, h2, h4, h23, withS] at hL
  try clear h1 h2 h4 h23
  obtain ⟨h1, h2, h4, h24⟩ := hL
  refine grp_orN (tc := 24) (tv := 28) (td := 29) (v := ?v2) 4 rfl [1, 2, 4] h24 rfl (fun hb K1 hK1 => ?run) (fun hb => ?skip) (fun ρ hP hL => ?_)
  case skip =>
   exact awpS_skip (want := false) (b := _) (by rw [hb]; rfl) _ [] ρ h24 (fun _ _ => rfl) (by simp) rfl
  case run =>
   simp only [List.take_succ_cons, List.take_zero]
   rw [hb] at h24
   try simp only [go_sem, simprocAttr, h1, h2, h4, h24, withS]
   repeat' (refine And.intro (by first | rfl | omega | (simp; done)) ?_)
   exact hK1 _ (by simp only [go_sem, simprocAttr, h1, h2, h4, h24, withS]) (by simp only [go_sem, simprocAttr, h1, h2, h4, h24, withS]; exact rfl) (by simp only [go_sem, simprocAttr, h1, h2, h4, h24, withS])
  simp only [List.drop_succ_cons, List.drop_zero]
  try simp only [go_sem, simprocAttr, h1, h2, h4, h24, withS] at hL
  try clear h1 h2 h4 h24
  obtain ⟨h1, h2, h4⟩ := hL
  have h29 := hP
  clear hP
  try simp only [go_sem, simprocAttr, h1, h2, h4, h29, withS]
  repeat' (refine And.intro (by first | rfl | omega | (simp; done)) ?_)
  refine hK _ _ (.mk (awl_live' [1, 2, 4, 29] fun ρ hL => ?_))
  try simp only [go_sem, simprocAttr, h1, h2, h4, h29, withS] at hL
  try clear h1 h2 h4 h29
  obtain ⟨h1, h2, h4, h29⟩ := hL
  clear hK K
  refine awl_cond h29 (fun c2 => ?_) (fun c2 => ?_)
  ·
   try simp only [cnd] at c2
   refine awl_seq ?_
   refine awl_regS _ rfl fun K hK => ?_
   try simp only [go_sem, simprocAttr, h1, h2, h4, h29, withS]
   repeat' (refine And.intro (by first | rfl | omega | (simp; done)) ?_)
   refine hK _ _ (.mk (awl_live' [2, 3] fun ρ hL => ?_))
   try simp only [go_sem, simprocAttr, h1, h2, h4, h29, withS] at hL
   try clear h1 h2 h4 h29
   obtain ⟨h2, h3⟩ := hL
   clear hK K
   refine awl_ret ?_
   refine retK [2, 3, 4, 5, 6] [2, 3, 4, 5, 6] rfl (by simp only [go_sem, simprocAttr, h2, h3, withS]; exact rfl) (by decide) (by first | rfl | (simp only [go_sem, simprocAttr, h2, h3, withS]; first | done | rfl)) (by first | rfl | (simp only [go_sem, simprocAttr, h2, h3, withS]; first | done | rfl)) ?_ ?_
   all_goals try simp only [go_sem, simprocAttr, h2, h3, withS]
   all_goals (rw [commit_idle c1 (c2.elim (fun h => h.elim (fun h => Or.inl (List.eq_nil_of_length_eq_zero (by omega))) (fun h => Or.inr (Or.inl h))) (fun h => Or.inr (Or.inr h)))] <;> rfl)
  ·
   try simp only [cnd] at c2
   refine awl_skip ?_
   refine awl_seq ?_
   have hp : 0 < c.rob.length := by omega
   have hpi : (0 : Int) < (c.rob.length : Int) := by omega
   have ht40 := ents_take0 hp
   have hl40 : 40 ≤ c.rob.length * 40 := by omega
   have q1 : (1 : Int) ≤ (c.rob.length : Int) := by omega
   refine awl_regS _ rfl fun K hK => ?_
   try simp only [go_sem, simprocAttr, h1, h2, h4, h29, withS, ht40, hpi, hl40, Int.le_refl, Nat.zero_mul, Int.toNat_zero]
   repeat' (refine And.intro (by first | rfl | omega | (simp; done)) ?_)
   refine hK _ _ (.mk (awl_live' [1, 2, 4, 5] fun ρ hL => ?_))
   try simp only [go_sem, simprocAttr, h1, h2, h4, h29, withS, ht40, hpi, hl40, Int.le_refl, Nat.zero_mul, Int.toNat_zero] at hL
   try clear h1 h2 h4 h29
   obtain ⟨h1, h2, h4, h5⟩ := hL
   clear hK K
   refine awl_seq ?_
   refine awl_seq ?_
   refine awl_regS _ rfl fun K hK => ?_
   try simp only [go_sem, simprocAttr, h1, h2, h4, h5, withS]
   repeat' (refine And.intro (by first | rfl | omega | (simp; done)) ?_)
   refine hK _ _ (.mk (awl_live' [1, 2, 4, 5, 38] fun ρ hL => ?_))
   try simp only [go_sem, simprocAttr, h1, h2, h4, h5, withS] at hL
   try clear h1 h2 h4 h5
   obtain ⟨h1, h2, h4, h5, h38⟩ := hL
   clear hK K
   refine awl_cond h38 (fun c3 => ?_) (fun c3 => ?_)
   ·
    try simp only [cnd] at c3
    refine awl_seq ?_
    refine awl_regD mixed _ rfl fun K hK => ?_
    try simp only [go_sem, simprocAttr, h1, h2, h4, h5, h38, withS]
    repeat' (refine And.intro (by first | omega | (exact ⟨[0, 1, 3, 0, 8, 7, 39, 103, 255, 511, 1023], by kernel_rfl⟩) | kernel_rfl) ?_)
    refine hK _ _ (.mk (awl_live' [2, 4] fun ρ hL => ?_))
    try simp only [go_sem, simprocAttr, h1, h2, h4, h5, h38, withS] at hL
    try clear h1 h2 h4 h5 h38
    obtain ⟨h2, h4⟩ := hL
    clear hK K
    refine awl_seq ?_
    refine awl_regS _ rfl fun K hK => ?_
    try simp only [go_sem, simprocAttr, h2, h4, withS]
    repeat' (refine And.intro (by first | rfl | omega | (simp; done)) ?_)
    refine hK _ _ (.mk (awl_live' [2, 4] fun ρ hL => ?_))
    try simp only [go_sem, simprocAttr, h2, h4, withS] at hL
    try clear h2 h4
    obtain ⟨h2, h4⟩ := hL
    clear hK K
    refine awl_seq ?_
    refine awl_regS _ rfl fun K hK => ?_
    try simp only [go_sem, simprocAttr, h2, h4, withS]
    repeat' (refine And.intro (by first | rfl | omega | (simp; done)) ?_)
    refine hK _ _ (.mk (awl_live' [2, 4] fun ρ hL => ?_))
    try simp only [go_sem, simprocAttr, h2, h4, withS] at hL
    try clear h2 h4
    obtain ⟨h2, h4⟩ := hL
    clear hK K
    refine awl_seq ?_
    refine awl_regS _ rfl fun K hK => ?_
    try simp only [go_sem, simprocAttr, h2, h4, withS]
    repeat' (refine And.intro (by first | rfl | omega | (simp; done)) ?_)
    refine hK _ _ (.mk (awl_live' [2, 3] fun ρ hL => ?_))
    try simp only [go_sem, simprocAttr, h2, h4, withS] at hL
    try clear h2 h4
    obtain ⟨h2, h3⟩ := hL
    clear hK K
    refine awl_ret ?_
    refine retN (v := .tuple [.agg [.slice 2 0 c.s.regs.length 0, .int .i64 (c.rob.getD 0 noEnt).pc.n, .bool (c.rob.getD 0 noEnt).pc.is, .int .i64 (c.rob.getD 0 noEnt).pc.key.base, .int .i64 (c.rob.getD 0 noEnt).pc.key.top, .int .i64 (c.rob.getD 0 noEnt).pc.key.perms, .int .i64 (c.rob.getD 0 noEnt).pc.key.lock, .slice 3 0 c.s.mem.words.length 0, .slice 4 0 c.s.mem.gone.length 0, .int .i64 (c.rob.getD 0 noEnt).e.trap, .nilsl, .int .i64 c.next.n, .bool c.next.is, .int .i64 c.next.key.base, .int .i64 c.next.key.top, .int .i64 c.next.key.perms, .int .i64 c.next.key.lock, .bool true, .slice 6 0 c.guesses.length 0], .bool true]) [40] [2, 3, 4, 9, 6] [2, 3, 4, 9, 6] rfl (by simp only [go_sem, simprocAttr, h2, h3, withS]; exact rfl) (by first | rfl | (simp only [go_sem, simprocAttr, h2, h3, withS]; first | done | rfl)) (Ref.tuple (RefL.cons (Ref.agg (RefL.cons (Ref.refl _) (RefL.cons (Ref.refl _) (RefL.cons (Ref.refl _) (RefL.cons (Ref.refl _) (RefL.cons (Ref.refl _) (RefL.cons (Ref.refl _) (RefL.cons (Ref.refl _) (RefL.cons (Ref.refl _) (RefL.cons (Ref.refl _) (RefL.cons (Ref.refl _) (RefL.cons (Ref.nil 9 ⟨Nat.le_of_ble_eq_true rfl, Nat.le_of_ble_eq_true rfl⟩) (RefL.cons (Ref.refl _) (RefL.cons (Ref.refl _) (RefL.cons (Ref.refl _) (RefL.cons (Ref.refl _) (RefL.cons (Ref.refl _) (RefL.cons (Ref.refl _) (RefL.cons (Ref.refl _) (RefL.cons (Ref.refl _) (RefL.same []))))))))))))))))))))) (RefL.same _))) rfl (by decide) rfl rfl ?_ ?_
    all_goals try simp only [go_sem, simprocAttr, h2, h3, withS]
    all_goals (rw [commit_on c1 (fun h => h.elim (fun h => by rw [h] at hp; simp at hp) (fun h => h.elim (fun h => by rw [c2.1.2] at h; cases h) (fun h => h c2.2))), commitE_trap c3] <;> rfl)
   ·
    try simp only [cnd] at c3
    refine awl_skip ?_
    refine awl_seq ?_
    refine awl_regS _ rfl fun K hK => ?_
    try simp only [go_sem, simprocAttr, h1, h2, h4, h5, h38, withS]
    repeat' (refine And.intro (by first | rfl | omega | (simp; done)) ?_)
    refine opS_call_in [7, 2, 3, 4, 5, 6] rfl (sat_putC c (c.rob.getD 0 noEnt).e (corOk_parts c1).2.1) ?ha ?hb ?hv ?hh (by decide) rfl ?_
    case ha => simp only [go_sem, simprocAttr, h1, h2, h4, h5, h38, withS]; first | done | rfl
    case hb => simp only [go_sem, simprocAttr, h1, h2, h4, h5, h38, withS]; first | done | rfl
    case hv => first | rfl | (simp only [go_sem]; done)
    case hh => first | rfl | (simp only [go_sem]; done)
    try simp only [go_sem, simprocAttr, h1, h2, h4, h5, h38, withS]
    repeat' (refine And.intro (by first | rfl | omega | (simp; done)) ?_)
    refine hK _ _ (.mk (awl_live' [1, 2, 4, 5] fun ρ hL => ?_))
    try simp only [go_sem, simprocAttr, h1, h2, h4, h5, h38, withS] at hL
    try clear h1 h2 h4 h5 h38
    obtain ⟨h1, h2, h4, h5⟩ := hL
    clear hK K
    refine awl_seq ?_
    refine awl_regS _ rfl fun K hK => ?_
    try simp only [go_sem, simprocAttr, h1, h2, h4, h5, withS]
    repeat' (refine And.intro (by first | rfl | omega | (simp; done)) ?_)
    refine opS_call_in [5] rfl (sat_slices_Delete_impl_Entry_impl_Entry c.rob hp hf.2.1) ?ha ?hb ?hv ?hh (by decide) rfl ?_
    case ha => simp only [go_sem, simprocAttr, h1, h2, h4, h5, withS]; first | done | rfl
    case hb => simp only [go_sem, simprocAttr, h1, h2, h4, h5, withS]; first | done | rfl
    case hv => first | rfl | (simp only [go_sem]; done)
    case hh => first | rfl | (simp only [go_sem]; done)
    try simp only [go_sem, simprocAttr, h1, h2, h4, h5, withS]
    repeat' (refine And.intro (by first | rfl | omega | (simp; done)) ?_)
    refine hK _ _ (.mk (awl_live' [1, 2, 4, 5] fun ρ hL => ?_))
    try simp only [go_sem, simprocAttr, h1, h2, h4, h5, withS] at hL
    try clear h1 h2 h4 h5
    obtain ⟨h1, h2, h4, h5⟩ := hL
    clear hK K
    refine awl_seq ?_
    refine awl_regS _ rfl fun K hK => ?_
    try simp only [go_sem, simprocAttr, h1, h2, h4, h5, withS]
    repeat' (refine And.intro (by first | rfl | omega | (simp; done)) ?_)
    refine opS_call_ro rfl (sat_impl_Learn c.guesses (c.rob.getD 0 noEnt).pc (c.rob.getD 0 noEnt).e.next c.guesses.length (Nat.le_trans hf.2.2 (by decide))) ?ha ?hv ?hh ?_
    case ha => simp only [go_sem, simprocAttr, h1, h2, h4, h5, withS]; first | done | rfl
    case hv => first | rfl | (simp only [go_sem]; done)
    case hh => first | rfl | (simp only [go_sem]; done)
    try simp only [go_sem, simprocAttr, h1, h2, h4, h5, withS]
    repeat' (refine And.intro (by first | rfl | omega | (simp; done)) ?_)
    refine hK _ _ (.mk (awl_live' [2, 4, 5] fun ρ hL => ?_))
    try simp only [go_sem, simprocAttr, h1, h2, h4, h5, withS] at hL
    try clear h1 h2 h4 h5
    obtain ⟨h2, h4, h5⟩ := hL
    clear hK K
    refine awl_seq ?_
    refine awl_seq ?_
    refine awl_regS _ rfl fun K hK => ?_
    try simp only [go_sem, simprocAttr, h2, h4, h5, withS]
    repeat' (refine And.intro (by first | rfl | omega | (simp; done)) ?_)
    refine hK _ _ (.mk (awl_live' [2, 4, 71] fun ρ hL => ?_))
    try simp only [go_sem, simprocAttr, h2, h4, h5, withS] at hL
    try clear h2 h4 h5
    obtain ⟨h2, h4, h71⟩ := hL
    clear hK K
    refine awl_cond h71 (fun c4 => ?_) (fun c4 => ?_)
    ·
     try simp only [cnd] at c4
     refine awl_seq ?_
     refine awl_regS _ rfl fun K hK => ?_
     try simp only [go_sem, simprocAttr, h2, h4, h71, withS]
     repeat' (refine And.intro (by first | rfl | omega | (simp; done)) ?_)
     refine hK _ _ (.mk (awl_live' [2, 4] fun ρ hL => ?_))
     try simp only [go_sem, simprocAttr, h2, h4, h71, withS] at hL
     try clear h2 h4 h71
     obtain ⟨h2, h4⟩ := hL
     clear hK K
     refine awl_seq ?_
     refine awl_regS _ rfl fun K hK => ?_
     try simp only [go_sem, simprocAttr, h2, h4, withS]
     repeat' (refine And.intro (by first | rfl | omega | (simp; done)) ?_)
     refine hK _ _ (.mk (awl_live' [2, 4] fun ρ hL => ?_))
     try simp only [go_sem, simprocAttr, h2, h4, withS] at hL
     try clear h2 h4
     obtain ⟨h2, h4⟩ := hL
     clear hK K
     refine awl_regS _ rfl fun K hK => ?_
     try simp only [go_sem, simprocAttr, h2, h4, withS]
     repeat' (refine And.intro (by first | rfl | omega | (simp; done)) ?_)
     refine hK _ _ (.mk (awl_live' [2, 4] fun ρ hL => ?_))
     try simp only [go_sem, simprocAttr, h2, h4, withS] at hL
     try clear h2 h4
     obtain ⟨h2, h4⟩ := hL
     clear hK K
     refine awl_seq ?_
     refine awl_regS _ rfl fun K hK => ?_
     try simp only [go_sem, simprocAttr, h2, h4, withS]
     repeat' (refine And.intro (by first | rfl | omega | (simp; done)) ?_)
     refine hK _ _ (.mk (awl_live' [2, 3] fun ρ hL => ?_))
     try simp only [go_sem, simprocAttr, h2, h4, withS] at hL
     try clear h2 h4
     obtain ⟨h2, h3⟩ := hL
     clear hK K
     refine awl_ret ?_
     refine retN (v := .tuple [.agg [.slice 2 0 (applyFx c.s (c.rob.getD 0 noEnt).e).regs.length 0, .int .i64 (applyFx c.s (c.rob.getD 0 noEnt).e).pc.n, .bool (applyFx c.s (c.rob.getD 0 noEnt).e).pc.is, .int .i64 (applyFx c.s (c.rob.getD 0 noEnt).e).pc.key.base, .int .i64 (applyFx c.s (c.rob.getD 0 noEnt).e).pc.key.top, .int .i64 (applyFx c.s (c.rob.getD 0 noEnt).e).pc.key.perms, .int .i64 (applyFx c.s (c.rob.getD 0 noEnt).e).pc.key.lock, .slice 3 0 (applyFx c.s (c.rob.getD 0 noEnt).e).mem.words.length 0, .slice 4 0 (applyFx c.s (c.rob.getD 0 noEnt).e).mem.gone.length 0, .int .i64 (applyFx c.s (c.rob.getD 0 noEnt).e).trap, .nilsl, .int .i64 (applyFx c.s (c.rob.getD 0 noEnt).e).pc.n, .bool (applyFx c.s (c.rob.getD 0 noEnt).e).pc.is, .int .i64 (applyFx c.s (c.rob.getD 0 noEnt).e).pc.key.base, .int .i64 (applyFx c.s (c.rob.getD 0 noEnt).e).pc.key.top, .int .i64 (applyFx c.s (c.rob.getD 0 noEnt).e).pc.key.perms, .int .i64 (applyFx c.s (c.rob.getD 0 noEnt).e).pc.key.lock, .bool false, .slice 9 0 c.guesses.length 0], .bool true]) [40] [2, 3, 4, 10, 9] [2, 3, 4, 10, 9] rfl (by simp only [go_sem, simprocAttr, h2, h3, withS]; exact rfl) (by first | rfl | (simp only [go_sem, simprocAttr, h2, h3, withS]; first | done | rfl)) (Ref.tuple (RefL.cons (Ref.agg (RefL.cons (Ref.refl _) (RefL.cons (Ref.refl _) (RefL.cons (Ref.refl _) (RefL.cons (Ref.refl _) (RefL.cons (Ref.refl _) (RefL.cons (Ref.refl _) (RefL.cons (Ref.refl _) (RefL.cons (Ref.refl _) (RefL.cons (Ref.refl _) (RefL.cons (Ref.refl _) (RefL.cons (Ref.nil 10 ⟨Nat.le_of_ble_eq_true rfl, Nat.le_of_ble_eq_true rfl⟩) (RefL.cons (Ref.refl _) (RefL.cons (Ref.refl _) (RefL.cons (Ref.refl _) (RefL.cons (Ref.refl _) (RefL.cons (Ref.refl _) (RefL.cons (Ref.refl _) (RefL.cons (Ref.refl _) (RefL.cons (Ref.refl _) (RefL.same []))))))))))))))))))))) (RefL.same _))) rfl (by decide) rfl rfl ?_ ?_
     all_goals try simp only [go_sem, simprocAttr, h2, h3, withS]
     all_goals (rw [commit_on c1 (fun h => h.elim (fun h => by rw [h] at hp; simp at hp) (fun h => h.elim (fun h => by rw [c2.1.2] at h; cases h) (fun h => h c2.2))), commitE_drop c3 c4] <;> (try simp only [learn_len]) <;> first | done | rfl)
    ·
     try simp only [cnd] at c4
     refine awl_skip ?_
     refine awl_seq ?_
     refine awl_regS _ rfl fun K hK => ?_
     try simp only [go_sem, simprocAttr, h2, h4, h71, withS]
     repeat' (refine And.intro (by first | rfl | omega | (simp; done)) ?_)
     refine hK _ _ (.mk (awl_live' [2, 3] fun ρ hL => ?_))
     try simp only [go_sem, simprocAttr, h2, h4, h71, withS] at hL
     try clear h2 h4 h71
     obtain ⟨h2, h3⟩ := hL
     clear hK K
     refine awl_ret ?_
     refine retK [2, 3, 4, 5, 9] [2, 3, 4, 5, 9] rfl (by simp only [go_sem, simprocAttr, h2, h3, withS]; exact rfl) (by decide) (by first | rfl | (simp only [go_sem, simprocAttr, h2, h3, withS]; first | done | rfl)) (by first | rfl | (simp only [go_sem, simprocAttr, h2, h3, withS]; first | done | rfl)) ?_ ?_
     all_goals try simp only [go_sem, simprocAttr, h2, h3, withS]
     all_goals (rw [commit_on c1 (fun h => h.elim (fun h => by rw [h] at hp; simp at hp) (fun h => h.elim (fun h => by rw [c2.1.2] at h; cases h) (fun h => h c2.2))), commitE_go c3 c4] <;> (try simp only [learn_len, List.length_drop]) <;> first | done | rfl)
end Go.Proofs.YtopjagninmjkbaaGreat.AM
